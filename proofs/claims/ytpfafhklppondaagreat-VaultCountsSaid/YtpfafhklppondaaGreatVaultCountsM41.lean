/- The law's do, kind by kind; the conditions stand as hypotheses. -/
import Derived.Test.YtpfafhklppondaaGreatVaultCountsM40
import Derived.Test.YtpfafhklppondaaGreatVaultCountsM33
import Derived.Test.YtpfafhklppondaaGreatVaultCountsM01
import Derived.Test.YtpfafhklppondaaGreatVaultCountsM12
import Derived.Deep.CutRange
import Derived.Test.YtpfafhklppondaaGreatVaultCountsM35
import Derived.Test.YtpfafhklppondaaGreatVaultCountsM17
import Derived.Test.YtpfafhklppondaaGreatVaultCountsM39
import Derived.Test.YtpfafhklppondaaGreatVaultCountsM03
import Derived.Test.YtpfafhklppondaaGreatVaultCountsM05
import Derived.Test.YtpfafhklppondaaGreatVaultCountsM11
import Derived.Test.YtpfafhklppondaaGreatVaultCountsM29
import Derived.Lib.SmallJoins
set_option maxRecDepth 100000
set_option maxHeartbeats 16000000
namespace Go.Proofs.YtpfafhklppondaaGreat.Gz
open ChangeShapes WideShapes ChangeAt RowKit Sl Cop M2 P3 X3 Q2 X2 J4 L4 E5 P4 X4 Q6 Y6 X7 Z7 K9 V9 Qy G5 E7 F7 Uy G7 J7 K7 Xy Az Bz Q9 K6 K4
section
variable {v r:Nat}{s:VaultS}{H:List VaultS}{rs:PoolS}{gs:List PageV}{fl:Int}{l:List (List Int × List PageV)}{k:Nat}
abbrev RT(r:Nat)(f:Nat)(n:Int)(rs:PoolS)(gs:List PageV)(fl:Int)(l:List (List Int × List PageV))(g:PageV)(b:Int)(s':VaultS)(H':List VaultS)(k k0:Nat):Prop:=
 ∀(F:Pr) (w:World),Sat ((RefH r rs gs fl l).star F) w→Calls Tryz.prog f #[.pointer (some ⟨r,0,none⟩),.int .i64 n] w fun e w'=>Stays w w'∧∃pv h',e= .returned (.tuple #[pv,.int .i64 b])∧PageIn h' pv g∧
  ∃rs' gs' l',Join s' H' rs' gs' fl l' k∧l'.length+k≤l.length+k0∧Sat ((Pr.own h').star ((RefH r rs' gs' fl l').star F)) w'
theorem rt_read(j:Join s H rs gs fl l k)(ok:PoolOk s.pool)(n:Int):∃Q,VStepT v 38 n s Q∧∀g b s' H',Q g b s' H'→RT r 65 n rs gs fl l g b s' H' k k:=by
 obtain⟨G,B,hfit,h1,h2⟩:=pair_read (v:=v) (r:=r) j ok n;refine⟨fun g b s' H'=>g=G∧b=B∧s'=s∧H'=H,fun F w hF=>(h1 F w hF).mono ?_,fun g b s' H' hq F w hF=> ?_⟩
 · rintro e w' ⟨t,hg,rfl,st,hs⟩
   exact⟨t,B,s,H,⟨hg,rfl,rfl,rfl⟩,by rw [hg];exact hfit,rfl,st,hs⟩
 · obtain⟨rfl,rfl,rfl,rfl⟩:=hq
   refine(h2 F w hF).mono ?_;rintro e w' ⟨st,pv,h',rfl,hp,hs⟩;exact⟨st,pv,h',rfl,hp,rs,gs,l,j,Nat.le_refl _,hs⟩
end
theorem do6_any(wb v r k:Nat)(z:LawS)(ok:LOK z k)(kind N K pk pl nx:Int)(ai ad:Option Addr)(mi ci md cd:Nat)(hK: -9223372036854775808≤K∧K≤9223372036854775807)(hkd:kind=6)(F:Pr)(w:World)(hF:OwnL (lawL wb v r z [F]) w):
 Calls Tryz.prog 27 #[.pointer (some ⟨wb,0,none⟩),.agg #[.int .i64 kind,.int .i64 N,.int .i64 K,.int .i64 pk,.int .i64 pl,.slice ai mi ci,.slice ad md cd,.int .i64 nx]] w fun e w'=>e= .returned (.bool true)∧Stays w w'∧DoneH wb v r k F w':=by
 obtain⟨s,H,rs,gs,fl,l,kv,ws,h,tv,xv,bs⟩:=z;obtain⟨j,ll,wl,bk,wk⟩:=ok;dsimp only at j ll wl bk wk;have okp:=(vault_ok (hF.pull1 (A1:=VaultA v s))).1;have hs1:=hF.alloc (opC11 kind N K pk pl (.slice ai mi ci) (.slice ad md cd) nx);have HST:=hQ ((Stays.refl w).alloc (opC11 kind N K pk pl (.slice ai mi ci) (.slice ad md cd) nx));have c1:=hs1.facts;simp only [CellsAt,Nat.reduceAdd,and_true] at c1
 have HOK:=hQ (And.intro ll (And.intro wl (And.intro bk wk)));have HK:=hQ hK;clear hK;obtain⟨Q,hV,hR⟩:=rt_read (v:=v) (r:=r) j okp N;have HV:=hQ hV;have HR:=hQ hR;subst hkd;have HS1:=hQ hs1;clear hF hs1 j ll wl bk wk okp hV hR;go_enter Tryz.func27,Tryz.ntmps27
 go_wp2_with fail
 have T1:=HST.out;have T2:=HS1.out;clear HST HS1;generalize hw0:w.alloc (opC11 6 N K pk pl (.slice ai mi ci) (.slice ad md cd) nx)=w0 at*;generalize w.heap.size=I0 at*;have HST0:=hQ T1;have HT2:=hQ T2;clear T1 T2 hw0
 go_cut [15,16] from 130 to 140 (fun t1 t2 wx=> ∃(J:Nat) (b:Int) (s':VaultS) (H':List VaultS) (tai tad:Option Addr) (tci tcd:Nat) (ys:List (Value × Value)) (g:PageV),t1= .pointer (some ⟨J,0,none⟩)∧t2= .int .i64 b∧Q g b s' H'∧Fit g∧Stays w wx∧
  OwnL [Pr.pts J (pageC g.kind g.level (.slice tai g.items.length tci) (.slice tad g.data.length tcd) g.next),PgOwn ⟨.slice tai g.items.length tci,.slice tad g.data.length tcd,ys,g⟩,VaultA v s',RefH r rs gs fl l,Pr.pts I0 (opC11 6 N K pk pl (.slice ai mi ci) (.slice ad md cd) nx),workO wb v r kv tv xv,BRest tv xv bs,WksRow kv ws,Pr.own h,F] wx)
 case first=>
  have c1:=HT2.out.facts;simp only [CellsAt,Nat.reduceAdd,and_true] at c1;refine wp_region_forked (sz:=396) (by kernel_rfl) [0,1,2,3,4,5] [(10,[],[0,1,2,3,4,5],[(6,[7,8,9],[0,1,2,4]),(11,[12],[9])]),(6,[7,8,9],[0,1,2,4],[(10,[],[0,1,2,4,7,8,9]),(11,[12],[9])])] rfl (by kernel_rfl) (by kernel_rfl) (by kernel_rfl) ?_;refine wpQ_all _ rfl rfl ?_;simp only [pick,pQ]
  iterate 6 (go_big_quiet_step (fail))
  refine wpQuiet_nil ?_;intro sx hsx;rcases List.mem_cons.1 hsx with rfl | hsx
  · have hs8:=HT2.out.drew.alloc (pageC 0 0 (.slice none 0 0) (.slice none 0 0) 0)
    have V:=hQ (HV.out _ _ (hs8.pull1 (A1:=VaultA v s)));have HSTA:=hQ (HST0.out.drew.alloc (pageC 0 0 (.slice none 0 0) (.slice none 0 0) 0));clear hs8;refine wpRest_act rfl ?_;go_wp2;refine onN_mk ?_;refine wpQ_nil ⟨?_,?_⟩
    · exact cQ
    refine wpRest_act rfl ?_;go_wp2_with fail
    refine V.out.mono ?_;rintro e w5 ⟨t,b,s',H',hq,hfit,rfl,st5,hs9⟩;rw [show w0.drew.heap.size=w0.heap.size by simp] at hs9;obtain⟨vi,vd,ys,g⟩:=t;dsimp only at hq hfit;obtain⟨_,h3⟩:=pgOwn_iff.1 hs9;obtain⟨tai,tci,e1⟩:=Row.shape h3;obtain⟨tad,tcd,e2⟩:=Row.shape h3.right.right;dsimp only at e1 e2;subst e1 e2;rw [pv_eq];dsimp only;have hs10:=OwnL.of2 hs9;clear c1;have c1:=hs10.facts
    simp only [CellsAt,Nat.reduceAdd,and_true] at c1;have hs11:=((((((hs10).set w0.heap.size 0 (.int .i64 g.kind)).set w0.heap.size 1 (.int .i64 g.level)).set w0.heap.size 2 (.slice tai g.items.length tci)).set w0.heap.size 3 (.slice tad g.data.length tcd)).set w0.heap.size 4 (.int .i64 g.next))
    have HEND:=hQ (And.intro hq (And.intro hfit (And.intro ((((((HSTA.out.trans st5).setCell ⟨w0.heap.size,0,none⟩ (.int .i64 g.kind)).setCell ⟨w0.heap.size,1,none⟩ (.int .i64 g.level)).setCell ⟨w0.heap.size,2,none⟩ (.slice tai g.items.length tci)).setCell ⟨w0.heap.size,3,none⟩ (.slice tad g.data.length tcd)).setCell ⟨w0.heap.size,4,none⟩ (.int .i64 g.next)) hs11)))
    clear hs9 hs10 hs11 h3 hq hfit st5 V HSTA;go_wp2;refine onN_mk ?_;refine wpQ_all _ rfl rfl ?_;simp only [pick,pQ];iterate 3 (go_big_quiet_step (fail))
    refine wpQuiet_nil ⟨?_,?_⟩
    · exact cQ
    refine wpRest_act rfl ?_;go_wp2;refine onN_mk ?_;refine wpQ_all _ rfl rfl ?_;simp only [pick,pQ];iterate 1 (go_big_quiet_step (fail))
    refine wpQuiet_nil ⟨?_,?_⟩
    · exact cQ
    refine wpRest_nil ?_;go_wp2;go_meet
    exact⟨_,b,s',H',tai,tad,tci,tcd,ys,g,rfl,rfl,HEND.out.1,HEND.out.2.1,HEND.out.2.2.1,HEND.out.2.2.2.to⟩
  · cases List.mem_singleton.1 hsx
    have V:=hQ (HV.out _ _ (HT2.out.drew.pull1 (A1:=VaultA v s)));refine wpRest_act rfl ?_;go_wp2_with fail
    refine V.out.mono ?_;rintro e w5 ⟨t,b,s',H',hq,hfit,rfl,st5,hs9⟩;obtain⟨vi,vd,ys,g⟩:=t;dsimp only at hq hfit;obtain⟨_,h3⟩:=pgOwn_iff.1 hs9;obtain⟨tai,tci,e1⟩:=Row.shape h3;obtain⟨tad,tcd,e2⟩:=Row.shape h3.right.right;dsimp only at e1 e2;subst e1 e2;rw [pv_eq];dsimp only;have hs10:=OwnL.of2 hs9;clear c1;have c1:=hs10.facts;simp only [CellsAt,Nat.reduceAdd,and_true] at c1
    have hs11:=hs10.alloc (pageC g.kind g.level (.slice tai g.items.length tci) (.slice tad g.data.length tcd) g.next);have HEND:=hQ (And.intro hq (And.intro hfit (And.intro ((HST0.out.drew.trans st5).alloc (pageC g.kind g.level (.slice tai g.items.length tci) (.slice tad g.data.length tcd) g.next)) hs11)));clear hs9 hs10 hs11 h3 hq hfit st5 V;go_wp2;refine onN_mk ?_;refine wpQ_all _ rfl rfl ?_
    simp only [pick,pQ];iterate 3 (go_big_quiet_step (fail))
    refine wpQuiet_nil ⟨?_,?_⟩
    · exact cQ
    refine wpRest_act rfl ?_;go_wp2;refine onN_mk ?_;refine wpQ_nil ⟨?_,?_⟩
    · exact cQ
    refine wpRest_act rfl ?_;go_wp2;refine onN_mk ?_;refine wpQ_all _ rfl rfl ?_;simp only [pick,pQ];iterate 1 (go_big_quiet_step (fail))
    refine wpQuiet_nil ⟨?_,?_⟩
    · exact cQ
    refine wpRest_nil ?_;go_wp2;go_meet
    exact⟨_,b,s',H',tai,tad,tci,tcd,ys,g,rfl,rfl,HEND.out.1,HEND.out.2.1,HEND.out.2.2.1,HEND.out.2.2.2.to⟩
 case rest=>
  obtain⟨J,b,s',H',tai,tad,tci,tcd,ys,g,rfl,rfl,hq,hfit,st1,hs2⟩:=hcut;have HRQ:=hQ (HR.out g b s' H' hq);have HFIT:=hQ hfit;have HS2:=hQ hs2;have HST1:=hQ st1;have c1:=hs2.facts;simp only [CellsAt,Nat.reduceAdd,and_true] at c1;clear HV HR hq hfit hs2 st1 HST0 HT2;go_wp2_with fail
  go_cut [17,18] from 140 to 150 (fun t1 t2 wy=> ∃(J2:Nat) (rs':PoolS) (gs':List PageV) (l':List (List Int × List PageV)) (h':Hp) (wai wad:Option Addr) (wci wcd:Nat),t1= .pointer (some ⟨J2,0,none⟩)∧t2= .int .i64 b∧Join s' H' rs' gs' fl l' k∧l'.length+k≤l.length+k∧
   PageIn h' (pageV g.kind g.level (.slice wai g.items.length wci) (.slice wad g.data.length wcd) g.next) g∧Stays w wy∧
   OwnL [Pr.pts J2 (pageC g.kind g.level (.slice wai g.items.length wci) (.slice wad g.data.length wcd) g.next),Pr.own h',RefH r rs' gs' fl l',Pr.pts J (pageC g.kind g.level (.slice tai g.items.length tci) (.slice tad g.data.length tcd) g.next),PgOwn ⟨.slice tai g.items.length tci,.slice tad g.data.length tcd,ys,g⟩,VaultA v s',Pr.pts I0 (opC11 6 N K pk pl (.slice ai mi ci) (.slice ad md cd) nx),workO wb v r kv tv xv,BRest tv xv bs,WksRow kv ws,Pr.own h,F] wy)
  case first=>
   refine wp_region_forked (sz:=396) (by kernel_rfl) [0,1,2,3,4,5] [(10,[],[0,1,2,3,4,5],[(6,[7,8,9],[0,1,2,4]),(11,[12],[9])]),(6,[7,8,9],[0,1,2,4],[(10,[],[0,1,2,4,7,8,9]),(11,[12],[9])])] rfl (by kernel_rfl) (by kernel_rfl) (by kernel_rfl) ?_;refine wpQ_all _ rfl rfl ?_;simp only [pick,pQ];iterate 6 (go_big_quiet_step (fail))
   refine wpQuiet_nil ?_;intro sx hsx;rcases List.mem_cons.1 hsx with rfl | hsx
   · have hs8:=HS2.out.drew.alloc (pageC 0 0 (.slice none 0 0) (.slice none 0 0) 0)
     have R:=hQ (HRQ.out _ _ (hs8.pull1 (A1:=RefH r rs gs fl l)));have HSTA:=hQ (HST1.out.drew.alloc (pageC 0 0 (.slice none 0 0) (.slice none 0 0) 0));clear hs8;refine wpRest_act rfl ?_;go_wp2;refine onN_mk ?_;refine wpQ_nil ⟨?_,?_⟩
     · exact cQ
     refine wpRest_act rfl ?_;go_wp2_with fail
     refine R.out.mono ?_;rintro e w5 ⟨st5,pv,h',rfl,hpg,rs',gs',l',j',hl',hs9⟩;rw [show wc.drew.heap.size=wc.heap.size by simp] at hs9;obtain⟨_,_,rfl,hi',hd'⟩:=id hpg;obtain⟨wai,wci,rfl,_,_⟩:=items_rd hi';obtain⟨wad,wcd,rfl⟩:=bytes_shape hd';have hs10:=OwnL.of2 hs9;clear c1;have c1:=hs10.facts;simp only [CellsAt,Nat.reduceAdd,and_true] at c1
     have hs11:=((((((hs10).set wc.heap.size 0 (.int .i64 g.kind)).set wc.heap.size 1 (.int .i64 g.level)).set wc.heap.size 2 (.slice wai g.items.length wci)).set wc.heap.size 3 (.slice wad g.data.length wcd)).set wc.heap.size 4 (.int .i64 g.next))
     have HEND:=hQ (And.intro j' (And.intro hl' (And.intro hpg (And.intro ((((((HSTA.out.trans st5).setCell ⟨wc.heap.size,0,none⟩ (.int .i64 g.kind)).setCell ⟨wc.heap.size,1,none⟩ (.int .i64 g.level)).setCell ⟨wc.heap.size,2,none⟩ (.slice wai g.items.length wci)).setCell ⟨wc.heap.size,3,none⟩ (.slice wad g.data.length wcd)).setCell ⟨wc.heap.size,4,none⟩ (.int .i64 g.next)) hs11))))
     clear hs9 hs10 hs11 hi' hd' hpg j' hl' st5 R HSTA;go_wp2;refine onN_mk ?_;refine wpQ_all _ rfl rfl ?_;simp only [pick,pQ];iterate 3 (go_big_quiet_step (fail))
     refine wpQuiet_nil ⟨?_,?_⟩
     · exact cQ
     refine wpRest_act rfl ?_;go_wp2;refine onN_mk ?_;refine wpQ_all _ rfl rfl ?_;simp only [pick,pQ];iterate 1 (go_big_quiet_step (fail))
     refine wpQuiet_nil ⟨?_,?_⟩
     · exact cQ
     refine wpRest_nil ?_;go_wp2;go_meet
     exact⟨_,rs',gs',l',h',wai,wad,wci,wcd,rfl,rfl,HEND.out.1,HEND.out.2.1,HEND.out.2.2.1,HEND.out.2.2.2.1,HEND.out.2.2.2.2.to⟩
   · cases List.mem_singleton.1 hsx
     have R:=hQ (HRQ.out _ _ (HS2.out.drew.pull1 (A1:=RefH r rs gs fl l)));refine wpRest_act rfl ?_;go_wp2_with fail
     refine R.out.mono ?_;rintro e w5 ⟨st5,pv,h',rfl,hpg,rs',gs',l',j',hl',hs9⟩;obtain⟨_,_,rfl,hi',hd'⟩:=id hpg;obtain⟨wai,wci,rfl,_,_⟩:=items_rd hi';obtain⟨wad,wcd,rfl⟩:=bytes_shape hd';have hs10:=OwnL.of2 hs9;clear c1;have c1:=hs10.facts;simp only [CellsAt,Nat.reduceAdd,and_true] at c1
     have hs11:=hs10.alloc (pageC g.kind g.level (.slice wai g.items.length wci) (.slice wad g.data.length wcd) g.next);have HEND:=hQ (And.intro j' (And.intro hl' (And.intro hpg (And.intro ((HST1.out.drew.trans st5).alloc (pageC g.kind g.level (.slice wai g.items.length wci) (.slice wad g.data.length wcd) g.next)) hs11))));clear hs9 hs10 hs11 hi' hd' hpg j' hl' st5 R;go_wp2;refine onN_mk ?_
     refine wpQ_all _ rfl rfl ?_;simp only [pick,pQ];iterate 3 (go_big_quiet_step (fail))
     refine wpQuiet_nil ⟨?_,?_⟩
     · exact cQ
     refine wpRest_act rfl ?_;go_wp2;refine onN_mk ?_;refine wpQ_nil ⟨?_,?_⟩
     · exact cQ
     refine wpRest_act rfl ?_;go_wp2;refine onN_mk ?_;refine wpQ_all _ rfl rfl ?_;simp only [pick,pQ];iterate 1 (go_big_quiet_step (fail))
     refine wpQuiet_nil ⟨?_,?_⟩
     · exact cQ
     refine wpRest_nil ?_;go_wp2;go_meet
     exact⟨_,rs',gs',l',h',wai,wad,wci,wcd,rfl,rfl,HEND.out.1,HEND.out.2.1,HEND.out.2.2.1,HEND.out.2.2.2.1,HEND.out.2.2.2.2.to⟩
  case rest=>
   obtain⟨J2,rs',gs',l',h',wai,wad,wci,wcd,rfl,rfl,j',hl',hpg,st2,hs3⟩:=hcut;have c1:=hs3.facts;simp only [CellsAt,Nat.reduceAdd,and_true] at c1;obtain⟨ll,wl,bk,wk⟩:=HOK.out;obtain⟨hd,hs4⟩:=(hs3.pull2 (A1:=Pr.own h) (A2:=Pr.own h')).own_join;have hs5:=book_close (h:=h.un h') (wb:=wb) (v:=v) (r:=r) (kv:=kv) (tv:=tv) (xv:=xv) (bs:=bs) (bk.sub (Hp.sub_un_left h h')) (OwnL.of1 hs4)
   have KP:=hQ (keep_any wb v r kv ⟨.slice tai g.items.length tci,.slice tad g.data.length tcd,ys,g⟩ HFIT.out (h.un h') (.slice wai g.items.length wci) (.slice wad g.data.length wcd) (hpg.sub (Hp.sub_un_right hd)) _ _ (hs5.pull3 (A1:=BookE wb v r kv (h.un h')) (A2:=PgOwn ⟨.slice tai g.items.length tci,.slice tad g.data.length tcd,ys,g⟩) (A3:=Pr.own (h.un h'))));rw [pv_eq] at KP;dsimp only at KP
   have HJ:=hQ (And.intro j' hl');have HST2:=hQ st2;clear ll wl bk wk hd hs3 hs4 hs5 j' hl' hpg st2 HS2 HST1 HRQ;go_wp2_with fail
   refine KP.out.mono ?_;rintro e w6 ⟨rfl,st6,hs6⟩;obtain⟨tv2,xv2,bs2,bk2,hs7⟩:=book_open (wb:=wb) (v:=v) (r:=r) (kv:=kv) (h:=h.un h') (OwnL.of2 hs6);have HS7:=hQ hs7;have HST6:=hQ (HST2.out.trans st6);have HBK:=hQ bk2;clear hs6 hs7 st6 bk2 KP c1;go_wp2;go_ret;obtain⟨ll,wl,bk,wk⟩:=HOK.out;have hl2:=HJ.out.2
   exact⟨rfl,HST6.out,⟨s',H',rs',gs',fl,l',kv,ws,h.un h',tv2,xv2,bs2⟩,⟨HJ.out.1,by show l'.length+k≤ _;omega,by show ws.length+k≤ _;omega,HBK.out,fun x hx=>(wk x hx).sub (Hp.sub_un_left h h')⟩,HS7.out.to⟩
end Go.Proofs.YtpfafhklppondaaGreat.Gz
namespace Go.Proofs.YtpfafhklppondaaGreat.Jz
open ChangeShapes WideShapes ChangeAt RowKit Sl Cop M2 P3 X3 Q2 X2 J4 L4 E5 P4 X4 Q6 Y6 X7 Z7 K9 V9 Qy G5 E7 F7 Uy G7 J7 K7 Xy Az Bz Q9 K6 K4 Sy F6 Y3
theorem do9_any(wb v r k:Nat)(z:LawS)(ok:LOK z k)(kind N K pk pl nx:Int)(ai ad:Option Addr)(mi ci md cd:Nat)(hK: -9223372036854775808≤K∧K≤9223372036854775807)(hkd:kind=9)(F:Pr)(w:World)(hF:OwnL (lawL wb v r z [F]) w):
 Calls Tryz.prog 27 #[.pointer (some ⟨wb,0,none⟩),.agg #[.int .i64 kind,.int .i64 N,.int .i64 K,.int .i64 pk,.int .i64 pl,.slice ai mi ci,.slice ad md cd,.int .i64 nx]] w fun e w'=>e= .returned (.bool true)∧Stays w w'∧DoneH wb v r k F w':=by
 obtain⟨s,H,rs,gs,fl,l,kv,ws,h,tv,xv,bs⟩:=z;obtain⟨j,ll,wl,bk,wk⟩:=ok;dsimp only at j ll wl bk wk;have okp:=(vault_ok (hF.pull1 (A1:=VaultA v s))).1;have hs1:=hF.alloc (opC11 kind N K pk pl (.slice ai mi ci) (.slice ad md cd) nx);have HST:=hQ ((Stays.refl w).alloc (opC11 kind N K pk pl (.slice ai mi ci) (.slice ad md cd) nx));have c1:=hs1.facts;simp only [CellsAt,Nat.reduceAdd,and_true] at c1
 have HOK:=hQ (And.intro ll (And.intro wl (And.intro bk wk)));have HK:=hQ hK;clear hK;obtain⟨x,okx,hs2⟩:=vault_open (v:=v) (s:=s) hs1;clear c1;have c1:=hs2.facts;simp only [CellsAt,Nat.reduceAdd,and_true] at c1;have CA:=hQ (counts_A x.p s.pool _ _ (hs2.pull1 (A1:=PoolA x.p s.pool)));rw [← j.now.tw.cs] at CA;have hn2:rs.counts.length≤65536:=by rw [j.lenC];exact okp.n2
 have hn3:(rs.counts.length:Int)≤65536:=by omega
 have HN2:=hQ hn2;have HOX:=hQ okx;have HJ:=hQ j;subst hkd;clear hF hs1 hs2 j ll wl bk wk okp okx hn2;go_enter Tryz.func27,Tryz.ntmps27
 go_wp2_with fail
 refine CA.out.mono ?_;rintro e w1 ⟨v',rfl,hs3,st1⟩;obtain⟨ag,cg,rfl⟩:=Row.shape hs3;have hs4:=OwnL.of2 hs3;obtain⟨yr,okr,hs5⟩:=refH_open (r:=r) (s:=rs) (gs:=gs) (fl:=fl) (l:=l) hs4;obtain⟨ac,cc,ecv⟩:=Row.shape (hs5.pull1 (A1:=IntsRow yr.cv rs.counts));have HCV:=hQ ecv;obtain⟨a1,ha1,hs6⟩:=hs5.arena (IntsRow yr.cv rs.counts)
 obtain⟨a2,ha2,hs7⟩:=hs6.arena (IntsRow (.slice ag rs.counts.length cg) rs.counts);clear c1;have c1:=hs7.facts;simp only [CellsAt,Nat.reduceAdd,and_true] at c1;rw [ecv] at c1
 have EQ:=hQ (eqints_same a2 a1 (.slice ag rs.counts.length cg) (.slice ac rs.counts.length cc) rs.counts (Row.rowIn ha2) (by have h5:RowIn a1 1 yr.cv rs.counts.length (rs.counts.map (Value.int .i64)):=Row.rowIn ha1;rw [ecv] at h5;exact h5) HN2.out w1 hs7.le (hs7.pull1 (A1:=Pr.own a1)).own);have HA:=hQ (And.intro ha1 (And.intro ha2 okr));have HS7:=hQ hs7;have HST1:=hQ (HST.out.trans st1)
 clear hs3 hs4 hs5 hs6 hs7 st1 CA HST ha1 ha2 okr ecv;go_wp2_with fail
 refine EQ.out.mono ?_;rintro e w2 ⟨rfl,ho⟩;have hs8:=(HS7.out.ext ho.heap).back (IntsRow (.slice ag rs.counts.length cg) rs.counts) HA.out.2.1;have hs9:=refH_shut (r:=r) (fl:=fl) HA.out.2.2 (hs8.back (IntsRow yr.cv rs.counts) HA.out.1);have hs10:=vault_shut (v:=v) HOX.out hs9
 have hs11:=hs10.to (M:= [IntsRow (.slice ag rs.counts.length cg) rs.counts,VaultA v s,RefH r rs gs fl l,workO wb v r kv tv xv,BRest tv xv bs,WksRow kv ws,Pr.own h,F]);have HS11:=hQ hs11.sat;have HST2:=hQ (HST1.out.trans ho.st);obtain⟨R,hR⟩:∃R,R=starL [VaultA v s,RefH r rs gs fl l,workO wb v r kv tv xv,BRest tv xv bs,WksRow kv ws,Pr.own h,F]:=⟨_,rfl⟩;have HRR:=hQ hR
 have hs12:Sat ((Row 3 1 (.slice ag rs.counts.length cg) rs.counts.length (rs.counts.map (Value.int .i64))).star R) w2:=by rw [hR];exact HS11.out
 have HS12:=hQ hs12;clear hs8 hs9 hs10 hs11 hs12 ho EQ HS7 HS11 HA c1 hR;go_wp2;go_loopw [21] (fun i wr=> ∃(m:Nat) (xs:List Value),m≤rs.counts.length∧i= .int .i64 m∧Stays w wr∧Hid (xs.length=rs.counts.length)∧Sat ((Row 3 1 (.slice ag rs.counts.length cg) rs.counts.length xs).star R) wr) (fun i _=>rs.counts.length-(intOf i).toNat)
 case atStart=>exact⟨0,_,Nat.zero_le _,rfl,HST2.out,hQ (by simp),HS12.out⟩
 case round=>
  obtain⟨m,xs,hm,rfl,hst,hxl,hs⟩:=hrel;clear HS12 HST2;rcases Nat.lt_or_ge m rs.counts.length with hlt | hge
  · obtain⟨b,u,rfl,_,q1,q2,q3⟩:=Row.at1 hs m hlt
    have N1:=hQ (Row.put1 hs m (by rw [hxl.out];exact hlt) (.int .i64 9));have HSTK:=hQ hst;clear hs hst;go_wp2;exact⟨⟨m+1,xs.set m (.int .i64 9),by omega,congrArg (Value.int .i64) (by omega),HSTK.out.setCell _ _,hQ (by rw [List.length_set];exact hxl.out),N1.out⟩,by simp [intOf];omega⟩
  · have HS:=hQ hs
    have HSTK:=hQ hst;clear hs hst;go_wp2;go_ret;have h9:=HS.out.right;rw [HRR.out] at h9;obtain⟨ll,wl,bk,wk⟩:=HOK.out;exact⟨rfl,HSTK.out,⟨s,H,rs,gs,fl,l,kv,ws,h,tv,xv,bs⟩,⟨HJ.out,ll,wl,bk,wk⟩,⟨h9⟩⟩
end Go.Proofs.YtpfafhklppondaaGreat.Jz
namespace Go.Proofs.YtpfafhklppondaaGreat.Sz
open ChangeShapes WideShapes ChangeAt RowKit Sl Cop M2 P3 J4 L4 P4 G5 F7 Sy Vy Zy Yy
theorem pl_pack {x v:Nat}{rv lv:Value}{s:VaultS}{roots:List Int}{ls:List NumV}{L R1 R2 R3 R4:List Pr}{w:World}(h:OwnL L w) [Pull (VaultA v s) L R1] [Pull (Pr.pts x (placesC v rv lv)) R1 R2] [Pull (IntsRow rv roots) R2 R3] [Pull (NumsRow lv ls) R3 R4]:OwnL (plL x v rv lv s roots ls [starL R4]) w:=
 OwnL.in4 (h.pull4 (A1:=VaultA v s) (A2:=Pr.pts x (placesC v rv lv)) (A3:=IntsRow rv roots) (A4:=NumsRow lv ls))
theorem _root_.Go.Proofs.YtpfafhklppondaaGreat.plMem.PlDone.sub {x v k:Nat}{A B F:Pr}{w:World}(h:PlDone x v k (starL [A,B,F]) w):PlDone x v k F w:=by
 obtain⟨rv,lv,s,roots,ls,ok,o⟩:=h;exact⟨rv,lv,s,roots,ls,ok,o.flat.to⟩
theorem irow_at {a:Option Addr}{n c:Nat}{l:List Int}{F:Pr}{w:World}{j:Nat}(h:Sat ((IntsRow (.slice a n c) l).star F) w)(hj:j<l.length):∃b,a=some ⟨b,0,none⟩∧w.cell? ⟨b,j,none⟩=some (.int .i64 l[j])∧w.frozen? ⟨b,j,none⟩=false:=by
 obtain⟨_,_,e,_,hc⟩:=Row.read h;cases e;obtain⟨b,e,hd⟩:=hc (by omega);cases e;refine⟨b,rfl,?_,(hd j (by omega)).2⟩;rw [(hd j (by omega)).1,List.getElem?_map,List.getElem?_eq_getElem hj];rfl
theorem irow_ne {r b c:Nat}{o:Obj}{l:List Int}{F:Pr}{w:World}(h:Sat ((IntsRow (.slice (some ⟨b,0,none⟩) l.length c) l).star ((Pr.pts r o).star F)) w):r≠b:=Go.Proofs.YtpfafhklppondaaGreat.V8.pts_row_ne h
theorem irow_set {b c:Nat}{l:List Int}{F:Pr}{w:World}{j:Nat}(h:Sat ((IntsRow (.slice (some ⟨b,0,none⟩) l.length c) l).star F) w)(hj:j<l.length)(z:Int):Sat ((IntsRow (.slice (some ⟨b,0,none⟩) l.length c) (l.set j z)).star F) (w.setCell ⟨b,j,none⟩ (.int .i64 z)):=by
 have h2:=Go.Sl.Row.set h j (by rw [List.length_map];exact hj) (.int .i64 z);rw [← List.map_set] at h2;show Sat ((Row 3 1 (.slice (some ⟨b,0,none⟩) l.length c) (l.set j z).length ((l.set j z).map (Value.int .i64))).star F) _
 rw [List.length_set];exact h2
theorem irow_cut {a:Option Addr}{c m:Nat}{l:List Int}{F:Pr}{w:World}(h:Sat ((IntsRow (.slice a l.length c) l).star F) w)(hm:m≤l.length):Sat ((IntsRow (.slice a m c) (l.take m)).star F) w:=by
 have h2:=Go.Proofs.YtpfafhklppondaaGreat.F4.row_cut h hm;rw [← List.map_take] at h2;show Sat ((Row 3 1 (.slice a m c) (l.take m).length ((l.take m).map (Value.int .i64))).star F) _
 rw [List.length_take,Nat.min_eq_left hm];exact h2
theorem count_swap {l:List Int}{j m:Nat}(hm:l.length=m+1)(hj:j<l.length)(n:Int):((((l.set j (l[m]'(by omega))).take m).count n:Nat):Int)=((l.count n:Nat):Int)-if n=l[j] then 1 else 0:=by
 have h1:=count_set_int hj (l[m]'(by omega)) n;have hml:m<(l.set j (l[m]'(by omega))).length:=by rw [List.length_set];omega
 have e1:(l.set j (l[m]'(by omega)))[m]'hml=l[m]'(by omega):=by
  rw [List.getElem_set];split<;>rfl
 have e2:(l.set j (l[m]'(by omega))).take m++ [l[m]'(by omega)]=l.set j (l[m]'(by omega)):=by
  have:=List.take_append_getElem hml
  rw [e1] at this;rw [this];exact List.take_of_length_le (by rw [List.length_set];omega)
 have h2:=congrArg (List.count n) e2;rw [List.count_append,count_one] at h2;split at h2<;>rename_i h3
 · rw [if_pos h3] at h1
   omega
 · rw [if_neg h3] at h1
   omega
end Go.Proofs.YtpfafhklppondaaGreat.Sz
namespace Go.Proofs.YtpfafhklppondaaGreat.Tz
open ChangeShapes WideShapes ChangeAt RowKit Sl Cop M2 P3 X3 G4 Q2 X2 J4 L4 P4 Q6 X6 G5 F7 Sy K4 E5 Bz Vy Wy Zy Yy F6 Z6 Sz
theorem leaf_page {I K:Nat}{c:Int}{h:Hp}(hh:((Pr.pts I (.cells #[.slice (some ⟨K,0,none⟩) 2 2,.slice none 0 0,.int .i64 0,.int .i64 0] 49)).star (Pr.pts K (.cells #[.int .u8 c,.int .u8 1] 5))) h):PageIn h (pageV 1 0 (.slice (some ⟨I,0,none⟩) 1 1) (.slice none 0 0) 0) (leafP c):=by
 obtain⟨b,a,hb,ha,s2,s1⟩:=star_sub hh;refine⟨_,_,rfl,items_mk' [(.slice (some ⟨K,0,none⟩) 2 2,.slice none 0 0)] rfl ((pts_rowIn (xs:= [.slice (some ⟨K,0,none⟩) 2 2,.slice none 0 0,.int .i64 0,.int .i64 0]) hb rfl rfl (by simp [maxLen])).sub s2) fun i hx hl=> ?_,RowIn.nil _ _⟩;obtain rfl:i=0:=by simp at hx;omega
 exact⟨(pts_rowIn (xs:= [.int .u8 c,.int .u8 1]) ha rfl rfl (by simp [maxLen])).sub s1,RowIn.nil _ _⟩
theorem blob_page {D:Nat}{c:Int}{h:Hp}(hh:Pr.pts D (.cells #[.int .u8 c] 5) h):PageIn h (pageV 3 0 (.slice none 0 0) (.slice (some ⟨D,0,none⟩) 1 1) 0) (blobP c):=
 ⟨_,_,rfl,items_mk' [] rfl (RowIn.nil _ _) (fun i hx _=>absurd hx (Nat.not_lt_zero i)),pts_rowIn (xs:= [.int .u8 c]) hh rfl rfl (by simp [maxLen])⟩
theorem step0(x v k:Nat)(rv lv:Value)(s:VaultS)(roots:List Int)(ls:List NumV)(ok:PlOK s roots ls (k+2))(kind N K pk pl nx:Int)(ai ad:Option Addr)(mi ci md cd:Nat)(hkd:kind.tmod 7=0)(F:Pr)(w:World)(hF:OwnL (plL x v rv lv s roots ls [F]) w):
 Calls Tryz.prog 8 #[.pointer (some ⟨x,0,none⟩),.agg #[.int .i64 kind,.int .i64 N,.int .i64 K,.int .i64 pk,.int .i64 pl,.slice ai mi ci,.slice ad md cd,.int .i64 nx]] w fun e w'=>e= .returned (.bool true)∧Stays w w'∧PlDone x v k F w':=by
 obtain⟨ar,cr,rfl⟩:=Row.shape (hF.pull1 (A1:=IntsRow rv roots));have hs0:=(hF.alloc (.cells #[.pointer (some ⟨x,0,none⟩)] 28)).alloc (opC11 kind N K pk pl (.slice ai mi ci) (.slice ad md cd) nx);rw [show (w.alloc (.cells #[.pointer (some ⟨x,0,none⟩)] 28)).heap.size=w.heap.size+1 by simp] at hs0
 have HST:=hQ (((Stays.refl w).alloc (.cells #[.pointer (some ⟨x,0,none⟩)] 28)).alloc (opC11 kind N K pk pl (.slice ai mi ci) (.slice ad md cd) nx));have hrl:=ok.rl;have RT:=hQ (root_any x v (.slice ar roots.length cr) lv s roots ls _ (by omega) N _ (pl_pack hs0));have HS0:=hQ hs0;have HOK:=hQ ok;clear hF hs0 ok;go_enter Tryz.func8,Tryz.ntmps8
 go_wp2_with fail
 refine RT.out.mono ?_;rintro e w1 ⟨⟨i,rfl,hi⟩,ho⟩;have hs1:=HS0.out.ext ho.heap;have HST1:=hQ (HST.out.trans ho.st);clear RT HS0 HST ho;generalize w.heap.size+1=BO at*;generalize w.heap.size=BP at*;have c1:=hs1.facts;simp only [CellsAt,Nat.reduceAdd,and_true] at c1;clear hi;obtain⟨c,hc⟩:∃c,IntKind.u8.wrap K=c:=⟨_,rfl⟩;have hc2:0≤c∧c≤255:=by rw [← hc,IntKind.wrap_u8];omega
 have HC:=hQ hc2;have hs2:=((hs1.alloc (.cells #[.int .u8 c,.int .u8 1] 5)).alloc (.cells #[.slice (some ⟨w1.heap.size,0,none⟩) 2 2,.slice none 0 0,.int .i64 0,.int .i64 0] 49)).alloc (pageC 1 0 (.slice (some ⟨w1.heap.size+1,0,none⟩) 1 1) (.slice none 0 0) 0)
 rw [show ((w1.alloc (.cells #[.int .u8 c,.int .u8 1] 5)).alloc (.cells #[.slice (some ⟨w1.heap.size,0,none⟩) 2 2,.slice none 0 0,.int .i64 0,.int .i64 0] 49)).heap.size=w1.heap.size+1+1 by simp,show (w1.alloc (.cells #[.int .u8 c,.int .u8 1] 5)).heap.size=w1.heap.size+1 by simp] at hs2
 have HST2:=hQ (((HST1.out.alloc (.cells #[.int .u8 c,.int .u8 1] 5)).alloc (.cells #[.slice (some ⟨w1.heap.size,0,none⟩) 2 2,.slice none 0 0,.int .i64 0,.int .i64 0] 49)).alloc (pageC 1 0 (.slice (some ⟨w1.heap.size+1,0,none⟩) 1 1) (.slice none 0 0) 0));have HS2:=hQ hs2;have HS1:=hQ hs1;clear hs1;have c2:=hs2.facts;simp only [CellsAt,Nat.reduceAdd,and_true] at c2;clear hs2;by_cases hev:K.tmod 2=0
 · have e1:(K.tmod 2 == 0)=true:=beq_iff_eq.2 hev
   clear hev;have hs3:=HS1.out.alloc (.cells #[.int .u8 c,.int .u8 1] 5) |>.alloc (.cells #[.slice (some ⟨w1.heap.size,0,none⟩) 2 2,.slice none 0 0,.int .i64 0,.int .i64 0] 49) |>.alloc (pageC 3 0 (.slice none 0 0) (.slice (some ⟨w1.heap.size+1+1+1,0,none⟩) 1 1) 0) |>.alloc (.cells #[.int .u8 c] 5)
   rw [show (((w1.alloc (.cells #[.int .u8 c,.int .u8 1] 5)).alloc (.cells #[.slice (some ⟨w1.heap.size,0,none⟩) 2 2,.slice none 0 0,.int .i64 0,.int .i64 0] 49)).alloc (pageC 3 0 (.slice none 0 0) (.slice (some ⟨w1.heap.size+1+1+1,0,none⟩) 1 1) 0)).heap.size=w1.heap.size+1+1+1 by simp,show ((w1.alloc (.cells #[.int .u8 c,.int .u8 1] 5)).alloc (.cells #[.slice (some ⟨w1.heap.size,0,none⟩) 2 2,.slice none 0 0,.int .i64 0,.int .i64 0] 49)).heap.size=w1.heap.size+1+1 by simp,show (w1.alloc (.cells #[.int .u8 c,.int .u8 1] 5)).heap.size=w1.heap.size+1 by simp] at hs3
   have HSTW:=hQ ((((HST1.out.alloc (.cells #[.int .u8 c,.int .u8 1] 5)).alloc (.cells #[.slice (some ⟨w1.heap.size,0,none⟩) 2 2,.slice none 0 0,.int .i64 0,.int .i64 0] 49)).alloc (pageC 3 0 (.slice none 0 0) (.slice (some ⟨w1.heap.size+1+1+1,0,none⟩) 1 1) 0)).alloc (.cells #[.int .u8 c] 5));have HS3:=hQ hs3;clear hs3 HS1 HST1 HS2 HST2;go_wp2_with fail
   clear c2 hkd e1;have hs3:=HS3.out;clear HS3;generalize (((w1.alloc (.cells #[.int .u8 c,.int .u8 1] 5)).alloc (.cells #[.slice (some ⟨w1.heap.size,0,none⟩) 2 2,.slice none 0 0,.int .i64 0,.int .i64 0] 49)).alloc (pageC 3 0 (.slice none 0 0) (.slice (some ⟨w1.heap.size+1+1+1,0,none⟩) 1 1) 0)).alloc (.cells #[.int .u8 c] 5)=W at*;generalize w1.heap.size+1+1+1=DB at*
   generalize w1.heap.size+1+1=JB at*;have c1:True:=trivial;obtain⟨hh,ha,hs6⟩:=hs3.arena (Pr.pts DB (.cells #[.int .u8 c] 5));have hpg:=blob_page ha;have hsh:Shape s.pool.counts.length (blobP c):= .blob c HC.out;clear hs3 ha
   have M:=hQ (pl_make v s _ ls (k+1) HOK.out.inv (blobP c) hsh (hsh.check (by have:=HOK.out.inv.n2;omega)) hh _ hpg hsh.u8 _ W.drew (hs6.drew.pull2 (A1:=VaultA v s) (A2:=Pr.own hh)));clear c1;have c1:=hs6.facts;simp only [CellsAt,Nat.reduceAdd,and_true] at c1;clear hs6 hpg;go_wp2_with fail
   refine wS 300 [0,1,2,3,4] [(5,[6,7,8,9,10],[0,1,2])] ?_;refine wpQ_all _ rfl rfl ?_;simp only [pick,pQ];iterate 5 (go_big_quiet_step (fail))
   refine wpQuiet_nil ?_;refine wpRest_act rfl ?_;go_wp2_with fail
   refine M.out.mono ?_;rintro e w6 ⟨st2,(⟨htl,rfl,hs2⟩ | ⟨n,s'',rfl,htn,hInv,hs2⟩)⟩
   · have hs3:=OwnL.of2 hs2
     have HE:=hQ (show PlDone x v k F w6 from⟨.slice ar roots.length cr,lv,s,roots,ls,HOK.out.le (by omega),hs3.to⟩);have HST2:=hQ (HSTW.out.drew.trans st2);obtain⟨xx,okx,hs4⟩:=vault_open (v:=v) (s:=s) hs3;clear c1;have c1:=hs4.facts;simp only [CellsAt,Nat.reduceAdd,and_true] at c1;have T:=hQ (tally_all xx.p s.pool 1 _ _ (hs4.pull1 (A1:=PoolA xx.p s.pool)));rw [htl] at T;clear hs2 hs3 hs4 okx st2
     go_wp2;refine onN_mk ?_;refine wpQ_all _ rfl rfl ?_;simp only [pick,pQ];iterate 5 (go_big_quiet_step (fail))
     refine wpQuiet_nil ⟨?_,?_⟩
     · exact cQ
     refine wpRest_nil ?_;go_wp2_with fail
     refine T.out.mono ?_;rintro e w7 ⟨rfl,rfl⟩;go_wp2;go_ret;exact⟨rfl,HST2.out,HE.out⟩
   · have hs8:=OwnL.of2 hs2
     have INV:=hQ (hInv (fun m=>(((roots++ [n]).count m:Nat):Int)) (fun m=>by
      rw [kids_blobP,List.count_append,count_one]
      split<;>simp) (fun m=>by
      have h1:=List.count_le_length (a:=m) (l:=roots++ [n])
      rw [List.length_append,List.length_singleton] at h1
      omega))
     obtain⟨hs9,hn9⟩:=hs8.freshD [.int .i64 n] 3 w6.heap.size rfl;have A1:=hQ (hs9.pull1 (A1:=IntsRow (.slice ar roots.length cr) roots));have HNEW:=hQ hn9;have HST2:=hQ ((HSTW.out.drew.trans st2).alloc (.cells [Value.int .i64 n].toArray 3)).drew;obtain⟨i0,hi0,hz0,hz1,hz2⟩:=info_parts infoInt;have hrl3:(roots.length:Int)≤120:=by omega
     clear c1;have c1:=hs8.facts;simp only [CellsAt,Nat.reduceAdd,and_true] at c1;clear hs2 hs8 hs9 hn9 hInv HSTW st2 M;go_wp2;refine onN_mk ?_;refine wpQ_all _ rfl rfl ?_;simp only [pick,pQ];iterate 5 (go_big_quiet_step (fail))
     refine wpQuiet_nil ⟨?_,?_⟩
     · exact cQ
     refine wpRest_nil ?_;go_wp2_with fail
     refine wS 300 [0,1,2,3,4,5] [(6,[],[0,1,2,3,4]),(7,[8,9],[0,1,2,3]),(10,[],[8])] ?_;refine wpQ_all _ rfl rfl ?_;simp only [pick,pQ];iterate 6 (go_big_quiet_step (fail))
     refine wpQuiet_nil ?_;refine wpRest_act rfl ?_;go_wp2;refine onN_mk ?_;refine wpQ_nil ⟨?_,?_⟩
     · exact cQ
     refine wpRest_act rfl ?_;refine wpList_appN rfl _ _ _ rfl 3 i0 (.int .i64 0) 1 8 Tryz.underlying29 hi0 hz0 hz1 hz2 rfl _ _ _ rfl A1.out ⟨w6.heap.size,0,none⟩ 1 1 [.int .i64 n] rfl rfl HNEW.out (by simp [Value.oneCell']) (by simp only [maxLen];omega) (by omega) (fun v7 w7 hs11 hg11 K0 hK0=> ?_);obtain⟨a7,c7,e7,_,_⟩:=Row.read hs11;subst e7;go_simp;refine hK0 _ ?_;clear hK0 K0
     have hs12:=OwnL.of1 (ints_snoc hs11);have HS12:=hQ hs12;have HST7:=hQ (HST2.out.of_grown hg11);clear c1;have c1:=hs12.facts;simp only [CellsAt,Nat.reduceAdd,and_true] at c1;clear hs11 hs12 hg11 A1 HNEW HST2;refine wpList_nil ?_;refine onN_mk ?_;refine wpQ_all _ rfl rfl ?_;simp only [pick,pQ];iterate 2 (go_big_quiet_step (fail))
     refine wpQuiet_nil ⟨?_,?_⟩
     · exact cQ
     refine wpRest_act rfl ?_;go_wp2;refine onN_mk ?_;refine wpQ_nil ⟨?_,?_⟩
     · exact cQ
     refine wpRest_nil ?_;have HS13:=hQ (HS12.out.set x 1 (.slice a7 (roots.length+1) c7));have HST8:=hQ (HST7.out.setCell ⟨x,1,none⟩ (.slice a7 (roots.length+1) c7));clear c1 HS12 HST7;go_wp2;go_ret;exact⟨rfl,HST8.out,.slice a7 (roots.length+1) c7,lv,s'',roots++ [n],ls,⟨INV.out.le (Nat.le_succ k),by rw [List.length_append,List.length_singleton];omega⟩,HS13.out.to⟩
 · have e1:(K.tmod 2 == 0)=false:=beq_eq_false_iff_ne.2 hev
   clear hev HS1 HST1;go_wp2_with fail
   clear c2 hkd e1;have hs3:=HS2.out;have HSTW:=HST2;clear HS2 HST2;generalize ((w1.alloc (.cells #[.int .u8 c,.int .u8 1] 5)).alloc (.cells #[.slice (some ⟨w1.heap.size,0,none⟩) 2 2,.slice none 0 0,.int .i64 0,.int .i64 0] 49)).alloc (pageC 1 0 (.slice (some ⟨w1.heap.size+1,0,none⟩) 1 1) (.slice none 0 0) 0)=W at*;generalize w1.heap.size+1+1=JB at*;generalize w1.heap.size+1=IB at*
   generalize w1.heap.size=KB at*;have c1:True:=trivial;obtain⟨hh,ha,hs6⟩:=(hs3.join2 (Pr.pts IB (.cells #[.slice (some ⟨KB,0,none⟩) 2 2,.slice none 0 0,.int .i64 0,.int .i64 0] 49)) (Pr.pts KB (.cells #[.int .u8 c,.int .u8 1] 5))).arena ((Pr.pts IB (.cells #[.slice (some ⟨KB,0,none⟩) 2 2,.slice none 0 0,.int .i64 0,.int .i64 0] 49)).star (Pr.pts KB (.cells #[.int .u8 c,.int .u8 1] 5)))
   have hpg:=leaf_page ha;have hsh:Shape s.pool.counts.length (leafP c):= .leaf c HC.out;clear hs3 ha;have M:=hQ (pl_make v s _ ls (k+1) HOK.out.inv (leafP c) hsh (hsh.check (by have:=HOK.out.inv.n2;omega)) hh _ hpg hsh.u8 _ W.drew (hs6.drew.pull2 (A1:=VaultA v s) (A2:=Pr.own hh)));clear c1;have c1:=hs6.facts;simp only [CellsAt,Nat.reduceAdd,and_true] at c1;clear hs6 hpg;go_wp2_with fail
   refine wS 300 [0,1,2,3,4] [(5,[6,7,8,9,10],[0,1,2])] ?_;refine wpQ_all _ rfl rfl ?_;simp only [pick,pQ];iterate 5 (go_big_quiet_step (fail))
   refine wpQuiet_nil ?_;refine wpRest_act rfl ?_;go_wp2_with fail
   refine M.out.mono ?_;rintro e w6 ⟨st2,(⟨htl,rfl,hs2⟩ | ⟨n,s'',rfl,htn,hInv,hs2⟩)⟩
   · have hs3:=OwnL.of2 hs2
     have HE:=hQ (show PlDone x v k F w6 from⟨.slice ar roots.length cr,lv,s,roots,ls,HOK.out.le (by omega),hs3.to⟩);have HST2:=hQ (HSTW.out.drew.trans st2);obtain⟨xx,okx,hs4⟩:=vault_open (v:=v) (s:=s) hs3;clear c1;have c1:=hs4.facts;simp only [CellsAt,Nat.reduceAdd,and_true] at c1;have T:=hQ (tally_all xx.p s.pool 1 _ _ (hs4.pull1 (A1:=PoolA xx.p s.pool)));rw [htl] at T;clear hs2 hs3 hs4 okx st2
     go_wp2;refine onN_mk ?_;refine wpQ_all _ rfl rfl ?_;simp only [pick,pQ];iterate 5 (go_big_quiet_step (fail))
     refine wpQuiet_nil ⟨?_,?_⟩
     · exact cQ
     refine wpRest_nil ?_;go_wp2_with fail
     refine T.out.mono ?_;rintro e w7 ⟨rfl,rfl⟩;go_wp2;go_ret;exact⟨rfl,HST2.out,HE.out⟩
   · have hs8:=OwnL.of2 hs2
     have INV:=hQ (hInv (fun m=>(((roots++ [n]).count m:Nat):Int)) (fun m=>by
      rw [kids_leafP,List.count_append,count_one]
      split<;>simp) (fun m=>by
      have h1:=List.count_le_length (a:=m) (l:=roots++ [n])
      rw [List.length_append,List.length_singleton] at h1
      omega))
     obtain⟨hs9,hn9⟩:=hs8.freshD [.int .i64 n] 3 w6.heap.size rfl;have A1:=hQ (hs9.pull1 (A1:=IntsRow (.slice ar roots.length cr) roots));have HNEW:=hQ hn9;have HST2:=hQ ((HSTW.out.drew.trans st2).alloc (.cells [Value.int .i64 n].toArray 3)).drew;obtain⟨i0,hi0,hz0,hz1,hz2⟩:=info_parts infoInt;have hrl3:(roots.length:Int)≤120:=by omega
     clear c1;have c1:=hs8.facts;simp only [CellsAt,Nat.reduceAdd,and_true] at c1;clear hs2 hs8 hs9 hn9 hInv HSTW st2 M;go_wp2;refine onN_mk ?_;refine wpQ_all _ rfl rfl ?_;simp only [pick,pQ];iterate 5 (go_big_quiet_step (fail))
     refine wpQuiet_nil ⟨?_,?_⟩
     · exact cQ
     refine wpRest_nil ?_;go_wp2_with fail
     refine wS 300 [0,1,2,3,4,5] [(6,[],[0,1,2,3,4]),(7,[8,9],[0,1,2,3]),(10,[],[8])] ?_;refine wpQ_all _ rfl rfl ?_;simp only [pick,pQ];iterate 6 (go_big_quiet_step (fail))
     refine wpQuiet_nil ?_;refine wpRest_act rfl ?_;go_wp2;refine onN_mk ?_;refine wpQ_nil ⟨?_,?_⟩
     · exact cQ
     refine wpRest_act rfl ?_;refine wpList_appN rfl _ _ _ rfl 3 i0 (.int .i64 0) 1 8 Tryz.underlying29 hi0 hz0 hz1 hz2 rfl _ _ _ rfl A1.out ⟨w6.heap.size,0,none⟩ 1 1 [.int .i64 n] rfl rfl HNEW.out (by simp [Value.oneCell']) (by simp only [maxLen];omega) (by omega) (fun v7 w7 hs11 hg11 K0 hK0=> ?_);obtain⟨a7,c7,e7,_,_⟩:=Row.read hs11;subst e7;go_simp;refine hK0 _ ?_;clear hK0 K0
     have hs12:=OwnL.of1 (ints_snoc hs11);have HS12:=hQ hs12;have HST7:=hQ (HST2.out.of_grown hg11);clear c1;have c1:=hs12.facts;simp only [CellsAt,Nat.reduceAdd,and_true] at c1;clear hs11 hs12 hg11 A1 HNEW HST2;refine wpList_nil ?_;refine onN_mk ?_;refine wpQ_all _ rfl rfl ?_;simp only [pick,pQ];iterate 2 (go_big_quiet_step (fail))
     refine wpQuiet_nil ⟨?_,?_⟩
     · exact cQ
     refine wpRest_act rfl ?_;go_wp2;refine onN_mk ?_;refine wpQ_nil ⟨?_,?_⟩
     · exact cQ
     refine wpRest_nil ?_;have HS13:=hQ (HS12.out.set x 1 (.slice a7 (roots.length+1) c7));have HST8:=hQ (HST7.out.setCell ⟨x,1,none⟩ (.slice a7 (roots.length+1) c7));clear c1 HS12 HST7;go_wp2;go_ret;exact⟨rfl,HST8.out,.slice a7 (roots.length+1) c7,lv,s'',roots++ [n],ls,⟨INV.out.le (Nat.le_succ k),by rw [List.length_append,List.length_singleton];omega⟩,HS13.out.to⟩
end Go.Proofs.YtpfafhklppondaaGreat.Tz
namespace Go.Proofs.YtpfafhklppondaaGreat.Uz
open ChangeShapes WideShapes ChangeAt RowKit Sl Cop M2 P3 X3 G4 Q2 X2 J4 L4 P4 Q6 X6 G5 F7 Sy K4 E5 Bz Vy Wy Zy Yy Sz
theorem step2(x v k:Nat)(rv lv:Value)(s:VaultS)(roots:List Int)(ls:List NumV)(ok:PlOK s roots ls (k+2))(kind N K pk pl nx:Int)(ai ad:Option Addr)(mi ci md cd:Nat)(hkd:kind.tmod 7=2)(F:Pr)(w:World)(hF:OwnL (plL x v rv lv s roots ls [F]) w):
 Calls Tryz.prog 8 #[.pointer (some ⟨x,0,none⟩),.agg #[.int .i64 kind,.int .i64 N,.int .i64 K,.int .i64 pk,.int .i64 pl,.slice ai mi ci,.slice ad md cd,.int .i64 nx]] w fun e w'=>e= .returned (.bool true)∧Stays w w'∧PlDone x v k F w':=by
 obtain⟨ar,cr,rfl⟩:=Row.shape (hF.pull1 (A1:=IntsRow rv roots));have hs0:=(hF.alloc (.cells #[.pointer (some ⟨x,0,none⟩)] 28)).alloc (opC11 kind N K pk pl (.slice ai mi ci) (.slice ad md cd) nx);rw [show (w.alloc (.cells #[.pointer (some ⟨x,0,none⟩)] 28)).heap.size=w.heap.size+1 by simp] at hs0
 have HST:=hQ (((Stays.refl w).alloc (.cells #[.pointer (some ⟨x,0,none⟩)] 28)).alloc (opC11 kind N K pk pl (.slice ai mi ci) (.slice ad md cd) nx));have hrl:=ok.rl;have RT:=hQ (root_any x v (.slice ar roots.length cr) lv s roots ls _ (by omega) N _ (pl_pack hs0));have HS0:=hQ hs0;have HOK:=hQ ok;clear hF hs0 ok;go_enter Tryz.func8,Tryz.ntmps8
 go_wp2_with fail
 refine RT.out.mono ?_;rintro e w1 ⟨⟨i,rfl,hi⟩,ho⟩;have hs1:=HS0.out.ext ho.heap;have HST1:=hQ (HST.out.trans ho.st);clear RT HS0 HST ho;generalize w.heap.size+1=BO at*;generalize w.heap.size=BP at*;have c1:=hs1.facts;simp only [CellsAt,Nat.reduceAdd,and_true] at c1;rcases hi with⟨rfl,hr0⟩ | ⟨j,hj,rfl⟩
 · have HE:=hQ (show PlDone x v k F w1 from⟨.slice ar roots.length cr,lv,s,roots,ls,HOK.out.le (by omega),hs1.to⟩)
   clear hs1 hr0 hrl HOK;go_wp2;go_ret;exact⟨rfl,HST1.out,HE.out⟩
 · obtain⟨br,rfl,k1,kf1⟩:=irow_at (hs1.pull1 (A1:=IntsRow (.slice ar roots.length cr) roots)) hj
   have z1:=World.block_lt_of_cell? _ _ k1;have hj3:(j:Int)≤120:=by omega
   have HJ:=hQ hj;have HS1:=hQ hs1;have HR0:=hQ (show ((roots.count roots[j]:Nat):Int)≠0 by have:=List.count_pos_iff.2 (List.getElem_mem hj);omega);obtain⟨hs5,hn5⟩:=hs1.freshD [.int .i64 roots[j]] 3 w1.heap.size rfl;have A1:=hQ (hs5.pull1 (A1:=IntsRow (.slice (some ⟨br,0,none⟩) roots.length cr) roots));have HNEW:=hQ hn5
   have HST2:=hQ ((HST1.out.alloc (.cells [Value.int .i64 roots[j]].toArray 3)).drew);obtain⟨i0,hi0,hz0,hz1,hz2⟩:=info_parts infoInt;have hrl3:(roots.length:Int)≤120:=by omega
   clear hs1 hs5 hn5 HST1;generalize hrj:roots[j]=rj at*;have HRJ:=hQ hrj;clear hrj hj;have hjl:=HJ.out;go_wp2_with fail
   refine wS 300 [0,1,2,3,4,5,6,7,8,9,10,11] [(12,[],[0,1,2,3,4,5,6,7,8,9,10]),(13,[14,15],[0,1,2,3,5,6,7,8,9,10]),(16,[],[14])] ?_;refine wpQ_all _ rfl rfl ?_;simp only [pick,pQ];iterate 12 (go_big_quiet_step (fail))
   refine wpQuiet_nil ?_;refine wpRest_act rfl ?_;go_wp2;refine onN_mk ?_;refine wpQ_nil ⟨?_,?_⟩
   · exact cQ
   refine wpRest_act rfl ?_;refine wpList_appN rfl _ _ _ rfl 3 i0 (.int .i64 0) 1 8 Tryz.underlying29 hi0 hz0 hz1 hz2 rfl _ _ _ rfl A1.out ⟨w1.heap.size,0,none⟩ 1 1 [.int .i64 rj] rfl rfl HNEW.out (by simp [Value.oneCell']) (by simp only [maxLen];omega) (by omega) (fun v7 w7 hs11 hg11 K0 hK0=> ?_);obtain⟨a7,c7,e7,_,_⟩:=Row.read hs11;subst e7;go_simp;refine hK0 _ ?_;clear hK0 K0
   have hs12:=OwnL.of1 (ints_snoc hs11);have HS12:=hQ hs12;have HST7:=hQ (HST2.out.of_grown hg11);clear c1 k1 kf1 z1;have c1:=hs12.facts;simp only [CellsAt,Nat.reduceAdd,and_true] at c1;clear hs11 hs12 hg11 A1 HNEW HST2 HS1;refine wpList_nil ?_;refine onN_mk ?_;refine wpQ_all _ rfl rfl ?_;simp only [pick,pQ];iterate 2 (go_big_quiet_step (fail))
   refine wpQuiet_nil ⟨?_,?_⟩
   · exact cQ
   refine wpRest_act rfl ?_;go_wp2;refine onN_mk ?_;refine wpQ_nil ⟨?_,?_⟩
   · exact cQ
   refine wpRest_nil ?_;have hs13:=HS12.out.set x 1 (.slice a7 (roots.length+1) c7);have hlen:(roots++ [rj]).length=roots.length+1:=by simp
   have hrow:=hs13.pull1 (A1:=IntsRow (.slice a7 (roots.length+1) c7) (roots++ [rj]));obtain⟨br2,rfl,k1,kf1⟩:=irow_at hrow (j:=j) (by rw [hlen];have:=HJ.out;omega);have z1:=World.block_lt_of_cell? _ _ k1;rw [List.getElem_append_left HJ.out,show roots[j]'HJ.out=rj from HRJ.out] at k1;have HST8:=hQ (HST7.out.setCell ⟨x,1,none⟩ (.slice (some ⟨br2,0,none⟩) (roots.length+1) c7))
   have HXX:=hQ (show ((roots.count rj:Nat):Int)<1000 by have:=List.count_le_length (a:=rj) (l:=roots);omega);have KP:=hQ (pl_keep v s _ ls (k+1) HOK.out.inv rj (HOK.out.inv.root HR0.out) HXX.out _ _ (hs13.drew.pull1 (A1:=VaultA v s)));have HROW:=hQ hrow;have HS13:=hQ hs13;generalize w7.setCell ⟨x,1,none⟩ (.slice (some ⟨br2,0,none⟩) (roots.length+1) c7)=w8 at*;clear c1;have c1:=hs13.facts
   simp only [CellsAt,Nat.reduceAdd,and_true] at c1;clear hs13 HS12 HST7 hrow;go_wp2_with fail
   refine wS 300 [0,1,2,3,4,5,6,7,8,9,10] [(11,[12,13],[0,1,2,4,5,6,7,8,9])] ?_;refine wpQ_all _ rfl rfl ?_;simp only [pick,pQ];iterate 11 (go_big_quiet_step (fail))
   refine wpQuiet_nil ?_;refine wpRest_act rfl ?_;go_wp2_with fail
   refine KP.out.mono ?_;rintro e w9 ⟨st9,rfl,s',hInv,hs14⟩;have hs15:=OwnL.of1 hs14;have HS15:=hQ hs15;have HI9:=hQ hInv;have HST9:=hQ (HST8.out.drew.trans st9);clear c1 k1 kf1 z1;have c1:=hs15.facts;simp only [CellsAt,Nat.reduceAdd,and_true] at c1
   obtain⟨_,e9,k1,_⟩:=irow_at (hs15.pull1 (A1:=IntsRow (.slice (some ⟨br2,0,none⟩) (roots.length+1) c7) (roots++ [rj]))) (j:=j) (by rw [hlen];have:=HJ.out;omega);cases e9;have z1:=World.block_lt_of_cell? _ _ k1;rw [List.getElem_append_left HJ.out,show roots[j]'HJ.out=rj from HRJ.out] at k1;clear hs14 hs15 hInv st9 HS13 KP HST8;go_wp2;refine onN_mk ?_;refine wpQ_all _ rfl rfl ?_;simp only [pick,pQ]
   iterate 2 (go_big_quiet_step (fail))
   refine wpQuiet_nil ⟨?_,?_⟩
   · exact cQ
   refine wpRest_nil ?_;go_wp2;go_ret;refine⟨rfl,HST9.out,.slice (some ⟨br2,0,none⟩) (roots.length+1) c7,lv,s',roots++ [rj],ls,⟨?_,by rw [List.length_append,List.length_singleton];omega⟩,HS15.out.to⟩
   have e1:(fun m=>((roots.count m:Nat):Int)+if m=rj then 1 else 0)=fun m=>(((roots++ [rj]).count m:Nat):Int):=by
    funext m
    rw [List.count_append,count_one];split<;>simp
   rw [← e1];exact HI9.out.le (Nat.le_succ k)
end Go.Proofs.YtpfafhklppondaaGreat.Uz
