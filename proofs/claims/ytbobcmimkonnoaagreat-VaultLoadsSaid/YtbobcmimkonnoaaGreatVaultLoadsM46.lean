/- The law's do, kind by kind; the conditions stand as hypotheses. -/
import Derived.Test.YtbobcmimkonnoaaGreatVaultLoadsM42
import Derived.Test.YtbobcmimkonnoaaGreatVaultLoadsM34
import Derived.Test.YtbobcmimkonnoaaGreatVaultLoadsM04
import Derived.Test.YtbobcmimkonnoaaGreatVaultLoadsM03
import Derived.Test.YtbobcmimkonnoaaGreatVaultLoadsM12
import Derived.Deep.CutRange
import Derived.Test.YtbobcmimkonnoaaGreatVaultLoadsM01
set_option maxRecDepth 100000
set_option maxHeartbeats 16000000
namespace Go.Proofs.YtbobcmimkonnoaaGreat.Xy
open ChangeShapes WideShapes ChangeAt RowKit Sl Cop D2 M3 Q3 M2 N2 E4 G4 Z4 J4 Q4 L6 P6 M7 Q7 B9 K9 Ly Y4 W6 X6 Qy Y6 Z6 B7 Ry Sy Ty L9 E6 F4
section
variable {v r:Nat}{s:VaultS}{H:List VaultS}{rs:PoolS}{gs:List PageV}{fl:Int}{l:List (List Int × List PageV)}{k:Nat}
abbrev RT(r:Nat)(f:Nat)(n:Int)(rs:PoolS)(gs:List PageV)(fl:Int)(l:List (List Int × List PageV))(g:PageV)(b:Int)(s':VaultS)(H':List VaultS)(k k0:Nat):Prop:=
 ∀(F:Pr) (w:World),Sat ((RefH r rs gs fl l).star F) w→Calls Tryz.prog f #[.pointer (some ⟨r,0,none⟩),.int .i64 n] w fun e w'=>Stays w w'∧∃pv h',e= .returned (.tuple #[pv,.int .i64 b])∧PageIn h' pv g∧
  ∃rs' gs' l',Join s' H' rs' gs' fl l' k∧l'.length+k≤l.length+k0∧Sat ((Pr.own h').star ((RefH r rs' gs' fl l').star F)) w'
theorem rt_take(j:Join s H rs gs fl l (k+1))(ok:PoolOk s.pool)(hl:l.length≤1048576)(n:Int):∃Q,VStepT v 37 n s Q∧∀g b s' H',Q g b s' H'→RT r 38 n rs gs fl l g b s' H' k (k+1):=by
 obtain⟨Q,h1,h2⟩:=pair_take (v:=v) (r:=r) j ok hl n;refine⟨Q,h1,fun g b s' H' hq F w hF=>(h2 g b s' H' hq F w hF).mono ?_⟩;rintro e w' ⟨st,pv,h',he,hp,rs',gs',l',j',hl',hs⟩;exact⟨st,pv,h',he,hp,rs',gs',l',j',by omega,hs⟩
theorem rt_read(j:Join s H rs gs fl l k)(ok:PoolOk s.pool)(n:Int):∃Q,VStepT v 44 n s Q∧∀g b s' H',Q g b s' H'→RT r 45 n rs gs fl l g b s' H' k k:=by
 obtain⟨G,B,hfit,h1,h2⟩:=pair_read (v:=v) (r:=r) j ok n;refine⟨fun g b s' H'=>g=G∧b=B∧s'=s∧H'=H,fun F w hF=>(h1 F w hF).mono ?_,fun g b s' H' hq F w hF=> ?_⟩
 · rintro e w' ⟨t,hg,rfl,st,hs⟩
   exact⟨t,B,s,H,⟨hg,rfl,rfl,rfl⟩,by rw [hg];exact hfit,rfl,st,hs⟩
 · obtain⟨rfl,rfl,rfl,rfl⟩:=hq
   refine(h2 F w hF).mono ?_;rintro e w' ⟨st,pv,h',rfl,hp,hs⟩;exact⟨st,pv,h',rfl,hp,rs,gs,l,j,Nat.le_refl _,hs⟩
end
theorem do6_any(wb v r k:Nat)(z:LawS)(ok:LOK z k)(kind N K pk pl nx:Int)(ai ad:Option Addr)(mi ci md cd:Nat)(hK: -9223372036854775808≤K∧K≤9223372036854775807)(hkd:kind=6)(F:Pr)(w:World)(hF:OwnL (lawL wb v r z [F]) w):
 Calls Tryz.prog 10 #[.pointer (some ⟨wb,0,none⟩),.agg #[.int .i64 kind,.int .i64 N,.int .i64 K,.int .i64 pk,.int .i64 pl,.slice ai mi ci,.slice ad md cd,.int .i64 nx]] w fun e w'=>e= .returned (.bool true)∧Stays w w'∧DoneH wb v r k F w':=by
 obtain⟨s,H,rs,gs,fl,l,kv,ws,h,tv,xv,bs⟩:=z;obtain⟨j,ll,wl,bk,wk⟩:=ok;dsimp only at j ll wl bk wk;have okp:=(vault_ok (hF.pull1 (A1:=VaultA v s))).1;have hs1:=hF.alloc (opC11 kind N K pk pl (.slice ai mi ci) (.slice ad md cd) nx);have HST:=hQ ((Stays.refl w).alloc (opC11 kind N K pk pl (.slice ai mi ci) (.slice ad md cd) nx));have c1:=hs1.facts;simp only [CellsAt,Nat.reduceAdd,and_true] at c1
 have HOK:=hQ (And.intro ll (And.intro wl (And.intro bk wk)));have HK:=hQ hK;clear hK;obtain⟨Q,hV,hR⟩:=rt_read (v:=v) (r:=r) j okp N;have HV:=hQ hV;have HR:=hQ hR;subst hkd;have HS1:=hQ hs1;clear hF hs1 j ll wl bk wk okp hV hR;go_enter Tryz.func10,Tryz.ntmps10
 go_wp2_with fail
 have T1:=HST.out;have T2:=HS1.out;clear HST HS1;generalize hw0:w.alloc (opC11 6 N K pk pl (.slice ai mi ci) (.slice ad md cd) nx)=w0 at*;generalize w.heap.size=I0 at*;have HST0:=hQ T1;have HT2:=hQ T2;clear T1 T2 hw0
 go_cut [15,16] from 130 to 140 (fun t1 t2 wx=> ∃(J:Nat) (b:Int) (s':VaultS) (H':List VaultS) (tai tad:Option Addr) (tci tcd:Nat) (ys:List (Value × Value)) (g:PageV),t1= .pointer (some ⟨J,0,none⟩)∧t2= .int .i64 b∧Q g b s' H'∧Fit g∧Stays w wx∧
  OwnL [Pr.pts J (pageC g.kind g.level (.slice tai g.items.length tci) (.slice tad g.data.length tcd) g.next),PgOwn ⟨.slice tai g.items.length tci,.slice tad g.data.length tcd,ys,g⟩,VaultA v s',RefH r rs gs fl l,Pr.pts I0 (opC11 6 N K pk pl (.slice ai mi ci) (.slice ad md cd) nx),workO wb v r kv tv xv,BRest tv xv bs,WksRow kv ws,Pr.own h,F] wx)
 case first=>
  have c1:=HT2.out.facts;simp only [CellsAt,Nat.reduceAdd,and_true] at c1;refine wp_region_forked (sz:=396) (by kernel_rfl) [0,1,2,3,4,5] [(10,[],[0,1,2,3,4,5],[(6,[7,8,9],[0,1,2,4]),(11,[12],[9])]),(6,[7,8,9],[0,1,2,4],[(10,[],[0,1,2,4,7,8,9]),(11,[12],[9])])] rfl (by kernel_rfl) (by kernel_rfl) (by kernel_rfl) ?_;refine wpQ_all _ rfl rfl ?_;simp only [pick,pQ]
  iterate 6 (go_big_quiet_step (fail))
  refine wpQuiet_nil ?_;intro sx hsx;rcases List.mem_cons.1 hsx with rfl | hsx
  · have hs8:=HT2.out.drew.alloc (pageC 0 0 (.slice none 0 0) (.slice none 0 0) 0)
    have V:=hQ (HV.out _ _ (hs8.pull1 (A1:=VaultA v s)));have HSTA:=hQ (HST0.out.drew.alloc (pageC 0 0 (.slice none 0 0) (.slice none 0 0) 0));clear hs8;refine wpRest_act rfl ?_;go_wp2;refine onN_mk ?_;refine wpQ_nil ⟨?_,?_⟩
    · exact cQ
    refine wpRest_act rfl ?_;go_wp2_with fail
    refine V.out.mono ?_;rintro e w5 ⟨t,b,s',H',hq,hfit,rfl,st5,hs9⟩;rw [show w0.drew.heap.size=w0.heap.size by simp] at hs9;obtain⟨vi,vd,ys,g⟩:=t;dsimp only at hq hfit;obtain⟨_,h3⟩:=pgOwn_iff.1 hs9;obtain⟨tai,tci,e1⟩:=Row.shape h3;obtain⟨tad,tcd,e2⟩:=Row.shape h3.right.right;dsimp only at e1 e2;subst e1 e2;rw [pv_eq];dsimp only;have hs10:=OwnL.of2 hs9;clear c1;have c1:=hs10.facts
    simp only [CellsAt,Nat.reduceAdd,and_true] at c1;have hs11:=((((((hs10).set w0.heap.size 0 (.int .i64 g.kind)).set w0.heap.size 1 (.int .i64 g.level)).set w0.heap.size 2 (.slice tai g.items.length tci)).set w0.heap.size 3 (.slice tad g.data.length tcd)).set w0.heap.size 4 (.int .i64 g.next))
    have HEND:=hQ (And.intro hq (And.intro hfit (And.intro ((((((HSTA.out.trans st5).setCell ⟨w0.heap.size,0,none⟩ (.int .i64 g.kind)).setCell ⟨w0.heap.size,1,none⟩ (.int .i64 g.level)).setCell ⟨w0.heap.size,2,none⟩ (.slice tai g.items.length tci)).setCell ⟨w0.heap.size,3,none⟩ (.slice tad g.data.length tcd)).setCell ⟨w0.heap.size,4,none⟩ (.int .i64 g.next)) hs11)))
    clear hs9 hs10 hs11 h3 hq hfit st5 V HSTA;go_wp2;refine onN_mk ?_;refine wpQ_all _ rfl rfl ?_;simp only [pick,pQ];iterate 3 (go_big_quiet_step (fail))
    refine wpQuiet_nil ⟨?_,?_⟩
    · exact cQ
    refine wpRest_act rfl ?_;go_wp2;refine onN_mk ?_;refine wpQ_all _ rfl rfl ?_;simp only [pick,pQ];iterate 1 (go_big_quiet_step (fail))
    refine wpQuiet_nil ⟨?_,?_⟩
    · exact cQ
    refine wpRest_nil ?_;go_wp2;go_meet
    exact⟨_,b,s',H',tai,tad,tci,tcd,ys,g,rfl,rfl,HEND.out.1,HEND.out.2.1,HEND.out.2.2.1,HEND.out.2.2.2.to⟩
  · cases List.mem_singleton.1 hsx
    have V:=hQ (HV.out _ _ (HT2.out.drew.pull1 (A1:=VaultA v s)));refine wpRest_act rfl ?_;go_wp2_with fail
    refine V.out.mono ?_;rintro e w5 ⟨t,b,s',H',hq,hfit,rfl,st5,hs9⟩;obtain⟨vi,vd,ys,g⟩:=t;dsimp only at hq hfit;obtain⟨_,h3⟩:=pgOwn_iff.1 hs9;obtain⟨tai,tci,e1⟩:=Row.shape h3;obtain⟨tad,tcd,e2⟩:=Row.shape h3.right.right;dsimp only at e1 e2;subst e1 e2;rw [pv_eq];dsimp only;have hs10:=OwnL.of2 hs9;clear c1;have c1:=hs10.facts;simp only [CellsAt,Nat.reduceAdd,and_true] at c1
    have hs11:=hs10.alloc (pageC g.kind g.level (.slice tai g.items.length tci) (.slice tad g.data.length tcd) g.next);have HEND:=hQ (And.intro hq (And.intro hfit (And.intro ((HST0.out.drew.trans st5).alloc (pageC g.kind g.level (.slice tai g.items.length tci) (.slice tad g.data.length tcd) g.next)) hs11)));clear hs9 hs10 hs11 h3 hq hfit st5 V;go_wp2;refine onN_mk ?_;refine wpQ_all _ rfl rfl ?_
    simp only [pick,pQ];iterate 3 (go_big_quiet_step (fail))
    refine wpQuiet_nil ⟨?_,?_⟩
    · exact cQ
    refine wpRest_act rfl ?_;go_wp2;refine onN_mk ?_;refine wpQ_nil ⟨?_,?_⟩
    · exact cQ
    refine wpRest_act rfl ?_;go_wp2;refine onN_mk ?_;refine wpQ_all _ rfl rfl ?_;simp only [pick,pQ];iterate 1 (go_big_quiet_step (fail))
    refine wpQuiet_nil ⟨?_,?_⟩
    · exact cQ
    refine wpRest_nil ?_;go_wp2;go_meet
    exact⟨_,b,s',H',tai,tad,tci,tcd,ys,g,rfl,rfl,HEND.out.1,HEND.out.2.1,HEND.out.2.2.1,HEND.out.2.2.2.to⟩
 case rest=>
  obtain⟨J,b,s',H',tai,tad,tci,tcd,ys,g,rfl,rfl,hq,hfit,st1,hs2⟩:=hcut;have HRQ:=hQ (HR.out g b s' H' hq);have HFIT:=hQ hfit;have HS2:=hQ hs2;have HST1:=hQ st1;have c1:=hs2.facts;simp only [CellsAt,Nat.reduceAdd,and_true] at c1;clear HV HR hq hfit hs2 st1 HST0 HT2;go_wp2_with fail
  go_cut [17,18] from 140 to 150 (fun t1 t2 wy=> ∃(J2:Nat) (rs':PoolS) (gs':List PageV) (l':List (List Int × List PageV)) (h':Hp) (wai wad:Option Addr) (wci wcd:Nat),t1= .pointer (some ⟨J2,0,none⟩)∧t2= .int .i64 b∧Join s' H' rs' gs' fl l' k∧l'.length+k≤l.length+k∧
   PageIn h' (pageV g.kind g.level (.slice wai g.items.length wci) (.slice wad g.data.length wcd) g.next) g∧Stays w wy∧
   OwnL [Pr.pts J2 (pageC g.kind g.level (.slice wai g.items.length wci) (.slice wad g.data.length wcd) g.next),Pr.own h',RefH r rs' gs' fl l',Pr.pts J (pageC g.kind g.level (.slice tai g.items.length tci) (.slice tad g.data.length tcd) g.next),PgOwn ⟨.slice tai g.items.length tci,.slice tad g.data.length tcd,ys,g⟩,VaultA v s',Pr.pts I0 (opC11 6 N K pk pl (.slice ai mi ci) (.slice ad md cd) nx),workO wb v r kv tv xv,BRest tv xv bs,WksRow kv ws,Pr.own h,F] wy)
  case first=>
   refine wp_region_forked (sz:=396) (by kernel_rfl) [0,1,2,3,4,5] [(10,[],[0,1,2,3,4,5],[(6,[7,8,9],[0,1,2,4]),(11,[12],[9])]),(6,[7,8,9],[0,1,2,4],[(10,[],[0,1,2,4,7,8,9]),(11,[12],[9])])] rfl (by kernel_rfl) (by kernel_rfl) (by kernel_rfl) ?_;refine wpQ_all _ rfl rfl ?_;simp only [pick,pQ];iterate 6 (go_big_quiet_step (fail))
   refine wpQuiet_nil ?_;intro sx hsx;rcases List.mem_cons.1 hsx with rfl | hsx
   · have hs8:=HS2.out.drew.alloc (pageC 0 0 (.slice none 0 0) (.slice none 0 0) 0)
     have R:=hQ (HRQ.out _ _ (hs8.pull1 (A1:=RefH r rs gs fl l)));have HSTA:=hQ (HST1.out.drew.alloc (pageC 0 0 (.slice none 0 0) (.slice none 0 0) 0));clear hs8;refine wpRest_act rfl ?_;go_wp2;refine onN_mk ?_;refine wpQ_nil ⟨?_,?_⟩
     · exact cQ
     refine wpRest_act rfl ?_;go_wp2_with fail
     refine R.out.mono ?_;rintro e w5 ⟨st5,pv,h',rfl,hpg,rs',gs',l',j',hl',hs9⟩;rw [show wc.drew.heap.size=wc.heap.size by simp] at hs9;obtain⟨_,_,rfl,hi',hd'⟩:=id hpg;obtain⟨wai,wci,rfl,_,_⟩:=items_rd hi';obtain⟨wad,wcd,rfl⟩:=bytes_shape hd';have hs10:=OwnL.of2 hs9;clear c1;have c1:=hs10.facts;simp only [CellsAt,Nat.reduceAdd,and_true] at c1
     have hs11:=((((((hs10).set wc.heap.size 0 (.int .i64 g.kind)).set wc.heap.size 1 (.int .i64 g.level)).set wc.heap.size 2 (.slice wai g.items.length wci)).set wc.heap.size 3 (.slice wad g.data.length wcd)).set wc.heap.size 4 (.int .i64 g.next))
     have HEND:=hQ (And.intro j' (And.intro hl' (And.intro hpg (And.intro ((((((HSTA.out.trans st5).setCell ⟨wc.heap.size,0,none⟩ (.int .i64 g.kind)).setCell ⟨wc.heap.size,1,none⟩ (.int .i64 g.level)).setCell ⟨wc.heap.size,2,none⟩ (.slice wai g.items.length wci)).setCell ⟨wc.heap.size,3,none⟩ (.slice wad g.data.length wcd)).setCell ⟨wc.heap.size,4,none⟩ (.int .i64 g.next)) hs11))))
     clear hs9 hs10 hs11 hi' hd' hpg j' hl' st5 R HSTA;go_wp2;refine onN_mk ?_;refine wpQ_all _ rfl rfl ?_;simp only [pick,pQ];iterate 3 (go_big_quiet_step (fail))
     refine wpQuiet_nil ⟨?_,?_⟩
     · exact cQ
     refine wpRest_act rfl ?_;go_wp2;refine onN_mk ?_;refine wpQ_all _ rfl rfl ?_;simp only [pick,pQ];iterate 1 (go_big_quiet_step (fail))
     refine wpQuiet_nil ⟨?_,?_⟩
     · exact cQ
     refine wpRest_nil ?_;go_wp2;go_meet
     exact⟨_,rs',gs',l',h',wai,wad,wci,wcd,rfl,rfl,HEND.out.1,HEND.out.2.1,HEND.out.2.2.1,HEND.out.2.2.2.1,HEND.out.2.2.2.2.to⟩
   · cases List.mem_singleton.1 hsx
     have R:=hQ (HRQ.out _ _ (HS2.out.drew.pull1 (A1:=RefH r rs gs fl l)));refine wpRest_act rfl ?_;go_wp2_with fail
     refine R.out.mono ?_;rintro e w5 ⟨st5,pv,h',rfl,hpg,rs',gs',l',j',hl',hs9⟩;obtain⟨_,_,rfl,hi',hd'⟩:=id hpg;obtain⟨wai,wci,rfl,_,_⟩:=items_rd hi';obtain⟨wad,wcd,rfl⟩:=bytes_shape hd';have hs10:=OwnL.of2 hs9;clear c1;have c1:=hs10.facts;simp only [CellsAt,Nat.reduceAdd,and_true] at c1
     have hs11:=hs10.alloc (pageC g.kind g.level (.slice wai g.items.length wci) (.slice wad g.data.length wcd) g.next);have HEND:=hQ (And.intro j' (And.intro hl' (And.intro hpg (And.intro ((HST1.out.drew.trans st5).alloc (pageC g.kind g.level (.slice wai g.items.length wci) (.slice wad g.data.length wcd) g.next)) hs11))));clear hs9 hs10 hs11 hi' hd' hpg j' hl' st5 R;go_wp2;refine onN_mk ?_
     refine wpQ_all _ rfl rfl ?_;simp only [pick,pQ];iterate 3 (go_big_quiet_step (fail))
     refine wpQuiet_nil ⟨?_,?_⟩
     · exact cQ
     refine wpRest_act rfl ?_;go_wp2;refine onN_mk ?_;refine wpQ_nil ⟨?_,?_⟩
     · exact cQ
     refine wpRest_act rfl ?_;go_wp2;refine onN_mk ?_;refine wpQ_all _ rfl rfl ?_;simp only [pick,pQ];iterate 1 (go_big_quiet_step (fail))
     refine wpQuiet_nil ⟨?_,?_⟩
     · exact cQ
     refine wpRest_nil ?_;go_wp2;go_meet
     exact⟨_,rs',gs',l',h',wai,wad,wci,wcd,rfl,rfl,HEND.out.1,HEND.out.2.1,HEND.out.2.2.1,HEND.out.2.2.2.1,HEND.out.2.2.2.2.to⟩
  case rest=>
   obtain⟨J2,rs',gs',l',h',wai,wad,wci,wcd,rfl,rfl,j',hl',hpg,st2,hs3⟩:=hcut;have c1:=hs3.facts;simp only [CellsAt,Nat.reduceAdd,and_true] at c1;obtain⟨ll,wl,bk,wk⟩:=HOK.out;obtain⟨hd,hs4⟩:=(hs3.pull2 (A1:=Pr.own h) (A2:=Pr.own h')).own_join;have hs5:=book_close (h:=h.un h') (wb:=wb) (v:=v) (r:=r) (kv:=kv) (tv:=tv) (xv:=xv) (bs:=bs) (bk.sub (Hp.sub_un_left h h')) (OwnL.of1 hs4)
   have KP:=hQ (keep_any wb v r kv ⟨.slice tai g.items.length tci,.slice tad g.data.length tcd,ys,g⟩ HFIT.out (h.un h') (.slice wai g.items.length wci) (.slice wad g.data.length wcd) (hpg.sub (Hp.sub_un_right hd)) _ _ (hs5.pull3 (A1:=BookE wb v r kv (h.un h')) (A2:=PgOwn ⟨.slice tai g.items.length tci,.slice tad g.data.length tcd,ys,g⟩) (A3:=Pr.own (h.un h'))));rw [pv_eq] at KP;dsimp only at KP
   have HJ:=hQ (And.intro j' hl');have HST2:=hQ st2;clear ll wl bk wk hd hs3 hs4 hs5 j' hl' hpg st2 HS2 HST1 HRQ;go_wp2_with fail
   refine KP.out.mono ?_;rintro e w6 ⟨rfl,st6,hs6⟩;obtain⟨tv2,xv2,bs2,bk2,hs7⟩:=book_open (wb:=wb) (v:=v) (r:=r) (kv:=kv) (h:=h.un h') (OwnL.of2 hs6);have HS7:=hQ hs7;have HST6:=hQ (HST2.out.trans st6);have HBK:=hQ bk2;clear hs6 hs7 st6 bk2 KP c1;go_wp2;go_ret;obtain⟨ll,wl,bk,wk⟩:=HOK.out;have hl2:=HJ.out.2
   exact⟨rfl,HST6.out,⟨s',H',rs',gs',fl,l',kv,ws,h.un h',tv2,xv2,bs2⟩,⟨HJ.out.1,by show l'.length+k≤ _;omega,by show ws.length+k≤ _;omega,HBK.out,fun x hx=>(wk x hx).sub (Hp.sub_un_left h h')⟩,HS7.out.to⟩
end Go.Proofs.YtbobcmimkonnoaaGreat.Xy
namespace Go.Proofs.YtbobcmimkonnoaaGreat.Cz
open ChangeShapes WideShapes ChangeAt RowKit Sl Cop D2 M3 Q3 M2 N2 E4 G4 Z4 J4 Q4 L6 P6 M7 Q7 B9 K9 Ly Y4 W6 X6 Qy Y6 Z6 B7 Ry Sy Ty L9 E6 F4
theorem do10_any(wb v r k:Nat)(z:LawS)(ok:LOK z k)(kind N K pk pl nx:Int)(ai ad:Option Addr)(mi ci md cd:Nat)(hK: -9223372036854775808≤K∧K≤9223372036854775807)(hkd:kind=10)(F:Pr)(w:World)(hF:OwnL (lawL wb v r z [F]) w):
 Calls Tryz.prog 10 #[.pointer (some ⟨wb,0,none⟩),.agg #[.int .i64 kind,.int .i64 N,.int .i64 K,.int .i64 pk,.int .i64 pl,.slice ai mi ci,.slice ad md cd,.int .i64 nx]] w fun e w'=>e= .returned (.bool true)∧Stays w w'∧DoneH wb v r k F w':=by
 obtain⟨s,H,rs,gs,fl,l,kv,ws,h,tv,xv,bs⟩:=z;obtain⟨j,ll,wl,bk,wk⟩:=ok;dsimp only at j ll wl bk wk;have okp:=(vault_ok (hF.pull1 (A1:=VaultA v s))).1;have hs1:=hF.alloc (opC11 kind N K pk pl (.slice ai mi ci) (.slice ad md cd) nx);have HST:=hQ ((Stays.refl w).alloc (opC11 kind N K pk pl (.slice ai mi ci) (.slice ad md cd) nx));have c1:=hs1.facts;simp only [CellsAt,Nat.reduceAdd,and_true] at c1
 have HOK:=hQ (And.intro ll (And.intro wl (And.intro bk wk)));have HK:=hQ hK;clear hK;have V:=hQ (vpages_any v s N j.now.tw.fit _ _ (hs1.drew.pull1 (A1:=VaultA v s)))
 have HL:=hQ (And.intro (nums_same j.now.tw N) (And.intro (nums_fit j.now.tw.fit (pagesIn s.pool N)) (show (numsOf s (pagesIn s.pool N)).length≤65536 by
  unfold numsOf
  rw [List.length_map]
  exact Nat.le_trans (pagesTo_len _ _ _) okp.n2)))
 have HJ:=hQ j;obtain⟨L,hL⟩:∃L,numsOf s (pagesIn s.pool N)=L:=⟨_,rfl⟩;rw [hL] at V HL;subst hkd;clear hF hs1 j ll wl bk wk okp hL;go_enter Tryz.func10,Tryz.ntmps10
 go_wp2_with fail
 refine wS 396 [0,1,2,3,4,5,6,8,9,10,11,12,13,15,16] [(7,[],[0,1,2,3,5,8,9,10,11,12,13,15,16]),(14,[],[0,1,2,3,5,8,9,10,12,15,16]),(17,[18],[1,2,3,5,8,9,10,12,15])] ?_;refine wpQ_all _ rfl rfl ?_;simp only [pick,pQ];iterate 15 (go_big_quiet_step (fail))
 refine wpQuiet_nil ?_;refine wpRest_act rfl ?_;go_wp2_with fail
 refine V.out.mono ?_;rintro e w1 ⟨st1,h1,fv,rfl,hwk,hs2⟩;have hs3:=OwnL.of2 hs2;clear c1;have c1:=hs3.facts;simp only [CellsAt,Nat.reduceAdd,and_true] at c1;have R:=hQ (rpagesH_any r rs gs fl l N _ _ (hs3.pull1 (A1:=RefH r rs gs fl l)));rw [← HL.out.1] at R;have HWK:=hQ hwk;have HST1:=hQ (HST.out.drew.trans st1);clear hs2 hs3 st1 V HST hwk;go_wp2;refine onN_mk ?_;refine wpQ_nil ⟨?_,?_⟩
 · exact cQ
 refine wpRest_act rfl ?_;go_wp2_with fail
 refine R.out.mono ?_;rintro e w2 ⟨st2,lv,h2,rfl,hwn,hs4⟩;have hs5:=OwnL.of2 hs4;clear c1;have c1:=hs5.facts;simp only [CellsAt,Nat.reduceAdd,and_true] at c1;obtain⟨ll,wl,bk,wk⟩:=HOK.out;obtain⟨hd1,hs6⟩:=(hs5.pull2 (A1:=Pr.own h) (A2:=Pr.own h1)).own_join;obtain⟨hd2,hs7⟩:=((OwnL.of1 hs6).pull2 (A1:=Pr.own (h.un h1)) (A2:=Pr.own h2)).own_join
 have hsub:h.sub ((h.un h1).un h2):=(Hp.sub_un_left h h1).trans (Hp.sub_un_left (h.un h1) h2);have hs8:=book_close (h:=(h.un h1).un h2) (wb:=wb) (v:=v) (r:=r) (kv:=kv) (tv:=tv) (xv:=xv) (bs:=bs) (bk.sub hsub) (OwnL.of1 hs7);have hwk2:=HWK.out.sub ((Hp.sub_un_right hd1).trans (Hp.sub_un_left (h.un h1) h2));obtain⟨xs2,y1,y2,y3⟩:=hwn
 have hwn2:NumsIn ((h.un h1).un h2) lv L:=⟨xs2,y1,y2.sub (Hp.sub_un_right hd2),fun i hx hl=>⟨(y3 i hx hl).1.sub (Hp.sub_un_right hd2),(y3 i hx hl).2.sub (Hp.sub_un_right hd2)⟩⟩;have GO:=hQ (goes_any wb v r kv ((h.un h1).un h2) fv lv L hwk2 hwn2 HL.out.2.1 HL.out.2.2 K _ _ (hs8.pull2 (A1:=BookE wb v r kv ((h.un h1).un h2)) (A2:=Pr.own ((h.un h1).un h2))));have HSUB:=hQ hsub
 have HST2:=hQ (HST1.out.trans st2);clear hs4 hs5 hs6 hs7 hs8 hd1 hd2 hsub hwk2 hwn2 y1 y2 y3 ll wl bk wk st2 R HST1 HWK;go_wp2;refine onN_mk ?_;refine wpQ_nil ⟨?_,?_⟩
 · exact cQ
 refine wpRest_act rfl ?_;go_wp2_with fail
 refine GO.out.mono ?_;rintro e w3 ⟨rfl,st3,hs9⟩;obtain⟨tv2,xv2,bs2,bk2,hs10⟩:=book_open (wb:=wb) (v:=v) (r:=r) (kv:=kv) (h:=(h.un h1).un h2) (OwnL.of2 hs9);clear c1;have c1:=hs10.facts;simp only [CellsAt,Nat.reduceAdd,and_true] at c1;have HS10:=hQ hs10;have HST3:=hQ (HST2.out.trans st3);have HBK:=hQ bk2;clear hs9 hs10 st3 bk2 GO HST2;go_wp2;refine onN_mk ?_;refine wpQ_all _ rfl rfl ?_
 simp only [pick,pQ];iterate 1 (go_big_quiet_step (fail))
 refine wpQuiet_nil ⟨?_,?_⟩
 · exact cQ
 refine wpRest_nil ?_;go_wp2;go_ret;obtain⟨ll,wl,bk,wk⟩:=HOK.out;exact⟨rfl,HST3.out,⟨s,H,rs,gs,fl,l,kv,ws,(h.un h1).un h2,tv2,xv2,bs2⟩,⟨HJ.out,ll,wl,HBK.out,fun x hx=>(wk x hx).sub HSUB.out⟩,HS10.out.to⟩
end Go.Proofs.YtbobcmimkonnoaaGreat.Cz
namespace Go.Proofs.YtbobcmimkonnoaaGreat.Fz
open ChangeShapes WideShapes ChangeAt RowKit Sl Cop D2 M3 Q3 M2 N2 E4 G4 Z4 J4 Q4 L6 P6 M7 Q7 B9 K9 Ly Y4 W6 X6 Qy Y6 Z6 B7 Ry Sy Ty L9 E6 F4
theorem run_store_func {P:Program}{w:World}{a:Addr}{m:Mode}(f:Fn)(x y:Array Value):(store a (.func f x y) m).run P w=stored P w a (.func f x y) m:=run_store P w a _ m rfl
attribute [local go_sem] run_store_func
theorem do15_any(wb v r k:Nat)(z:LawS)(ok:LOK z k)(kind N K pk pl nx:Int)(ai ad:Option Addr)(mi ci md cd:Nat)(hK: -9223372036854775808≤K∧K≤9223372036854775807)(hkd:kind=15)(F:Pr)(w:World)(hF:OwnL (lawL wb v r z [F]) w):
 Calls Tryz.prog 10 #[.pointer (some ⟨wb,0,none⟩),.agg #[.int .i64 kind,.int .i64 N,.int .i64 K,.int .i64 pk,.int .i64 pl,.slice ai mi ci,.slice ad md cd,.int .i64 nx]] w fun e w'=>e= .returned (.bool true)∧Stays w w'∧DoneH wb v r k F w':=by
 obtain⟨s,H,rs,gs,fl,l,kv,ws,h,tv,xv,bs⟩:=z;obtain⟨j,ll,wl,bk,wk⟩:=ok;dsimp only at j ll wl bk wk;have okp:=(vault_ok (hF.pull1 (A1:=VaultA v s))).1;have hs1:=hF.alloc (opC11 kind N K pk pl (.slice ai mi ci) (.slice ad md cd) nx);have HST:=hQ ((Stays.refl w).alloc (opC11 kind N K pk pl (.slice ai mi ci) (.slice ad md cd) nx));have c1:=hs1.facts;simp only [CellsAt,Nat.reduceAdd,and_true] at c1
 have HOK:=hQ (And.intro ll (And.intro wl (And.intro bk wk)));have HK:=hQ hK;clear hK;have HJ:=hQ j;obtain⟨nw,hnw⟩:∃nw,ws.length=nw:=⟨_,rfl⟩;obtain⟨ak,ck,ekv⟩:=Row.shape (hs1.pull1 (A1:=WksRow kv ws));rw [hnw] at ekv;subst ekv;have HNW:=hQ hnw;have hnw3:(nw:Int)≤1048576:=by omega
 have HS1:=hQ hs1;subst hkd;by_cases h0:nw=0
 · subst h0
   clear hF hs1 j ll wl bk wk okp hnw;go_enter Tryz.func10,Tryz.ntmps10
   go_wp2;go_ret;obtain⟨ll,wl,bk,wk⟩:=HOK.out;exact⟨rfl,HST.out,⟨s,H,rs,gs,fl,l,.slice ak 0 ck,ws,h,tv,xv,bs⟩,⟨HJ.out,ll,wl,bk,wk⟩,HS1.out.to⟩
 · by_cases hk0:K<0
   · have hn0:((nw:Int) == 0)=false:=by rw [beq_eq_false_iff_ne];omega
     clear hF hs1 j ll wl bk wk okp hnw;go_enter Tryz.func10,Tryz.ntmps10
     go_wp2;go_ret;obtain⟨ll,wl,bk,wk⟩:=HOK.out;exact⟨rfl,HST.out,⟨s,H,rs,gs,fl,l,.slice ak nw ck,ws,h,tv,xv,bs⟩,⟨HJ.out,ll,wl,bk,wk⟩,HS1.out.to⟩
   · have hn0:((nw:Int) == 0)=false:=by rw [beq_eq_false_iff_ne];omega
     obtain⟨i,hq⟩:∃i:Nat,Int.tmod K nw=(i:Int):=⟨(Int.tmod K nw).toNat,(Int.toNat_of_nonneg (Int.tmod_nonneg _ (by omega))).symm⟩
     have hi:i<nw:=by
      have:=Int.tmod_lt_of_pos K (show (0:Int)<nw by omega)
      omega
     have hi3:(i:Int)<nw:=by omega
     have hiw:i<ws.length:=by omega
     obtain⟨E,hE⟩:∃E,ws[i]=E:=⟨_,rfl⟩;have hwk:=wk ws[i] (List.getElem_mem hiw);rw [hE] at hwk;have hrow:=hs1.pull1 (A1:=WksRow (.slice ak nw ck) ws);dsimp only [WksRow] at hrow;rw [hnw] at hrow;obtain⟨_,_,e3,_,hc⟩:=Row.read hrow;cases e3;obtain⟨b,rfl,hd⟩:=hc (by omega);have f0:=hd (i*2) (by omega);have f1:=hd (i*2+1) (by omega);have g0:=flat_at wkCells 2 (fun _=>rfl) ws i 0 hiw (by omega)
     have g1:=flat_at wkCells 2 (fun _=>rfl) ws i 1 hiw (by omega);rw [hE] at g0 g1;rw [Nat.add_zero] at g0;obtain⟨fv,wv,L⟩:=E;obtain⟨⟨lb,lv0,e1,y1,y2⟩,hwn,hfit,hlen⟩:=hwk;dsimp only at e1 y2 hwn hfit hlen;subst e1;obtain⟨al,cl,e2,_⟩:=nums_rd hwn;subst e2;have f2:=f0.1.trans g0;have f3:=f1.1.trans g1;simp only [wkCells,List.getElem?_cons_zero,List.getElem?_cons_succ] at f2 f3
     have zb:=World.block_lt_of_cell? _ _ f2;have HWK:=hQ (And.intro y1 (And.intro y2 (And.intro hwn (And.intro hfit hlen))));have HBK0:=hQ bk;clear hF hs1 j ll wl bk wk okp hnw hE hrow hc hd f0 f1 g0 g1 y1 y2 hwn hfit hlen;go_enter Tryz.func10,Tryz.ntmps10
     go_wp2_with fail
     have T1:=HST.out;have T2:=HS1.out;clear HST HS1;generalize hw0:w.alloc (opC11 15 N K pk pl (.slice ai mi ci) (.slice ad md cd) nx)=w0 at*;generalize w.heap.size=I0 at*;obtain⟨hs2,_⟩:=T2.freshD [.func (.func 117) #[] #[.pointer (some ⟨lb,0,none⟩)],.slice al L.length cl] 106 w0.heap.size rfl
     have hs3:=book_close (h:=h) (wb:=wb) (v:=v) (r:=r) (kv:= .slice (some ⟨b,0,none⟩) nw ck) (tv:=tv) (xv:=xv) (bs:=bs) HBK0.out hs2
     have GO:=hQ (fun kk:Int=>goes_any wb v r (.slice (some ⟨b,0,none⟩) nw ck) h _ (.slice al L.length cl) L ⟨lb,lv0,rfl,HWK.out.1,HWK.out.2.1⟩ HWK.out.2.2.1 HWK.out.2.2.2.1 HWK.out.2.2.2.2 kk _ _ (hs3.pull2 (A1:=BookE wb v r (.slice (some ⟨b,0,none⟩) nw ck) h) (A2:=Pr.own h)))
     have HST1:=hQ (T1.alloc (.cells [Value.func (.func 117) #[] #[.pointer (some ⟨lb,0,none⟩)],.slice al L.length cl].toArray 106)).drew;clear T1 T2 hs2 hs3 hw0 HWK HBK0;refine wS 396 [0,1,2,3,4,5,6,7,8,9,10,11,12,13] [(14,[],[0,1,2,3,4,5,6,7,8,9,11,12,13,10]),(15,[],[])] ?_;refine wpQ_cut [0,1,2,3,4,5,6,7,8,9] [10,11,12,13] ?_;refine wpQ_all _ rfl rfl ?_;simp only [pick,pQ]
     iterate 10 (go_big_quiet_step (fail))
     refine wpQuiet_nil ?_;refine wpQ_step rfl rfl (fun K hK=> ?_);go_simp;refine hK _ ?_;clear hK K;refine wpQ_all _ rfl rfl ?_;simp only [pick,pQ];iterate 3 (go_big_quiet_step (fail))
     refine wpQuiet_nil ?_;refine wpRest_act rfl ?_;go_wp2;refine onN_mk ?_;refine wpQ_nil ⟨?_,?_⟩
     · refine chk_cut [0,1,2,3,4,5,6,7,8,9,11,12,13] [10] ?_ (chk_cons (yieldF_of rfl rfl rfl rfl (by go_simp)) chk_nil)
       refine chk_all _ rfl rfl ?_;simp only [pick,Same,pQ,and_true];repeat' (first | apply And.intro | (go_big_quiet_step (fail);exact wpQuiet_nil rfl))
     refine wpRest_act rfl ?_;go_wp2;refine onN_mk ?_;refine wpQ_nil ⟨?_,?_⟩
     · exact chk_nil
     refine wpRest_nil ?_;go_wp2_with fail
     refine(GO.out _).mono ?_;rintro e w3 ⟨rfl,st3,hs9⟩;obtain⟨tv2,xv2,bs2,bk2,hs10⟩:=book_open (wb:=wb) (v:=v) (r:=r) (kv:= .slice (some ⟨b,0,none⟩) nw ck) (h:=h) (OwnL.of2 hs9);have HS10:=hQ hs10;have HST3:=hQ (HST1.out.trans st3);have HBK:=hQ bk2;clear hs9 hs10 st3 bk2 GO HST1 c1;go_wp2;go_ret;obtain⟨ll,wl,bk,wk⟩:=HOK.out
     exact⟨rfl,HST3.out,⟨s,H,rs,gs,fl,l,.slice (some ⟨b,0,none⟩) nw ck,ws,h,tv2,xv2,bs2⟩,⟨HJ.out,ll,wl,HBK.out,wk⟩,HS10.out.to⟩
end Go.Proofs.YtbobcmimkonnoaaGreat.Fz
namespace Go.Proofs.YtbobcmimkonnoaaGreat.Jz
open ChangeShapes WideShapes ChangeAt RowKit Sl Cop D2 M3 Q3 M2 N2 E4 G4 Z4 J4 Q4 L6 P6 M7 Q7 B9 K9 Ly Y4 W6 X6 Qy Y6 Z6 B7 Ry Sy Ty L9 E6 F4 Xy
theorem do3_any(wb v r k:Nat)(z:LawS)(ok:LOK z (k+1))(kind N K pk pl nx:Int)(ai ad:Option Addr)(mi ci md cd:Nat)(hK: -9223372036854775808≤K∧K≤9223372036854775807)(hkd:kind=3)(F:Pr)(w:World)(hF:OwnL (lawL wb v r z [F]) w):
 Calls Tryz.prog 10 #[.pointer (some ⟨wb,0,none⟩),.agg #[.int .i64 kind,.int .i64 N,.int .i64 K,.int .i64 pk,.int .i64 pl,.slice ai mi ci,.slice ad md cd,.int .i64 nx]] w fun e w'=>e= .returned (.bool true)∧Stays w w'∧DoneH wb v r k F w':=by
 obtain⟨s,H,rs,gs,fl,l,kv,ws,h,tv,xv,bs⟩:=z;obtain⟨j,ll,wl,bk,wk⟩:=ok;dsimp only at j ll wl bk wk;have okp:=(vault_ok (hF.pull1 (A1:=VaultA v s))).1;have hs1:=hF.alloc (opC11 kind N K pk pl (.slice ai mi ci) (.slice ad md cd) nx);have HST:=hQ ((Stays.refl w).alloc (opC11 kind N K pk pl (.slice ai mi ci) (.slice ad md cd) nx));have c1:=hs1.facts;simp only [CellsAt,Nat.reduceAdd,and_true] at c1
 have HOK:=hQ (And.intro ll (And.intro wl (And.intro bk wk)));have HK:=hQ hK;clear hK;obtain⟨Q,hV,hR⟩:=rt_take (v:=v) (r:=r) j okp (by omega) N;have HV:=hQ hV;have HR:=hQ hR;subst hkd;have HS1:=hQ hs1;clear hF hs1 j ll wl bk wk okp hV hR;go_enter Tryz.func10,Tryz.ntmps10
 go_wp2_with fail
 have T1:=HST.out;have T2:=HS1.out;clear HST HS1;generalize hw0:w.alloc (opC11 3 N K pk pl (.slice ai mi ci) (.slice ad md cd) nx)=w0 at*;generalize w.heap.size=I0 at*;have HST0:=hQ T1;have HT2:=hQ T2;clear T1 T2 hw0
 go_cut [9,10] from 63 to 73 (fun t1 t2 wx=> ∃(J:Nat) (b:Int) (s':VaultS) (H':List VaultS) (tai tad:Option Addr) (tci tcd:Nat) (ys:List (Value × Value)) (g:PageV),t1= .pointer (some ⟨J,0,none⟩)∧t2= .int .i64 b∧Q g b s' H'∧Fit g∧Stays w wx∧
  OwnL [Pr.pts J (pageC g.kind g.level (.slice tai g.items.length tci) (.slice tad g.data.length tcd) g.next),PgOwn ⟨.slice tai g.items.length tci,.slice tad g.data.length tcd,ys,g⟩,VaultA v s',RefH r rs gs fl l,Pr.pts I0 (opC11 3 N K pk pl (.slice ai mi ci) (.slice ad md cd) nx),workO wb v r kv tv xv,BRest tv xv bs,WksRow kv ws,Pr.own h,F] wx)
 case first=>
  have c1:=HT2.out.facts;simp only [CellsAt,Nat.reduceAdd,and_true] at c1;refine wp_region_forked (sz:=396) (by kernel_rfl) [0,1,2,3,4,5] [(10,[],[0,1,2,3,4,5],[(6,[7,8,9],[0,1,2,4]),(11,[12],[9])]),(6,[7,8,9],[0,1,2,4],[(10,[],[0,1,2,4,7,8,9]),(11,[12],[9])])] rfl (by kernel_rfl) (by kernel_rfl) (by kernel_rfl) ?_;refine wpQ_all _ rfl rfl ?_;simp only [pick,pQ]
  iterate 6 (go_big_quiet_step (fail))
  refine wpQuiet_nil ?_;intro sx hsx;rcases List.mem_cons.1 hsx with rfl | hsx
  · have hs8:=HT2.out.drew.alloc (pageC 0 0 (.slice none 0 0) (.slice none 0 0) 0)
    have V:=hQ (HV.out _ _ (hs8.pull1 (A1:=VaultA v s)));have HSTA:=hQ (HST0.out.drew.alloc (pageC 0 0 (.slice none 0 0) (.slice none 0 0) 0));clear hs8;refine wpRest_act rfl ?_;go_wp2;refine onN_mk ?_;refine wpQ_nil ⟨?_,?_⟩
    · exact cQ
    refine wpRest_act rfl ?_;go_wp2_with fail
    refine V.out.mono ?_;rintro e w5 ⟨t,b,s',H',hq,hfit,rfl,st5,hs9⟩;rw [show w0.drew.heap.size=w0.heap.size by simp] at hs9;obtain⟨vi,vd,ys,g⟩:=t;dsimp only at hq hfit;obtain⟨_,h3⟩:=pgOwn_iff.1 hs9;obtain⟨tai,tci,e1⟩:=Row.shape h3;obtain⟨tad,tcd,e2⟩:=Row.shape h3.right.right;dsimp only at e1 e2;subst e1 e2;rw [pv_eq];dsimp only;have hs10:=OwnL.of2 hs9;clear c1;have c1:=hs10.facts
    simp only [CellsAt,Nat.reduceAdd,and_true] at c1;have hs11:=((((((hs10).set w0.heap.size 0 (.int .i64 g.kind)).set w0.heap.size 1 (.int .i64 g.level)).set w0.heap.size 2 (.slice tai g.items.length tci)).set w0.heap.size 3 (.slice tad g.data.length tcd)).set w0.heap.size 4 (.int .i64 g.next))
    have HEND:=hQ (And.intro hq (And.intro hfit (And.intro ((((((HSTA.out.trans st5).setCell ⟨w0.heap.size,0,none⟩ (.int .i64 g.kind)).setCell ⟨w0.heap.size,1,none⟩ (.int .i64 g.level)).setCell ⟨w0.heap.size,2,none⟩ (.slice tai g.items.length tci)).setCell ⟨w0.heap.size,3,none⟩ (.slice tad g.data.length tcd)).setCell ⟨w0.heap.size,4,none⟩ (.int .i64 g.next)) hs11)))
    clear hs9 hs10 hs11 h3 hq hfit st5 V HSTA;go_wp2;refine onN_mk ?_;refine wpQ_all _ rfl rfl ?_;simp only [pick,pQ];iterate 3 (go_big_quiet_step (fail))
    refine wpQuiet_nil ⟨?_,?_⟩
    · exact cQ
    refine wpRest_act rfl ?_;go_wp2;refine onN_mk ?_;refine wpQ_all _ rfl rfl ?_;simp only [pick,pQ];iterate 1 (go_big_quiet_step (fail))
    refine wpQuiet_nil ⟨?_,?_⟩
    · exact cQ
    refine wpRest_nil ?_;go_wp2;go_meet
    exact⟨_,b,s',H',tai,tad,tci,tcd,ys,g,rfl,rfl,HEND.out.1,HEND.out.2.1,HEND.out.2.2.1,HEND.out.2.2.2.to⟩
  · cases List.mem_singleton.1 hsx
    have V:=hQ (HV.out _ _ (HT2.out.drew.pull1 (A1:=VaultA v s)));refine wpRest_act rfl ?_;go_wp2_with fail
    refine V.out.mono ?_;rintro e w5 ⟨t,b,s',H',hq,hfit,rfl,st5,hs9⟩;obtain⟨vi,vd,ys,g⟩:=t;dsimp only at hq hfit;obtain⟨_,h3⟩:=pgOwn_iff.1 hs9;obtain⟨tai,tci,e1⟩:=Row.shape h3;obtain⟨tad,tcd,e2⟩:=Row.shape h3.right.right;dsimp only at e1 e2;subst e1 e2;rw [pv_eq];dsimp only;have hs10:=OwnL.of2 hs9;clear c1;have c1:=hs10.facts;simp only [CellsAt,Nat.reduceAdd,and_true] at c1
    have hs11:=hs10.alloc (pageC g.kind g.level (.slice tai g.items.length tci) (.slice tad g.data.length tcd) g.next);have HEND:=hQ (And.intro hq (And.intro hfit (And.intro ((HST0.out.drew.trans st5).alloc (pageC g.kind g.level (.slice tai g.items.length tci) (.slice tad g.data.length tcd) g.next)) hs11)));clear hs9 hs10 hs11 h3 hq hfit st5 V;go_wp2;refine onN_mk ?_;refine wpQ_all _ rfl rfl ?_
    simp only [pick,pQ];iterate 3 (go_big_quiet_step (fail))
    refine wpQuiet_nil ⟨?_,?_⟩
    · exact cQ
    refine wpRest_act rfl ?_;go_wp2;refine onN_mk ?_;refine wpQ_nil ⟨?_,?_⟩
    · exact cQ
    refine wpRest_act rfl ?_;go_wp2;refine onN_mk ?_;refine wpQ_all _ rfl rfl ?_;simp only [pick,pQ];iterate 1 (go_big_quiet_step (fail))
    refine wpQuiet_nil ⟨?_,?_⟩
    · exact cQ
    refine wpRest_nil ?_;go_wp2;go_meet
    exact⟨_,b,s',H',tai,tad,tci,tcd,ys,g,rfl,rfl,HEND.out.1,HEND.out.2.1,HEND.out.2.2.1,HEND.out.2.2.2.to⟩
 case rest=>
  obtain⟨J,b,s',H',tai,tad,tci,tcd,ys,g,rfl,rfl,hq,hfit,st1,hs2⟩:=hcut;have HRQ:=hQ (HR.out g b s' H' hq);have HFIT:=hQ hfit;have HS2:=hQ hs2;have HST1:=hQ st1;have c1:=hs2.facts;simp only [CellsAt,Nat.reduceAdd,and_true] at c1;clear HV HR hq hfit hs2 st1 HST0 HT2;go_wp2_with fail
  go_cut [11,12] from 73 to 83 (fun t1 t2 wy=> ∃(J2:Nat) (rs':PoolS) (gs':List PageV) (l':List (List Int × List PageV)) (h':Hp) (wai wad:Option Addr) (wci wcd:Nat),t1= .pointer (some ⟨J2,0,none⟩)∧t2= .int .i64 b∧Join s' H' rs' gs' fl l' k∧l'.length+k≤l.length+(k+1)∧
   PageIn h' (pageV g.kind g.level (.slice wai g.items.length wci) (.slice wad g.data.length wcd) g.next) g∧Stays w wy∧
   OwnL [Pr.pts J2 (pageC g.kind g.level (.slice wai g.items.length wci) (.slice wad g.data.length wcd) g.next),Pr.own h',RefH r rs' gs' fl l',Pr.pts J (pageC g.kind g.level (.slice tai g.items.length tci) (.slice tad g.data.length tcd) g.next),PgOwn ⟨.slice tai g.items.length tci,.slice tad g.data.length tcd,ys,g⟩,VaultA v s',Pr.pts I0 (opC11 3 N K pk pl (.slice ai mi ci) (.slice ad md cd) nx),workO wb v r kv tv xv,BRest tv xv bs,WksRow kv ws,Pr.own h,F] wy)
  case first=>
   refine wp_region_forked (sz:=396) (by kernel_rfl) [0,1,2,3,4,5] [(10,[],[0,1,2,3,4,5],[(6,[7,8,9],[0,1,2,4]),(11,[12],[9])]),(6,[7,8,9],[0,1,2,4],[(10,[],[0,1,2,4,7,8,9]),(11,[12],[9])])] rfl (by kernel_rfl) (by kernel_rfl) (by kernel_rfl) ?_;refine wpQ_all _ rfl rfl ?_;simp only [pick,pQ];iterate 6 (go_big_quiet_step (fail))
   refine wpQuiet_nil ?_;intro sx hsx;rcases List.mem_cons.1 hsx with rfl | hsx
   · have hs8:=HS2.out.drew.alloc (pageC 0 0 (.slice none 0 0) (.slice none 0 0) 0)
     have R:=hQ (HRQ.out _ _ (hs8.pull1 (A1:=RefH r rs gs fl l)));have HSTA:=hQ (HST1.out.drew.alloc (pageC 0 0 (.slice none 0 0) (.slice none 0 0) 0));clear hs8;refine wpRest_act rfl ?_;go_wp2;refine onN_mk ?_;refine wpQ_nil ⟨?_,?_⟩
     · exact cQ
     refine wpRest_act rfl ?_;go_wp2_with fail
     refine R.out.mono ?_;rintro e w5 ⟨st5,pv,h',rfl,hpg,rs',gs',l',j',hl',hs9⟩;rw [show wc.drew.heap.size=wc.heap.size by simp] at hs9;obtain⟨_,_,rfl,hi',hd'⟩:=id hpg;obtain⟨wai,wci,rfl,_,_⟩:=items_rd hi';obtain⟨wad,wcd,rfl⟩:=bytes_shape hd';have hs10:=OwnL.of2 hs9;clear c1;have c1:=hs10.facts;simp only [CellsAt,Nat.reduceAdd,and_true] at c1
     have hs11:=((((((hs10).set wc.heap.size 0 (.int .i64 g.kind)).set wc.heap.size 1 (.int .i64 g.level)).set wc.heap.size 2 (.slice wai g.items.length wci)).set wc.heap.size 3 (.slice wad g.data.length wcd)).set wc.heap.size 4 (.int .i64 g.next))
     have HEND:=hQ (And.intro j' (And.intro hl' (And.intro hpg (And.intro ((((((HSTA.out.trans st5).setCell ⟨wc.heap.size,0,none⟩ (.int .i64 g.kind)).setCell ⟨wc.heap.size,1,none⟩ (.int .i64 g.level)).setCell ⟨wc.heap.size,2,none⟩ (.slice wai g.items.length wci)).setCell ⟨wc.heap.size,3,none⟩ (.slice wad g.data.length wcd)).setCell ⟨wc.heap.size,4,none⟩ (.int .i64 g.next)) hs11))))
     clear hs9 hs10 hs11 hi' hd' hpg j' hl' st5 R HSTA;go_wp2;refine onN_mk ?_;refine wpQ_all _ rfl rfl ?_;simp only [pick,pQ];iterate 3 (go_big_quiet_step (fail))
     refine wpQuiet_nil ⟨?_,?_⟩
     · exact cQ
     refine wpRest_act rfl ?_;go_wp2;refine onN_mk ?_;refine wpQ_all _ rfl rfl ?_;simp only [pick,pQ];iterate 1 (go_big_quiet_step (fail))
     refine wpQuiet_nil ⟨?_,?_⟩
     · exact cQ
     refine wpRest_nil ?_;go_wp2;go_meet
     exact⟨_,rs',gs',l',h',wai,wad,wci,wcd,rfl,rfl,HEND.out.1,HEND.out.2.1,HEND.out.2.2.1,HEND.out.2.2.2.1,HEND.out.2.2.2.2.to⟩
   · cases List.mem_singleton.1 hsx
     have R:=hQ (HRQ.out _ _ (HS2.out.drew.pull1 (A1:=RefH r rs gs fl l)));refine wpRest_act rfl ?_;go_wp2_with fail
     refine R.out.mono ?_;rintro e w5 ⟨st5,pv,h',rfl,hpg,rs',gs',l',j',hl',hs9⟩;obtain⟨_,_,rfl,hi',hd'⟩:=id hpg;obtain⟨wai,wci,rfl,_,_⟩:=items_rd hi';obtain⟨wad,wcd,rfl⟩:=bytes_shape hd';have hs10:=OwnL.of2 hs9;clear c1;have c1:=hs10.facts;simp only [CellsAt,Nat.reduceAdd,and_true] at c1
     have hs11:=hs10.alloc (pageC g.kind g.level (.slice wai g.items.length wci) (.slice wad g.data.length wcd) g.next);have HEND:=hQ (And.intro j' (And.intro hl' (And.intro hpg (And.intro ((HST1.out.drew.trans st5).alloc (pageC g.kind g.level (.slice wai g.items.length wci) (.slice wad g.data.length wcd) g.next)) hs11))));clear hs9 hs10 hs11 hi' hd' hpg j' hl' st5 R;go_wp2;refine onN_mk ?_
     refine wpQ_all _ rfl rfl ?_;simp only [pick,pQ];iterate 3 (go_big_quiet_step (fail))
     refine wpQuiet_nil ⟨?_,?_⟩
     · exact cQ
     refine wpRest_act rfl ?_;go_wp2;refine onN_mk ?_;refine wpQ_nil ⟨?_,?_⟩
     · exact cQ
     refine wpRest_act rfl ?_;go_wp2;refine onN_mk ?_;refine wpQ_all _ rfl rfl ?_;simp only [pick,pQ];iterate 1 (go_big_quiet_step (fail))
     refine wpQuiet_nil ⟨?_,?_⟩
     · exact cQ
     refine wpRest_nil ?_;go_wp2;go_meet
     exact⟨_,rs',gs',l',h',wai,wad,wci,wcd,rfl,rfl,HEND.out.1,HEND.out.2.1,HEND.out.2.2.1,HEND.out.2.2.2.1,HEND.out.2.2.2.2.to⟩
  case rest=>
   obtain⟨J2,rs',gs',l',h',wai,wad,wci,wcd,rfl,rfl,j',hl',hpg,st2,hs3⟩:=hcut;have c1:=hs3.facts;simp only [CellsAt,Nat.reduceAdd,and_true] at c1;obtain⟨ll,wl,bk,wk⟩:=HOK.out;obtain⟨hd,hs4⟩:=(hs3.pull2 (A1:=Pr.own h) (A2:=Pr.own h')).own_join;have hs5:=book_close (h:=h.un h') (wb:=wb) (v:=v) (r:=r) (kv:=kv) (tv:=tv) (xv:=xv) (bs:=bs) (bk.sub (Hp.sub_un_left h h')) (OwnL.of1 hs4)
   have KP:=hQ (keep_any wb v r kv ⟨.slice tai g.items.length tci,.slice tad g.data.length tcd,ys,g⟩ HFIT.out (h.un h') (.slice wai g.items.length wci) (.slice wad g.data.length wcd) (hpg.sub (Hp.sub_un_right hd)) _ _ (hs5.pull3 (A1:=BookE wb v r kv (h.un h')) (A2:=PgOwn ⟨.slice tai g.items.length tci,.slice tad g.data.length tcd,ys,g⟩) (A3:=Pr.own (h.un h'))));rw [pv_eq] at KP;dsimp only at KP
   have HJ:=hQ (And.intro j' hl');have HST2:=hQ st2;clear ll wl bk wk hd hs3 hs4 hs5 j' hl' hpg st2 HS2 HST1 HRQ;go_wp2_with fail
   refine KP.out.mono ?_;rintro e w6 ⟨rfl,st6,hs6⟩;obtain⟨tv2,xv2,bs2,bk2,hs7⟩:=book_open (wb:=wb) (v:=v) (r:=r) (kv:=kv) (h:=h.un h') (OwnL.of2 hs6);have HS7:=hQ hs7;have HST6:=hQ (HST2.out.trans st6);have HBK:=hQ bk2;clear hs6 hs7 st6 bk2 KP c1;go_wp2;go_ret;obtain⟨ll,wl,bk,wk⟩:=HOK.out;have hl2:=HJ.out.2
   exact⟨rfl,HST6.out,⟨s',H',rs',gs',fl,l',kv,ws,h.un h',tv2,xv2,bs2⟩,⟨HJ.out.1,by show l'.length+k≤ _;omega,by show ws.length+k≤ _;omega,HBK.out,fun x hx=>(wk x hx).sub (Hp.sub_un_left h h')⟩,HS7.out.to⟩
end Go.Proofs.YtbobcmimkonnoaaGreat.Jz
