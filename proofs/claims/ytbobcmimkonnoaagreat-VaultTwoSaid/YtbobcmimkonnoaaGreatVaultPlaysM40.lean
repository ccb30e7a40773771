/- The law's do, kind by kind; the conditions stand as hypotheses. -/
import Derived.Test.YtbobcmimkonnoaaGreatVaultPlaysM38
import Derived.Test.YtbobcmimkonnoaaGreatVaultPlaysM29
import Derived.Test.YtbobcmimkonnoaaGreatVaultPlaysM15
import Derived.Test.YtbobcmimkonnoaaGreatVaultPlaysM34
import Derived.Test.YtbobcmimkonnoaaGreatVaultPlaysM39
import Derived.Deep.CutRange
import Derived.Test.YtbobcmimkonnoaaGreatVaultPlaysM27
import Derived.Test.YtbobcmimkonnoaaGreatVaultPlaysM01
set_option maxRecDepth 100000
set_option maxHeartbeats 16000000
namespace Go.Proofs.YtbobcmimkonnoaaGreat.Sy
open ChangeShapes WideShapes ChangeAt RowKit Sl Cop D2 K3 N3 G2 M2 U3 Y3 J4 X3 Q8 X5 Y5 E6 F6 W6 Z6 K8 G4 N9 Dy Hy Ey Fy Gy U9 V9 Jy E9 L5 Qy
section
variable {v r:Nat}{s:VaultS}{H:List VaultS}{rs:PoolS}{gs:List PageV}{fl:Int}{l:List (List Int × List PageV)}{k:Nat}
abbrev RT(r:Nat)(f:Nat)(n:Int)(rs:PoolS)(gs:List PageV)(fl:Int)(l:List (List Int × List PageV))(g:PageV)(b:Int)(s':VaultS)(H':List VaultS)(k k0:Nat):Prop:=
 ∀(F:Pr) (w:World),Sat ((RefH r rs gs fl l).star F) w→Calls Tryz.prog f #[.pointer (some ⟨r,0,none⟩),.int .i64 n] w fun e w'=>Stays w w'∧∃pv h',e= .returned (.tuple #[pv,.int .i64 b])∧PageIn h' pv g∧
  ∃rs' gs' l',Join s' H' rs' gs' fl l' k∧l'.length+k≤l.length+k0∧Sat ((Pr.own h').star ((RefH r rs' gs' fl l').star F)) w'
theorem rt_take(j:Join s H rs gs fl l (k+1))(ok:PoolOk s.pool)(hl:l.length≤1048576)(n:Int):∃Q,VStepT v 37 n s Q∧∀g b s' H',Q g b s' H'→RT r 38 n rs gs fl l g b s' H' k (k+1):=by
 obtain⟨Q,h1,h2⟩:=pair_take (v:=v) (r:=r) j ok hl n
 refine⟨Q,h1,fun g b s' H' hq F w hF=>(h2 g b s' H' hq F w hF).mono ?_⟩
 rintro e w' ⟨st,pv,h',he,hp,rs',gs',l',j',hl',hs⟩
 exact⟨st,pv,h',he,hp,rs',gs',l',j',by omega,hs⟩
theorem rt_read(j:Join s H rs gs fl l k)(ok:PoolOk s.pool)(n:Int):∃Q,VStepT v 44 n s Q∧∀g b s' H',Q g b s' H'→RT r 45 n rs gs fl l g b s' H' k k:=by
 obtain⟨G,B,hfit,h1,h2⟩:=pair_read (v:=v) (r:=r) j ok n
 refine⟨fun g b s' H'=>g=G∧b=B∧s'=s∧H'=H,fun F w hF=>(h1 F w hF).mono ?_,fun g b s' H' hq F w hF=> ?_⟩
 · rintro e w' ⟨t,hg,rfl,st,hs⟩
   exact⟨t,B,s,H,⟨hg,rfl,rfl,rfl⟩,by rw [hg];exact hfit,rfl,st,hs⟩
 · obtain⟨rfl,rfl,rfl,rfl⟩:=hq
   refine(h2 F w hF).mono ?_
   rintro e w' ⟨st,pv,h',rfl,hp,hs⟩
   exact⟨st,pv,h',rfl,hp,rs,gs,l,j,Nat.le_refl _,hs⟩
end
theorem do6_any(wb v r k:Nat)(z:LawS)(ok:LOK z k)(kind N K pk pl nx:Int)(ai ad:Option Addr)(mi ci md cd:Nat)(hK: -9223372036854775808≤K∧K≤9223372036854775807)(hkd:kind=6)(F:Pr)(w:World)(hF:OwnL (lawL wb v r z [F]) w):
 Calls Tryz.prog 10 #[.pointer (some ⟨wb,0,none⟩),.agg #[.int .i64 kind,.int .i64 N,.int .i64 K,.int .i64 pk,.int .i64 pl,.slice ai mi ci,.slice ad md cd,.int .i64 nx]] w fun e w'=>e= .returned (.bool true)∧Stays w w'∧DoneH wb v r k F w':=by
 obtain⟨s,H,rs,gs,fl,l,kv,ws,h,tv,xv,bs⟩:=z
 obtain⟨j,ll,wl,bk,wk⟩:=ok
 dsimp only at j ll wl bk wk
 have okp:=(vault_ok (hF.pull1 (A1:=VaultA v s))).1
 have hs1:=hF.alloc (opC11 kind N K pk pl (.slice ai mi ci) (.slice ad md cd) nx)
 have HST:=hQ ((Stays.refl w).alloc (opC11 kind N K pk pl (.slice ai mi ci) (.slice ad md cd) nx))
 have c1:=hs1.facts
 simp only [CellsAt,Nat.reduceAdd,and_true] at c1
 have HOK:=hQ (And.intro ll (And.intro wl (And.intro bk wk)))
 have HK:=hQ hK
 clear hK
 obtain⟨Q,hV,hR⟩:=rt_read (v:=v) (r:=r) j okp N
 have HV:=hQ hV
 have HR:=hQ hR
 subst hkd
 have HS1:=hQ hs1
 clear hF hs1 j ll wl bk wk okp hV hR
 go_enter Tryz.func10,Tryz.ntmps10
 go_wp2_with fail
 have T1:=HST.out
 have T2:=HS1.out
 clear HST HS1
 generalize hw0:w.alloc (opC11 6 N K pk pl (.slice ai mi ci) (.slice ad md cd) nx)=w0 at*
 generalize w.heap.size=I0 at*
 have HST0:=hQ T1
 have HT2:=hQ T2
 clear T1 T2 hw0
 go_cut [15,16] from 130 to 140 (fun t1 t2 wx=> ∃(J:Nat) (b:Int) (s':VaultS) (H':List VaultS) (tai tad:Option Addr) (tci tcd:Nat) (ys:List (Value × Value)) (g:PageV),t1= .pointer (some ⟨J,0,none⟩)∧t2= .int .i64 b∧Q g b s' H'∧Fit g∧Stays w wx∧
  OwnL [Pr.pts J (pageC g.kind g.level (.slice tai g.items.length tci) (.slice tad g.data.length tcd) g.next),PgOwn ⟨.slice tai g.items.length tci,.slice tad g.data.length tcd,ys,g⟩,VaultA v s',RefH r rs gs fl l,Pr.pts I0 (opC11 6 N K pk pl (.slice ai mi ci) (.slice ad md cd) nx),workO wb v r kv tv xv,BRest tv xv bs,WksRow kv ws,Pr.own h,F] wx)
 case first=>
  have c1:=HT2.out.facts
  simp only [CellsAt,Nat.reduceAdd,and_true] at c1
  refine wp_region_forked (sz:=396) (by kernel_rfl) [0,1,2,3,4,5] [(10,[],[0,1,2,3,4,5],[(6,[7,8,9],[0,1,2,4]),(11,[12],[9])]),(6,[7,8,9],[0,1,2,4],[(10,[],[0,1,2,4,7,8,9]),(11,[12],[9])])] rfl (by kernel_rfl) (by kernel_rfl) (by kernel_rfl) ?_
  refine wpQ_all _ rfl rfl ?_
  simp only [pick,pQ]
  iterate 6 (go_big_quiet_step (fail))
  refine wpQuiet_nil ?_
  intro sx hsx
  rcases List.mem_cons.1 hsx with rfl | hsx
  · have hs8:=HT2.out.drew.alloc (pageC 0 0 (.slice none 0 0) (.slice none 0 0) 0)
    have V:=hQ (HV.out _ _ (hs8.pull1 (A1:=VaultA v s)))
    have HSTA:=hQ (HST0.out.drew.alloc (pageC 0 0 (.slice none 0 0) (.slice none 0 0) 0))
    clear hs8
    refine wpRest_act rfl ?_
    go_wp2
    refine onN_mk ?_
    refine wpQ_nil ⟨?_,?_⟩
    · refine chk_all _ rfl rfl ?_
      simp only [pick,Same,pQ,and_true]
      repeat' (first | apply And.intro | (go_big_quiet_step (fail);exact wpQuiet_nil rfl))
    refine wpRest_act rfl ?_
    go_wp2_with fail
    refine V.out.mono ?_
    rintro e w5 ⟨t,b,s',H',hq,hfit,rfl,st5,hs9⟩
    rw [show w0.drew.heap.size=w0.heap.size by simp] at hs9
    obtain⟨vi,vd,ys,g⟩:=t
    dsimp only at hq hfit
    obtain⟨_,h3⟩:=pgOwn_iff.1 hs9
    obtain⟨tai,tci,e1⟩:=Row.shape h3
    obtain⟨tad,tcd,e2⟩:=Row.shape h3.right.right
    dsimp only at e1 e2
    subst e1 e2
    rw [pv_eq]
    dsimp only
    have hs10:=OwnL.of2 hs9
    clear c1
    have c1:=hs10.facts
    simp only [CellsAt,Nat.reduceAdd,and_true] at c1
    have hs11:=((((((hs10).set w0.heap.size 0 (.int .i64 g.kind)).set w0.heap.size 1 (.int .i64 g.level)).set w0.heap.size 2 (.slice tai g.items.length tci)).set w0.heap.size 3 (.slice tad g.data.length tcd)).set w0.heap.size 4 (.int .i64 g.next))
    have HEND:=hQ (And.intro hq (And.intro hfit (And.intro ((((((HSTA.out.trans st5).setCell ⟨w0.heap.size,0,none⟩ (.int .i64 g.kind)).setCell ⟨w0.heap.size,1,none⟩ (.int .i64 g.level)).setCell ⟨w0.heap.size,2,none⟩ (.slice tai g.items.length tci)).setCell ⟨w0.heap.size,3,none⟩ (.slice tad g.data.length tcd)).setCell ⟨w0.heap.size,4,none⟩ (.int .i64 g.next)) hs11)))
    clear hs9 hs10 hs11 h3 hq hfit st5 V HSTA
    go_wp2
    refine onN_mk ?_
    refine wpQ_all _ rfl rfl ?_
    simp only [pick,pQ]
    iterate 3 (go_big_quiet_step (fail))
    refine wpQuiet_nil ⟨?_,?_⟩
    · refine chk_all _ rfl rfl ?_
      simp only [pick,Same,pQ,and_true]
      repeat' (first | apply And.intro | (go_big_quiet_step (fail);exact wpQuiet_nil rfl))
    refine wpRest_act rfl ?_
    go_wp2
    refine onN_mk ?_
    refine wpQ_all _ rfl rfl ?_
    simp only [pick,pQ]
    iterate 1 (go_big_quiet_step (fail))
    refine wpQuiet_nil ⟨?_,?_⟩
    · refine chk_all _ rfl rfl ?_
      simp only [pick,Same,pQ,and_true]
      repeat' (first | apply And.intro | (go_big_quiet_step (fail);exact wpQuiet_nil rfl))
    refine wpRest_nil ?_
    go_wp2
    go_meet
    exact⟨_,b,s',H',tai,tad,tci,tcd,ys,g,rfl,rfl,HEND.out.1,HEND.out.2.1,HEND.out.2.2.1,HEND.out.2.2.2.to⟩
  · cases List.mem_singleton.1 hsx
    have V:=hQ (HV.out _ _ (HT2.out.drew.pull1 (A1:=VaultA v s)))
    refine wpRest_act rfl ?_
    go_wp2_with fail
    refine V.out.mono ?_
    rintro e w5 ⟨t,b,s',H',hq,hfit,rfl,st5,hs9⟩
    obtain⟨vi,vd,ys,g⟩:=t
    dsimp only at hq hfit
    obtain⟨_,h3⟩:=pgOwn_iff.1 hs9
    obtain⟨tai,tci,e1⟩:=Row.shape h3
    obtain⟨tad,tcd,e2⟩:=Row.shape h3.right.right
    dsimp only at e1 e2
    subst e1 e2
    rw [pv_eq]
    dsimp only
    have hs10:=OwnL.of2 hs9
    clear c1
    have c1:=hs10.facts
    simp only [CellsAt,Nat.reduceAdd,and_true] at c1
    have hs11:=hs10.alloc (pageC g.kind g.level (.slice tai g.items.length tci) (.slice tad g.data.length tcd) g.next)
    have HEND:=hQ (And.intro hq (And.intro hfit (And.intro ((HST0.out.drew.trans st5).alloc (pageC g.kind g.level (.slice tai g.items.length tci) (.slice tad g.data.length tcd) g.next)) hs11)))
    clear hs9 hs10 hs11 h3 hq hfit st5 V
    go_wp2
    refine onN_mk ?_
    refine wpQ_all _ rfl rfl ?_
    simp only [pick,pQ]
    iterate 3 (go_big_quiet_step (fail))
    refine wpQuiet_nil ⟨?_,?_⟩
    · refine chk_all _ rfl rfl ?_
      simp only [pick,Same,pQ,and_true]
      repeat' (first | apply And.intro | (go_big_quiet_step (fail);exact wpQuiet_nil rfl))
    refine wpRest_act rfl ?_
    go_wp2
    refine onN_mk ?_
    refine wpQ_nil ⟨?_,?_⟩
    · refine chk_all _ rfl rfl ?_
      simp only [pick,Same,pQ,and_true]
      repeat' (first | apply And.intro | (go_big_quiet_step (fail);exact wpQuiet_nil rfl))
    refine wpRest_act rfl ?_
    go_wp2
    refine onN_mk ?_
    refine wpQ_all _ rfl rfl ?_
    simp only [pick,pQ]
    iterate 1 (go_big_quiet_step (fail))
    refine wpQuiet_nil ⟨?_,?_⟩
    · refine chk_all _ rfl rfl ?_
      simp only [pick,Same,pQ,and_true]
      repeat' (first | apply And.intro | (go_big_quiet_step (fail);exact wpQuiet_nil rfl))
    refine wpRest_nil ?_
    go_wp2
    go_meet
    exact⟨_,b,s',H',tai,tad,tci,tcd,ys,g,rfl,rfl,HEND.out.1,HEND.out.2.1,HEND.out.2.2.1,HEND.out.2.2.2.to⟩
 case rest=>
  obtain⟨J,b,s',H',tai,tad,tci,tcd,ys,g,rfl,rfl,hq,hfit,st1,hs2⟩:=hcut
  have HRQ:=hQ (HR.out g b s' H' hq)
  have HFIT:=hQ hfit
  have HS2:=hQ hs2
  have HST1:=hQ st1
  have c1:=hs2.facts
  simp only [CellsAt,Nat.reduceAdd,and_true] at c1
  clear HV HR hq hfit hs2 st1 HST0 HT2
  go_wp2_with fail
  go_cut [17,18] from 140 to 150 (fun t1 t2 wy=> ∃(J2:Nat) (rs':PoolS) (gs':List PageV) (l':List (List Int × List PageV)) (h':Hp) (wai wad:Option Addr) (wci wcd:Nat),t1= .pointer (some ⟨J2,0,none⟩)∧t2= .int .i64 b∧Join s' H' rs' gs' fl l' k∧l'.length+k≤l.length+k∧
   PageIn h' (pageV g.kind g.level (.slice wai g.items.length wci) (.slice wad g.data.length wcd) g.next) g∧Stays w wy∧
   OwnL [Pr.pts J2 (pageC g.kind g.level (.slice wai g.items.length wci) (.slice wad g.data.length wcd) g.next),Pr.own h',RefH r rs' gs' fl l',Pr.pts J (pageC g.kind g.level (.slice tai g.items.length tci) (.slice tad g.data.length tcd) g.next),PgOwn ⟨.slice tai g.items.length tci,.slice tad g.data.length tcd,ys,g⟩,VaultA v s',Pr.pts I0 (opC11 6 N K pk pl (.slice ai mi ci) (.slice ad md cd) nx),workO wb v r kv tv xv,BRest tv xv bs,WksRow kv ws,Pr.own h,F] wy)
  case first=>
   refine wp_region_forked (sz:=396) (by kernel_rfl) [0,1,2,3,4,5] [(10,[],[0,1,2,3,4,5],[(6,[7,8,9],[0,1,2,4]),(11,[12],[9])]),(6,[7,8,9],[0,1,2,4],[(10,[],[0,1,2,4,7,8,9]),(11,[12],[9])])] rfl (by kernel_rfl) (by kernel_rfl) (by kernel_rfl) ?_
   refine wpQ_all _ rfl rfl ?_
   simp only [pick,pQ]
   iterate 6 (go_big_quiet_step (fail))
   refine wpQuiet_nil ?_
   intro sx hsx
   rcases List.mem_cons.1 hsx with rfl | hsx
   · have hs8:=HS2.out.drew.alloc (pageC 0 0 (.slice none 0 0) (.slice none 0 0) 0)
     have R:=hQ (HRQ.out _ _ (hs8.pull1 (A1:=RefH r rs gs fl l)))
     have HSTA:=hQ (HST1.out.drew.alloc (pageC 0 0 (.slice none 0 0) (.slice none 0 0) 0))
     clear hs8
     refine wpRest_act rfl ?_
     go_wp2
     refine onN_mk ?_
     refine wpQ_nil ⟨?_,?_⟩
     · refine chk_all _ rfl rfl ?_
       simp only [pick,Same,pQ,and_true]
       repeat' (first | apply And.intro | (go_big_quiet_step (fail);exact wpQuiet_nil rfl))
     refine wpRest_act rfl ?_
     go_wp2_with fail
     refine R.out.mono ?_
     rintro e w5 ⟨st5,pv,h',rfl,hpg,rs',gs',l',j',hl',hs9⟩
     rw [show wc.drew.heap.size=wc.heap.size by simp] at hs9
     obtain⟨_,_,rfl,hi',hd'⟩:=id hpg
     obtain⟨wai,wci,rfl,_,_⟩:=items_rd hi'
     obtain⟨wad,wcd,rfl⟩:=bytes_shape hd'
     have hs10:=OwnL.of2 hs9
     clear c1
     have c1:=hs10.facts
     simp only [CellsAt,Nat.reduceAdd,and_true] at c1
     have hs11:=((((((hs10).set wc.heap.size 0 (.int .i64 g.kind)).set wc.heap.size 1 (.int .i64 g.level)).set wc.heap.size 2 (.slice wai g.items.length wci)).set wc.heap.size 3 (.slice wad g.data.length wcd)).set wc.heap.size 4 (.int .i64 g.next))
     have HEND:=hQ (And.intro j' (And.intro hl' (And.intro hpg (And.intro ((((((HSTA.out.trans st5).setCell ⟨wc.heap.size,0,none⟩ (.int .i64 g.kind)).setCell ⟨wc.heap.size,1,none⟩ (.int .i64 g.level)).setCell ⟨wc.heap.size,2,none⟩ (.slice wai g.items.length wci)).setCell ⟨wc.heap.size,3,none⟩ (.slice wad g.data.length wcd)).setCell ⟨wc.heap.size,4,none⟩ (.int .i64 g.next)) hs11))))
     clear hs9 hs10 hs11 hi' hd' hpg j' hl' st5 R HSTA
     go_wp2
     refine onN_mk ?_
     refine wpQ_all _ rfl rfl ?_
     simp only [pick,pQ]
     iterate 3 (go_big_quiet_step (fail))
     refine wpQuiet_nil ⟨?_,?_⟩
     · refine chk_all _ rfl rfl ?_
       simp only [pick,Same,pQ,and_true]
       repeat' (first | apply And.intro | (go_big_quiet_step (fail);exact wpQuiet_nil rfl))
     refine wpRest_act rfl ?_
     go_wp2
     refine onN_mk ?_
     refine wpQ_all _ rfl rfl ?_
     simp only [pick,pQ]
     iterate 1 (go_big_quiet_step (fail))
     refine wpQuiet_nil ⟨?_,?_⟩
     · refine chk_all _ rfl rfl ?_
       simp only [pick,Same,pQ,and_true]
       repeat' (first | apply And.intro | (go_big_quiet_step (fail);exact wpQuiet_nil rfl))
     refine wpRest_nil ?_
     go_wp2
     go_meet
     exact⟨_,rs',gs',l',h',wai,wad,wci,wcd,rfl,rfl,HEND.out.1,HEND.out.2.1,HEND.out.2.2.1,HEND.out.2.2.2.1,HEND.out.2.2.2.2.to⟩
   · cases List.mem_singleton.1 hsx
     have R:=hQ (HRQ.out _ _ (HS2.out.drew.pull1 (A1:=RefH r rs gs fl l)))
     refine wpRest_act rfl ?_
     go_wp2_with fail
     refine R.out.mono ?_
     rintro e w5 ⟨st5,pv,h',rfl,hpg,rs',gs',l',j',hl',hs9⟩
     obtain⟨_,_,rfl,hi',hd'⟩:=id hpg
     obtain⟨wai,wci,rfl,_,_⟩:=items_rd hi'
     obtain⟨wad,wcd,rfl⟩:=bytes_shape hd'
     have hs10:=OwnL.of2 hs9
     clear c1
     have c1:=hs10.facts
     simp only [CellsAt,Nat.reduceAdd,and_true] at c1
     have hs11:=hs10.alloc (pageC g.kind g.level (.slice wai g.items.length wci) (.slice wad g.data.length wcd) g.next)
     have HEND:=hQ (And.intro j' (And.intro hl' (And.intro hpg (And.intro ((HST1.out.drew.trans st5).alloc (pageC g.kind g.level (.slice wai g.items.length wci) (.slice wad g.data.length wcd) g.next)) hs11))))
     clear hs9 hs10 hs11 hi' hd' hpg j' hl' st5 R
     go_wp2
     refine onN_mk ?_
     refine wpQ_all _ rfl rfl ?_
     simp only [pick,pQ]
     iterate 3 (go_big_quiet_step (fail))
     refine wpQuiet_nil ⟨?_,?_⟩
     · refine chk_all _ rfl rfl ?_
       simp only [pick,Same,pQ,and_true]
       repeat' (first | apply And.intro | (go_big_quiet_step (fail);exact wpQuiet_nil rfl))
     refine wpRest_act rfl ?_
     go_wp2
     refine onN_mk ?_
     refine wpQ_nil ⟨?_,?_⟩
     · refine chk_all _ rfl rfl ?_
       simp only [pick,Same,pQ,and_true]
       repeat' (first | apply And.intro | (go_big_quiet_step (fail);exact wpQuiet_nil rfl))
     refine wpRest_act rfl ?_
     go_wp2
     refine onN_mk ?_
     refine wpQ_all _ rfl rfl ?_
     simp only [pick,pQ]
     iterate 1 (go_big_quiet_step (fail))
     refine wpQuiet_nil ⟨?_,?_⟩
     · refine chk_all _ rfl rfl ?_
       simp only [pick,Same,pQ,and_true]
       repeat' (first | apply And.intro | (go_big_quiet_step (fail);exact wpQuiet_nil rfl))
     refine wpRest_nil ?_
     go_wp2
     go_meet
     exact⟨_,rs',gs',l',h',wai,wad,wci,wcd,rfl,rfl,HEND.out.1,HEND.out.2.1,HEND.out.2.2.1,HEND.out.2.2.2.1,HEND.out.2.2.2.2.to⟩
  case rest=>
   obtain⟨J2,rs',gs',l',h',wai,wad,wci,wcd,rfl,rfl,j',hl',hpg,st2,hs3⟩:=hcut
   have c1:=hs3.facts
   simp only [CellsAt,Nat.reduceAdd,and_true] at c1
   obtain⟨ll,wl,bk,wk⟩:=HOK.out
   obtain⟨hd,hs4⟩:=(hs3.pull2 (A1:=Pr.own h) (A2:=Pr.own h')).own_join
   have hs5:=book_close (h:=h.un h') (wb:=wb) (v:=v) (r:=r) (kv:=kv) (tv:=tv) (xv:=xv) (bs:=bs) (bk.sub (Hp.sub_un_left h h')) (OwnL.of1 hs4)
   have KP:=hQ (keep_any wb v r kv ⟨.slice tai g.items.length tci,.slice tad g.data.length tcd,ys,g⟩ HFIT.out (h.un h') (.slice wai g.items.length wci) (.slice wad g.data.length wcd) (hpg.sub (Hp.sub_un_right hd)) _ _ (hs5.pull3 (A1:=BookE wb v r kv (h.un h')) (A2:=PgOwn ⟨.slice tai g.items.length tci,.slice tad g.data.length tcd,ys,g⟩) (A3:=Pr.own (h.un h'))))
   rw [pv_eq] at KP
   dsimp only at KP
   have HJ:=hQ (And.intro j' hl')
   have HST2:=hQ st2
   clear ll wl bk wk hd hs3 hs4 hs5 j' hl' hpg st2 HS2 HST1 HRQ
   go_wp2_with fail
   refine KP.out.mono ?_
   rintro e w6 ⟨rfl,st6,hs6⟩
   obtain⟨tv2,xv2,bs2,bk2,hs7⟩:=book_open (wb:=wb) (v:=v) (r:=r) (kv:=kv) (h:=h.un h') (OwnL.of2 hs6)
   have HS7:=hQ hs7
   have HST6:=hQ (HST2.out.trans st6)
   have HBK:=hQ bk2
   clear hs6 hs7 st6 bk2 KP c1
   go_wp2
   go_ret
   obtain⟨ll,wl,bk,wk⟩:=HOK.out
   have hl2:=HJ.out.2
   exact⟨rfl,HST6.out,⟨s',H',rs',gs',fl,l',kv,ws,h.un h',tv2,xv2,bs2⟩,⟨HJ.out.1,by show l'.length+k≤ _;omega,by show ws.length+k≤ _;omega,HBK.out,fun x hx=>(wk x hx).sub (Hp.sub_un_left h h')⟩,HS7.out.to⟩
end Go.Proofs.YtbobcmimkonnoaaGreat.Sy
namespace Go.Proofs.YtbobcmimkonnoaaGreat.Ty
open ChangeShapes WideShapes ChangeAt RowKit Sl Cop D2 K3 N3 G2 M2 U3 Y3 J4 X3 Q8 X5 Y5 E6 F6 W6 Z6 K8 G4 N9 Dy Hy Ey Fy Gy U9 V9 Jy E9 L5 Qy Sy
theorem do3_any(wb v r k:Nat)(z:LawS)(ok:LOK z (k+1))(kind N K pk pl nx:Int)(ai ad:Option Addr)(mi ci md cd:Nat)(hK: -9223372036854775808≤K∧K≤9223372036854775807)(hkd:kind=3)(F:Pr)(w:World)(hF:OwnL (lawL wb v r z [F]) w):
 Calls Tryz.prog 10 #[.pointer (some ⟨wb,0,none⟩),.agg #[.int .i64 kind,.int .i64 N,.int .i64 K,.int .i64 pk,.int .i64 pl,.slice ai mi ci,.slice ad md cd,.int .i64 nx]] w fun e w'=>e= .returned (.bool true)∧Stays w w'∧DoneH wb v r k F w':=by
 obtain⟨s,H,rs,gs,fl,l,kv,ws,h,tv,xv,bs⟩:=z
 obtain⟨j,ll,wl,bk,wk⟩:=ok
 dsimp only at j ll wl bk wk
 have okp:=(vault_ok (hF.pull1 (A1:=VaultA v s))).1
 have hs1:=hF.alloc (opC11 kind N K pk pl (.slice ai mi ci) (.slice ad md cd) nx)
 have HST:=hQ ((Stays.refl w).alloc (opC11 kind N K pk pl (.slice ai mi ci) (.slice ad md cd) nx))
 have c1:=hs1.facts
 simp only [CellsAt,Nat.reduceAdd,and_true] at c1
 have HOK:=hQ (And.intro ll (And.intro wl (And.intro bk wk)))
 have HK:=hQ hK
 clear hK
 obtain⟨Q,hV,hR⟩:=rt_take (v:=v) (r:=r) j okp (by omega) N
 have HV:=hQ hV
 have HR:=hQ hR
 subst hkd
 have HS1:=hQ hs1
 clear hF hs1 j ll wl bk wk okp hV hR
 go_enter Tryz.func10,Tryz.ntmps10
 go_wp2_with fail
 have T1:=HST.out
 have T2:=HS1.out
 clear HST HS1
 generalize hw0:w.alloc (opC11 3 N K pk pl (.slice ai mi ci) (.slice ad md cd) nx)=w0 at*
 generalize w.heap.size=I0 at*
 have HST0:=hQ T1
 have HT2:=hQ T2
 clear T1 T2 hw0
 go_cut [9,10] from 63 to 73 (fun t1 t2 wx=> ∃(J:Nat) (b:Int) (s':VaultS) (H':List VaultS) (tai tad:Option Addr) (tci tcd:Nat) (ys:List (Value × Value)) (g:PageV),t1= .pointer (some ⟨J,0,none⟩)∧t2= .int .i64 b∧Q g b s' H'∧Fit g∧Stays w wx∧
  OwnL [Pr.pts J (pageC g.kind g.level (.slice tai g.items.length tci) (.slice tad g.data.length tcd) g.next),PgOwn ⟨.slice tai g.items.length tci,.slice tad g.data.length tcd,ys,g⟩,VaultA v s',RefH r rs gs fl l,Pr.pts I0 (opC11 3 N K pk pl (.slice ai mi ci) (.slice ad md cd) nx),workO wb v r kv tv xv,BRest tv xv bs,WksRow kv ws,Pr.own h,F] wx)
 case first=>
  have c1:=HT2.out.facts
  simp only [CellsAt,Nat.reduceAdd,and_true] at c1
  refine wp_region_forked (sz:=396) (by kernel_rfl) [0,1,2,3,4,5] [(10,[],[0,1,2,3,4,5],[(6,[7,8,9],[0,1,2,4]),(11,[12],[9])]),(6,[7,8,9],[0,1,2,4],[(10,[],[0,1,2,4,7,8,9]),(11,[12],[9])])] rfl (by kernel_rfl) (by kernel_rfl) (by kernel_rfl) ?_
  refine wpQ_all _ rfl rfl ?_
  simp only [pick,pQ]
  iterate 6 (go_big_quiet_step (fail))
  refine wpQuiet_nil ?_
  intro sx hsx
  rcases List.mem_cons.1 hsx with rfl | hsx
  · have hs8:=HT2.out.drew.alloc (pageC 0 0 (.slice none 0 0) (.slice none 0 0) 0)
    have V:=hQ (HV.out _ _ (hs8.pull1 (A1:=VaultA v s)))
    have HSTA:=hQ (HST0.out.drew.alloc (pageC 0 0 (.slice none 0 0) (.slice none 0 0) 0))
    clear hs8
    refine wpRest_act rfl ?_
    go_wp2
    refine onN_mk ?_
    refine wpQ_nil ⟨?_,?_⟩
    · refine chk_all _ rfl rfl ?_
      simp only [pick,Same,pQ,and_true]
      repeat' (first | apply And.intro | (go_big_quiet_step (fail);exact wpQuiet_nil rfl))
    refine wpRest_act rfl ?_
    go_wp2_with fail
    refine V.out.mono ?_
    rintro e w5 ⟨t,b,s',H',hq,hfit,rfl,st5,hs9⟩
    rw [show w0.drew.heap.size=w0.heap.size by simp] at hs9
    obtain⟨vi,vd,ys,g⟩:=t
    dsimp only at hq hfit
    obtain⟨_,h3⟩:=pgOwn_iff.1 hs9
    obtain⟨tai,tci,e1⟩:=Row.shape h3
    obtain⟨tad,tcd,e2⟩:=Row.shape h3.right.right
    dsimp only at e1 e2
    subst e1 e2
    rw [pv_eq]
    dsimp only
    have hs10:=OwnL.of2 hs9
    clear c1
    have c1:=hs10.facts
    simp only [CellsAt,Nat.reduceAdd,and_true] at c1
    have hs11:=((((((hs10).set w0.heap.size 0 (.int .i64 g.kind)).set w0.heap.size 1 (.int .i64 g.level)).set w0.heap.size 2 (.slice tai g.items.length tci)).set w0.heap.size 3 (.slice tad g.data.length tcd)).set w0.heap.size 4 (.int .i64 g.next))
    have HEND:=hQ (And.intro hq (And.intro hfit (And.intro ((((((HSTA.out.trans st5).setCell ⟨w0.heap.size,0,none⟩ (.int .i64 g.kind)).setCell ⟨w0.heap.size,1,none⟩ (.int .i64 g.level)).setCell ⟨w0.heap.size,2,none⟩ (.slice tai g.items.length tci)).setCell ⟨w0.heap.size,3,none⟩ (.slice tad g.data.length tcd)).setCell ⟨w0.heap.size,4,none⟩ (.int .i64 g.next)) hs11)))
    clear hs9 hs10 hs11 h3 hq hfit st5 V HSTA
    go_wp2
    refine onN_mk ?_
    refine wpQ_all _ rfl rfl ?_
    simp only [pick,pQ]
    iterate 3 (go_big_quiet_step (fail))
    refine wpQuiet_nil ⟨?_,?_⟩
    · refine chk_all _ rfl rfl ?_
      simp only [pick,Same,pQ,and_true]
      repeat' (first | apply And.intro | (go_big_quiet_step (fail);exact wpQuiet_nil rfl))
    refine wpRest_act rfl ?_
    go_wp2
    refine onN_mk ?_
    refine wpQ_all _ rfl rfl ?_
    simp only [pick,pQ]
    iterate 1 (go_big_quiet_step (fail))
    refine wpQuiet_nil ⟨?_,?_⟩
    · refine chk_all _ rfl rfl ?_
      simp only [pick,Same,pQ,and_true]
      repeat' (first | apply And.intro | (go_big_quiet_step (fail);exact wpQuiet_nil rfl))
    refine wpRest_nil ?_
    go_wp2
    go_meet
    exact⟨_,b,s',H',tai,tad,tci,tcd,ys,g,rfl,rfl,HEND.out.1,HEND.out.2.1,HEND.out.2.2.1,HEND.out.2.2.2.to⟩
  · cases List.mem_singleton.1 hsx
    have V:=hQ (HV.out _ _ (HT2.out.drew.pull1 (A1:=VaultA v s)))
    refine wpRest_act rfl ?_
    go_wp2_with fail
    refine V.out.mono ?_
    rintro e w5 ⟨t,b,s',H',hq,hfit,rfl,st5,hs9⟩
    obtain⟨vi,vd,ys,g⟩:=t
    dsimp only at hq hfit
    obtain⟨_,h3⟩:=pgOwn_iff.1 hs9
    obtain⟨tai,tci,e1⟩:=Row.shape h3
    obtain⟨tad,tcd,e2⟩:=Row.shape h3.right.right
    dsimp only at e1 e2
    subst e1 e2
    rw [pv_eq]
    dsimp only
    have hs10:=OwnL.of2 hs9
    clear c1
    have c1:=hs10.facts
    simp only [CellsAt,Nat.reduceAdd,and_true] at c1
    have hs11:=hs10.alloc (pageC g.kind g.level (.slice tai g.items.length tci) (.slice tad g.data.length tcd) g.next)
    have HEND:=hQ (And.intro hq (And.intro hfit (And.intro ((HST0.out.drew.trans st5).alloc (pageC g.kind g.level (.slice tai g.items.length tci) (.slice tad g.data.length tcd) g.next)) hs11)))
    clear hs9 hs10 hs11 h3 hq hfit st5 V
    go_wp2
    refine onN_mk ?_
    refine wpQ_all _ rfl rfl ?_
    simp only [pick,pQ]
    iterate 3 (go_big_quiet_step (fail))
    refine wpQuiet_nil ⟨?_,?_⟩
    · refine chk_all _ rfl rfl ?_
      simp only [pick,Same,pQ,and_true]
      repeat' (first | apply And.intro | (go_big_quiet_step (fail);exact wpQuiet_nil rfl))
    refine wpRest_act rfl ?_
    go_wp2
    refine onN_mk ?_
    refine wpQ_nil ⟨?_,?_⟩
    · refine chk_all _ rfl rfl ?_
      simp only [pick,Same,pQ,and_true]
      repeat' (first | apply And.intro | (go_big_quiet_step (fail);exact wpQuiet_nil rfl))
    refine wpRest_act rfl ?_
    go_wp2
    refine onN_mk ?_
    refine wpQ_all _ rfl rfl ?_
    simp only [pick,pQ]
    iterate 1 (go_big_quiet_step (fail))
    refine wpQuiet_nil ⟨?_,?_⟩
    · refine chk_all _ rfl rfl ?_
      simp only [pick,Same,pQ,and_true]
      repeat' (first | apply And.intro | (go_big_quiet_step (fail);exact wpQuiet_nil rfl))
    refine wpRest_nil ?_
    go_wp2
    go_meet
    exact⟨_,b,s',H',tai,tad,tci,tcd,ys,g,rfl,rfl,HEND.out.1,HEND.out.2.1,HEND.out.2.2.1,HEND.out.2.2.2.to⟩
 case rest=>
  obtain⟨J,b,s',H',tai,tad,tci,tcd,ys,g,rfl,rfl,hq,hfit,st1,hs2⟩:=hcut
  have HRQ:=hQ (HR.out g b s' H' hq)
  have HFIT:=hQ hfit
  have HS2:=hQ hs2
  have HST1:=hQ st1
  have c1:=hs2.facts
  simp only [CellsAt,Nat.reduceAdd,and_true] at c1
  clear HV HR hq hfit hs2 st1 HST0 HT2
  go_wp2_with fail
  go_cut [11,12] from 73 to 83 (fun t1 t2 wy=> ∃(J2:Nat) (rs':PoolS) (gs':List PageV) (l':List (List Int × List PageV)) (h':Hp) (wai wad:Option Addr) (wci wcd:Nat),t1= .pointer (some ⟨J2,0,none⟩)∧t2= .int .i64 b∧Join s' H' rs' gs' fl l' k∧l'.length+k≤l.length+(k+1)∧
   PageIn h' (pageV g.kind g.level (.slice wai g.items.length wci) (.slice wad g.data.length wcd) g.next) g∧Stays w wy∧
   OwnL [Pr.pts J2 (pageC g.kind g.level (.slice wai g.items.length wci) (.slice wad g.data.length wcd) g.next),Pr.own h',RefH r rs' gs' fl l',Pr.pts J (pageC g.kind g.level (.slice tai g.items.length tci) (.slice tad g.data.length tcd) g.next),PgOwn ⟨.slice tai g.items.length tci,.slice tad g.data.length tcd,ys,g⟩,VaultA v s',Pr.pts I0 (opC11 3 N K pk pl (.slice ai mi ci) (.slice ad md cd) nx),workO wb v r kv tv xv,BRest tv xv bs,WksRow kv ws,Pr.own h,F] wy)
  case first=>
   refine wp_region_forked (sz:=396) (by kernel_rfl) [0,1,2,3,4,5] [(10,[],[0,1,2,3,4,5],[(6,[7,8,9],[0,1,2,4]),(11,[12],[9])]),(6,[7,8,9],[0,1,2,4],[(10,[],[0,1,2,4,7,8,9]),(11,[12],[9])])] rfl (by kernel_rfl) (by kernel_rfl) (by kernel_rfl) ?_
   refine wpQ_all _ rfl rfl ?_
   simp only [pick,pQ]
   iterate 6 (go_big_quiet_step (fail))
   refine wpQuiet_nil ?_
   intro sx hsx
   rcases List.mem_cons.1 hsx with rfl | hsx
   · have hs8:=HS2.out.drew.alloc (pageC 0 0 (.slice none 0 0) (.slice none 0 0) 0)
     have R:=hQ (HRQ.out _ _ (hs8.pull1 (A1:=RefH r rs gs fl l)))
     have HSTA:=hQ (HST1.out.drew.alloc (pageC 0 0 (.slice none 0 0) (.slice none 0 0) 0))
     clear hs8
     refine wpRest_act rfl ?_
     go_wp2
     refine onN_mk ?_
     refine wpQ_nil ⟨?_,?_⟩
     · refine chk_all _ rfl rfl ?_
       simp only [pick,Same,pQ,and_true]
       repeat' (first | apply And.intro | (go_big_quiet_step (fail);exact wpQuiet_nil rfl))
     refine wpRest_act rfl ?_
     go_wp2_with fail
     refine R.out.mono ?_
     rintro e w5 ⟨st5,pv,h',rfl,hpg,rs',gs',l',j',hl',hs9⟩
     rw [show wc.drew.heap.size=wc.heap.size by simp] at hs9
     obtain⟨_,_,rfl,hi',hd'⟩:=id hpg
     obtain⟨wai,wci,rfl,_,_⟩:=items_rd hi'
     obtain⟨wad,wcd,rfl⟩:=bytes_shape hd'
     have hs10:=OwnL.of2 hs9
     clear c1
     have c1:=hs10.facts
     simp only [CellsAt,Nat.reduceAdd,and_true] at c1
     have hs11:=((((((hs10).set wc.heap.size 0 (.int .i64 g.kind)).set wc.heap.size 1 (.int .i64 g.level)).set wc.heap.size 2 (.slice wai g.items.length wci)).set wc.heap.size 3 (.slice wad g.data.length wcd)).set wc.heap.size 4 (.int .i64 g.next))
     have HEND:=hQ (And.intro j' (And.intro hl' (And.intro hpg (And.intro ((((((HSTA.out.trans st5).setCell ⟨wc.heap.size,0,none⟩ (.int .i64 g.kind)).setCell ⟨wc.heap.size,1,none⟩ (.int .i64 g.level)).setCell ⟨wc.heap.size,2,none⟩ (.slice wai g.items.length wci)).setCell ⟨wc.heap.size,3,none⟩ (.slice wad g.data.length wcd)).setCell ⟨wc.heap.size,4,none⟩ (.int .i64 g.next)) hs11))))
     clear hs9 hs10 hs11 hi' hd' hpg j' hl' st5 R HSTA
     go_wp2
     refine onN_mk ?_
     refine wpQ_all _ rfl rfl ?_
     simp only [pick,pQ]
     iterate 3 (go_big_quiet_step (fail))
     refine wpQuiet_nil ⟨?_,?_⟩
     · refine chk_all _ rfl rfl ?_
       simp only [pick,Same,pQ,and_true]
       repeat' (first | apply And.intro | (go_big_quiet_step (fail);exact wpQuiet_nil rfl))
     refine wpRest_act rfl ?_
     go_wp2
     refine onN_mk ?_
     refine wpQ_all _ rfl rfl ?_
     simp only [pick,pQ]
     iterate 1 (go_big_quiet_step (fail))
     refine wpQuiet_nil ⟨?_,?_⟩
     · refine chk_all _ rfl rfl ?_
       simp only [pick,Same,pQ,and_true]
       repeat' (first | apply And.intro | (go_big_quiet_step (fail);exact wpQuiet_nil rfl))
     refine wpRest_nil ?_
     go_wp2
     go_meet
     exact⟨_,rs',gs',l',h',wai,wad,wci,wcd,rfl,rfl,HEND.out.1,HEND.out.2.1,HEND.out.2.2.1,HEND.out.2.2.2.1,HEND.out.2.2.2.2.to⟩
   · cases List.mem_singleton.1 hsx
     have R:=hQ (HRQ.out _ _ (HS2.out.drew.pull1 (A1:=RefH r rs gs fl l)))
     refine wpRest_act rfl ?_
     go_wp2_with fail
     refine R.out.mono ?_
     rintro e w5 ⟨st5,pv,h',rfl,hpg,rs',gs',l',j',hl',hs9⟩
     obtain⟨_,_,rfl,hi',hd'⟩:=id hpg
     obtain⟨wai,wci,rfl,_,_⟩:=items_rd hi'
     obtain⟨wad,wcd,rfl⟩:=bytes_shape hd'
     have hs10:=OwnL.of2 hs9
     clear c1
     have c1:=hs10.facts
     simp only [CellsAt,Nat.reduceAdd,and_true] at c1
     have hs11:=hs10.alloc (pageC g.kind g.level (.slice wai g.items.length wci) (.slice wad g.data.length wcd) g.next)
     have HEND:=hQ (And.intro j' (And.intro hl' (And.intro hpg (And.intro ((HST1.out.drew.trans st5).alloc (pageC g.kind g.level (.slice wai g.items.length wci) (.slice wad g.data.length wcd) g.next)) hs11))))
     clear hs9 hs10 hs11 hi' hd' hpg j' hl' st5 R
     go_wp2
     refine onN_mk ?_
     refine wpQ_all _ rfl rfl ?_
     simp only [pick,pQ]
     iterate 3 (go_big_quiet_step (fail))
     refine wpQuiet_nil ⟨?_,?_⟩
     · refine chk_all _ rfl rfl ?_
       simp only [pick,Same,pQ,and_true]
       repeat' (first | apply And.intro | (go_big_quiet_step (fail);exact wpQuiet_nil rfl))
     refine wpRest_act rfl ?_
     go_wp2
     refine onN_mk ?_
     refine wpQ_nil ⟨?_,?_⟩
     · refine chk_all _ rfl rfl ?_
       simp only [pick,Same,pQ,and_true]
       repeat' (first | apply And.intro | (go_big_quiet_step (fail);exact wpQuiet_nil rfl))
     refine wpRest_act rfl ?_
     go_wp2
     refine onN_mk ?_
     refine wpQ_all _ rfl rfl ?_
     simp only [pick,pQ]
     iterate 1 (go_big_quiet_step (fail))
     refine wpQuiet_nil ⟨?_,?_⟩
     · refine chk_all _ rfl rfl ?_
       simp only [pick,Same,pQ,and_true]
       repeat' (first | apply And.intro | (go_big_quiet_step (fail);exact wpQuiet_nil rfl))
     refine wpRest_nil ?_
     go_wp2
     go_meet
     exact⟨_,rs',gs',l',h',wai,wad,wci,wcd,rfl,rfl,HEND.out.1,HEND.out.2.1,HEND.out.2.2.1,HEND.out.2.2.2.1,HEND.out.2.2.2.2.to⟩
  case rest=>
   obtain⟨J2,rs',gs',l',h',wai,wad,wci,wcd,rfl,rfl,j',hl',hpg,st2,hs3⟩:=hcut
   have c1:=hs3.facts
   simp only [CellsAt,Nat.reduceAdd,and_true] at c1
   obtain⟨ll,wl,bk,wk⟩:=HOK.out
   obtain⟨hd,hs4⟩:=(hs3.pull2 (A1:=Pr.own h) (A2:=Pr.own h')).own_join
   have hs5:=book_close (h:=h.un h') (wb:=wb) (v:=v) (r:=r) (kv:=kv) (tv:=tv) (xv:=xv) (bs:=bs) (bk.sub (Hp.sub_un_left h h')) (OwnL.of1 hs4)
   have KP:=hQ (keep_any wb v r kv ⟨.slice tai g.items.length tci,.slice tad g.data.length tcd,ys,g⟩ HFIT.out (h.un h') (.slice wai g.items.length wci) (.slice wad g.data.length wcd) (hpg.sub (Hp.sub_un_right hd)) _ _ (hs5.pull3 (A1:=BookE wb v r kv (h.un h')) (A2:=PgOwn ⟨.slice tai g.items.length tci,.slice tad g.data.length tcd,ys,g⟩) (A3:=Pr.own (h.un h'))))
   rw [pv_eq] at KP
   dsimp only at KP
   have HJ:=hQ (And.intro j' hl')
   have HST2:=hQ st2
   clear ll wl bk wk hd hs3 hs4 hs5 j' hl' hpg st2 HS2 HST1 HRQ
   go_wp2_with fail
   refine KP.out.mono ?_
   rintro e w6 ⟨rfl,st6,hs6⟩
   obtain⟨tv2,xv2,bs2,bk2,hs7⟩:=book_open (wb:=wb) (v:=v) (r:=r) (kv:=kv) (h:=h.un h') (OwnL.of2 hs6)
   have HS7:=hQ hs7
   have HST6:=hQ (HST2.out.trans st6)
   have HBK:=hQ bk2
   clear hs6 hs7 st6 bk2 KP c1
   go_wp2
   go_ret
   obtain⟨ll,wl,bk,wk⟩:=HOK.out
   have hl2:=HJ.out.2
   exact⟨rfl,HST6.out,⟨s',H',rs',gs',fl,l',kv,ws,h.un h',tv2,xv2,bs2⟩,⟨HJ.out.1,by show l'.length+k≤ _;omega,by show ws.length+k≤ _;omega,HBK.out,fun x hx=>(wk x hx).sub (Hp.sub_un_left h h')⟩,HS7.out.to⟩
end Go.Proofs.YtbobcmimkonnoaaGreat.Ty
namespace Go.Proofs.YtbobcmimkonnoaaGreat.Uy
open ChangeShapes WideShapes ChangeAt RowKit Sl Cop D2 K3 N3 Q3 G2 M2 U3 Y3 L5 X3 X5 E6 F6 Z6
theorem rcount_any(r:Nat)(s:PoolS)(gs:List PageV)(hush:RTail)(n:Int)(F:Pr)(w:World)(hF:Sat ((RefA r s gs hush).star F) w):
 Calls Tryz.prog 46 #[.pointer (some ⟨r,0,none⟩),.int .i64 n] w fun e w'=>e= .returned (.int .i64 (s.count n))∧w=w':=by
 obtain⟨x,ok,h⟩:=refA_iff.1 hF
 obtain⟨ac,cc,al,cl,ap,cp,⟨q1,q2,q3,_⟩,z,_,rd⟩:=ref_rd ok h
 have IS:=hQ (ris_any r s gs hush n F w hF)
 have hn2:=ok.n2
 by_cases ht:s.there n
 · rw [decide_eq_true ht] at IS
   obtain⟨j,rfl,hj⟩:=there_idx ht
   obtain⟨⟨b,rfl,c0⟩,_⟩:=rd j hj
   rw [count_idx hj]
   have zb:=World.block_lt_of_cell? _ _ c0
   generalize s.counts.getD j 0=c at*
   clear rd hF h ok ht
   go_enter Tryz.func46,Tryz.ntmps46
   go_wp2_with fail
   refine IS.out.mono ?_
   rintro e w1 ⟨rfl,rfl⟩
   go_wp2
   go_ret
   exact⟨rfl,rfl⟩
 · rw [decide_eq_false ht] at IS
   have e:s.count n=0:=by unfold PoolS.count;rw [if_neg ht]
   rw [e]
   clear rd hF h ok ht e
   go_enter Tryz.func46,Tryz.ntmps46
   go_wp2_with fail
   refine IS.out.mono ?_
   rintro e w1 ⟨rfl,rfl⟩
   go_wp2
   go_ret
   exact⟨rfl,rfl⟩
abbrev refO(r:Nat)(refs:Int)(y:HX)(fl:Int):Pr:=Pr.pts r (refHC refs y.cv y.lv y.pv y.av fl)
def RRest(s:PoolS)(gs:List PageV)(y:HX):Pr:=(BoolsRow y.lv s.last).star ((PgRow y.pv y.xs gs).star ((Pr.own y.h).star ((Row 165 2 y.av y.ws.length (y.ws.flatMap wasCells)).star (big WasRow y.ws))))
theorem refH_open {r:Nat}{s:PoolS}{gs:List PageV}{fl:Int}{l:List (List Int × List PageV)}{L R:List Pr}{w:World}(o:OwnL L w) [Pull (RefH r s gs fl l) L R]:∃y,HOk s gs l y∧OwnL (refO r s.refs y fl :: IntsRow y.cv s.counts :: RRest s gs y :: R) w:=by
 obtain⟨y,ok,h⟩:=refH_iff.1 (o.pull1 (A1:=RefH r s gs fl l))
 exact⟨y,ok,⟨h.perm (by unfold RRest;simp only [HParts,starL,Pr.star_assoc])⟩⟩
theorem refH_shut {r:Nat}{s:PoolS}{gs:List PageV}{fl:Int}{l:List (List Int × List PageV)}{y:HX}(ok:HOk s gs l y){L R1 R2 R3:List Pr}{w:World}(o:OwnL L w) [Pull (refO r s.refs y fl) L R1] [Pull (IntsRow y.cv s.counts) R1 R2] [Pull (RRest s gs y) R2 R3]:OwnL (RefH r s gs fl l :: R3) w:=
 ⟨refH_iff.2 ⟨y,ok,(o.pull3 (A1:=refO r s.refs y fl) (A2:=IntsRow y.cv s.counts) (A3:=RRest s gs y)).perm (by unfold RRest;simp only [HParts,Pr.star_assoc])⟩⟩
def VRest(s:VaultS)(x:VX):Pr:=(MapA Tryz.prog 3 x.mb x.f).star ((Row 158 2 x.av s.acts.length (actCells x.axs)).star (Pr.own x.h))
abbrev vaultQ(v:Nat)(s:VaultS)(x:VX):Pr:=Pr.pts v (.cells #[.pointer (some ⟨x.p,0,none⟩),.map (some x.mb),x.av,.int .i64 s.floor] 71)
theorem vault_open {v:Nat}{s:VaultS}{L R:List Pr}{w:World}(o:OwnL L w) [Pull (VaultA v s) L R]:∃x,VOk s x∧OwnL (vaultQ v s x :: PoolA x.p s.pool :: VRest s x :: R) w:=by
 obtain⟨x,ok,h⟩:=vaultA_iff.1 (o.pull1 (A1:=VaultA v s))
 exact⟨x,ok,⟨h.perm (by unfold VaultAt VRest;simp only [starL];ac_rfl)⟩⟩
theorem vault_shut {v:Nat}{s:VaultS}{x:VX}(ok:VOk s x){L R1 R2 R3:List Pr}{w:World}(o:OwnL L w) [Pull (vaultQ v s x) L R1] [Pull (PoolA x.p s.pool) R1 R2] [Pull (VRest s x) R2 R3]:OwnL (VaultA v s :: R3) w:=
 ⟨vaultA_iff.2 ⟨x,ok,(o.pull3 (A1:=vaultQ v s x) (A2:=PoolA x.p s.pool) (A3:=VRest s x)).perm (by unfold VaultAt VRest;ac_rfl)⟩⟩
end Go.Proofs.YtbobcmimkonnoaaGreat.Uy
