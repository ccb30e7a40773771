/- What is owned as a list of parts: parts are found by their form, so that no order has to be written out. Plain lemmas over any program. -/
import Derived.Test.YtbobcmimkonnoaaGreatVaultPlaysM01
import Derived.Test.YtbobcmimkonnoaaGreatVaultPlaysM20
import Derived.Test.YtbobcmimkonnoaaGreatVaultPlaysM03
import Derived.Test.YtbobcmimkonnoaaGreatVaultPlaysM45
import Derived.Test.YtbobcmimkonnoaaGreatVaultPlaysM38
set_option maxRecDepth 100000
set_option maxHeartbeats 16000000
namespace Go.Sl
open Go.RowKit
section
variable {L:List Pr}{w w':World}{F:Pr}
end
section
variable {L R R2 R3 R4 R5 R6:List Pr}{w w':World}{A B C D E G F:Pr}
theorem OwnL.in0(h:Sat F w):OwnL [F] w:=⟨h.perm (Pr.star_emp F).symm⟩
end
end Go.Sl
namespace Go.Proofs.YtbobcmimkonnoaaGreat.Hz
open ChangeShapes WideShapes ChangeAt RowKit Sl Cop
theorem wpList_minK {ops:Array Oper}{rest:List Oper}{o:Oper}{ac:Act}{Q:Exit→Act→World→Prop}{w:World}(hgd:o.guard=none)(x y:Operand)(hop:o.op= .call { callee:= .builtin .min,args:= #[x,y],argTypes:= #[3,3] })
 (hty:o.type=3) (a b n:Int) (hn:n=min a b) (hx:ac.eval x= .int .i64 a) (hy:ac.eval y= .int .i64 b) (hK:∀K:Act→Prop,(∀a',wpList Tryz.prog ops Q rest a' w→K a')→K (ac.put o.dst (.int .i64 n))):wpList Tryz.prog ops Q (o :: rest) ac w:=
 wpList_min hgd x y hop hty a b n hn hx hy (hK _ fun _ h=>h)
theorem wpList_slice_toK {ops:Array Oper}{rest:List Oper}{o:Oper}{ac:Act}{Q:Exit→Act→World→Prop}{w:World}(hgd:o.guard=none)(T e:TypeId)(x h:Operand)(hop:o.op=Op.slice T x none (some h) none)(hu:Tryz.prog.underlying T=some (.slice e))(k:Nat)(hz:∀w:World,(Go.sizeOf e).run Tryz.prog w= .ok k w)(a:Option Addr)(len cap n:Nat)(hn:n≤cap)
 (hx:ac.eval x= .slice a len cap) (hh:ac.eval h= .int .i64 (n:Int)) (hK:∀K:Act→Prop,(∀a',wpList Tryz.prog ops Q rest a' w→K a')→K (ac.put o.dst (.slice a n cap))):wpList Tryz.prog ops Q (o :: rest) ac w:=
 wpList_slice_to hgd T e x h hop hu k hz a len cap n hn hx hh (hK _ fun _ h=>h)
end Go.Proofs.YtbobcmimkonnoaaGreat.Hz
namespace Go.Proofs.YtbobcmimkonnoaaGreat.Mz
open RowKit Sl Cop Jy
def WorkR(wb v r k:Nat):Pr:=Pr.ex fun z=>(Pr.pure (LOK z k)).star (starL (lawL wb v r z []))
theorem workR_iff {wb v r k:Nat}{F:Pr}{w:World}:Sat ((WorkR wb v r k).star F) w↔DoneH wb v r k F w:=by
 have e:∀z,(starL (lawL wb v r z [])).star F=starL (lawL wb v r z [F]):=fun z=>by
  simp only [starL,Pr.star_assoc,Pr.star_emp]
 unfold WorkR
 rw [Sat.ex]
 constructor
 · rintro⟨z,h⟩
   obtain⟨ok,h3⟩:=Sat.pure.1 (h.perm (Pr.star_assoc _ _ _))
   exact⟨z,ok,⟨h3.perm (e z)⟩⟩
 · rintro⟨z,ok,h⟩
   exact⟨z,(Sat.pure.2 ⟨ok,h.sat.perm (e z).symm⟩).perm (Pr.star_assoc _ _ _).symm⟩
end Go.Proofs.YtbobcmimkonnoaaGreat.Mz
namespace Go.Proofs.YtbobcmimkonnoaaGreat.Nz
open ChangeShapes WideShapes ChangeAt RowKit Sl Cop K3 G2 M2 U3 Y3 X3 P4 Kz Z6 Fy Jy Z9 Cz Ly Fz Gz Hz Mz Lz
theorem do_w(wb v r k:Nat)(hp:Hp)(F:Pr)(w:World)(hd:Sat ((WorkR wb v r (k+1)).star ((Pr.own hp).star F)) w)(o:OpP)(vi vd:Value)(hb:OpPB hp o (vi,vd))(hf:OpPFits o):
 Calls Tryz.prog 10 #[.pointer (some ⟨wb,0,none⟩),.agg #[.int .i64 o.kind,.int .i64 o.n,.int .i64 o.k,.int .i64 o.g.kind,.int .i64 o.g.level,vi,vd,.int .i64 o.g.next]] w fun e w'=>e= .returned (.bool true)∧Stays w w'∧Sat ((WorkR wb v r k).star ((Pr.own hp).star F)) w':=by
 refine(do_at wb v r k hp F w (workR_iff.1 hd) o vi vd hb hf).mono ?_
 rintro e w' ⟨h1,h2,h3⟩
 exact⟨h1,h2,workR_iff.2 h3⟩
theorem all_w(wb v r k:Nat)(F:Pr)(w:World)(hd:Sat ((WorkR wb v r k).star F) w):
 Calls Tryz.prog 11 #[.pointer (some ⟨wb,0,none⟩)] w fun e w'=>e= .returned (.bool true)∧Stays w w'∧Sat ((WorkR wb v r k).star F) w':=by
 refine(all_any wb v r k F w (workR_iff.1 hd)).mono ?_
 rintro e w' ⟨h1,h2,h3⟩
 exact⟨h1,h2,workR_iff.2 h3⟩
theorem begin_w(pg refs:Int)(h:rangeOk pg refs=true)(F:Pr)(w:World)(hF:Sat F w):
 Calls Tryz.prog 9 #[.int .i64 pg,.int .i64 refs] w fun e w'=>Stays w w'∧∃wb v r,e= .returned (.tuple #[.pointer (some ⟨wb,0,none⟩),.bool true])∧Sat ((WorkR wb v r 60).star F) w':=by
 refine(begin_int pg refs h 60 (by omega) F w hF).mono ?_
 rintro e w' ⟨h1,wb,v,r,h2,h3⟩
 exact⟨h1,wb,v,r,h2,workR_iff.2 h3⟩
abbrev twoC(x y:Value)(T:Nat):Obj:= .cells #[x,y] T
theorem two_walk(p0 p1 r0 r1:Int)(vx vy vt:Value)(xs ys:List OpP)(ts:List Bool)(w:World)(hx:OpsP (heapOf w) vx xs)(hy:OpsP (heapOf w) vy ys)(hxf:∀o∈xs,OpPFits o)(hyf:∀o∈ys,OpPFits o)(ht:RowIn (heapOf w) 1 vt ts.length (ts.map Value.bool))(htl:ts.length≤140737488351232):
 Calls Tryz.prog 5 #[.agg #[.int .i64 p0,.int .i64 p1],.agg #[.int .i64 r0,.int .i64 r1],.agg #[vx,vy],vt] w fun e w'=>e= .returned (.bool true)∧Sat (Pr.own (heapOf w)) w'∧Stays w w':=by
 obtain⟨ax,cx,rfl,hxc,hxm,rx⟩:=opsP_rd hx
 obtain⟨ay,cy,rfl,hyc,hym,ry⟩:=opsP_rd hy
 obtain⟨_,at',ct,rfl,_,_,rt⟩:=ht
 obtain⟨m,hm⟩:∃m:Nat,m=min xs.length 60:=⟨_,rfl⟩
 obtain⟨n,hn⟩:∃n:Nat,n=min ys.length 60:=⟨_,rfl⟩
 have hmx:min (xs.length:Int) 60=(m:Int):=by omega
 have hny:min (ys.length:Int) 60=(n:Int):=by omega
 have hmc:m≤cx:=by omega
 have hnc:n≤cy:=by omega
 have hm2:m≤60:=by omega
 have hn2:n≤60:=by omega
 have hm3:m≤xs.length:=by omega
 have hn3:n≤ys.length:=by omega
 have L:=hQ (fun(F:Pr) (wx:World) hF=>lives_any F wx hF)
 have RX:=hQ (And.intro rx hxf)
 have RY:=hQ (And.intro ry hyf)
 have RT:=hQ rt
 have t1:=(((OwnL.in0 (sat_heap w)).alloc (twoC (.int .i64 p0) (.int .i64 p1) 45)).alloc (twoC (.int .i64 r0) (.int .i64 r1) 45)).alloc (twoC (.slice ax xs.length cx) (.slice ay ys.length cy) 46)
 have T2:=hQ ((((Stays.refl w).alloc (twoC (.int .i64 p0) (.int .i64 p1) 45)).alloc (twoC (.int .i64 r0) (.int .i64 r1) 45)).alloc (twoC (.slice ax xs.length cx) (.slice ay ys.length cy) 46))
 rw [show ((w.alloc (twoC (.int .i64 p0) (.int .i64 p1) 45)).alloc (twoC (.int .i64 r0) (.int .i64 r1) 45)).heap.size=w.heap.size+1+1 by simp,show (w.alloc (twoC (.int .i64 p0) (.int .i64 p1) 45)).heap.size=w.heap.size+1 by simp] at t1
 have T1:=hQ t1
 have BAD0:=hQ (fun(h:rangeOk p0 r0=false) (wx:World)=>begin_bad p0 r0 h wx)
 have BAD1:=hQ (fun(h:rangeOk p1 r1=false) (wx:World)=>begin_bad p1 r1 h wx)
 have GO0:=hQ (fun(h:rangeOk p0 r0=true) (F:Pr) (wx:World) hF=>begin_w p0 r0 h F wx hF)
 have GO1:=hQ (fun(h:rangeOk p1 r1=true) (F:Pr) (wx:World) hF=>begin_w p1 r1 h F wx hF)
 have HMX:=hQ hmx
 have HNY:=hQ hny
 clear hx hy hxc hxm rx hyc hym ry rt hxf hyf t1 hm hn hmx hny
 go_enter Tryz.func5,Tryz.ntmps5
 go_wp2_with fail
 have U1:=T1.out
 have U2:=T2.out
 clear T1 T2
 generalize ((w.alloc (twoC (.int .i64 p0) (.int .i64 p1) 45)).alloc (twoC (.int .i64 r0) (.int .i64 r1) 45)).alloc (twoC (.slice ax xs.length cx) (.slice ay ys.length cy) 46)=w0 at*
 generalize w.heap.size+1+1=B2 at*
 generalize w.heap.size+1=B1 at*
 generalize w.heap.size=B0 at*
 go_loopw [18] (fun t wr=> ∃k m0 m1:Nat,k≤2∧t= .int .i64 k∧Hid ((k=0→m0=xs.length)∧(0<k→m0=m)∧(k≤1→m1=ys.length)∧(1<k→m1=n))∧Stays w wr∧
  OwnL [Pr.pts B2 (twoC (.slice ax m0 cx) (.slice ay m1 cy) 46),Pr.pts B1 (twoC (.int .i64 r0) (.int .i64 r1) 45),Pr.pts B0 (twoC (.int .i64 p0) (.int .i64 p1) 45),Pr.own (heapOf w)] wr) (fun t _=>2-(intOf t).toNat)
 case atStart=>exact⟨0,_,_,by omega,rfl,hQ ⟨fun _=>rfl,fun h=>absurd h (by omega),fun _=>rfl,fun h=>absurd h (by omega)⟩,U2,U1⟩
 case round=>
  clear U1 U2
  obtain⟨k,m0,m1,hk,rfl,hm01,hst,hs⟩:=hrel
  obtain⟨g1,g2,g3,g4⟩:=hm01.out
  clear hm01
  rcases (by omega:k=0∨k=1∨k=2) with rfl | rfl | rfl
  · obtain rfl:=g1 rfl
    obtain rfl:=g3 (by omega)
    have HST:=hQ hst
    have HS:=hQ hs
    have c1:=hs.facts
    simp only [CellsAt,Nat.reduceAdd,and_true] at c1
    clear hst hs
    go_wp2_with fail
    refine wp_region_staged (sz:=108) (by kernel_rfl) [0,1,2,3,4,5,6] [(7,[],[0,1,2,3,4,5]),(8,[],[0,1,2,3,4,5]),(9,[10],[0,1,2,4,5]),(11,[],[])] rfl (by kernel_rfl) (by kernel_rfl) (by kernel_rfl) ?_
    refine wpQ_all _ rfl rfl ?_
    simp only [pick,pQ]
    iterate 7 (go_big_quiet_step (fail))
    refine wpQuiet_nil ?_
    refine wpRest_act rfl ?_
    go_wp2
    refine onN_mk ?_
    refine wpQ_nil ⟨?_,?_⟩
    · refine chk_all _ rfl rfl ?_
      simp only [pick,Same,pQ,and_true]
      repeat' (first | apply And.intro | (go_big_quiet_step (fail);exact wpQuiet_nil rfl))
    refine wpRest_act rfl ?_
    refine wpList_minK rfl _ _ rfl rfl (xs.length:Int) 60 (m:Int) HMX.out.symm rfl rfl (fun K hK=> ?_)
    go_simp
    refine hK _ ?_
    clear hK K
    refine wpList_nil ?_
    refine onN_mk ?_
    refine wpQ_nil ⟨?_,?_⟩
    · refine chk_all _ rfl rfl ?_
      simp only [pick,Same,pQ,and_true]
      repeat' (first | apply And.intro | (go_big_quiet_step (fail);exact wpQuiet_nil rfl))
    refine wpRest_act rfl ?_
    refine wpList_slice_toK rfl 22 33 _ _ rfl Tryz.underlying22 8 (fun w=>by go_simp) ax xs.length cx m hmc rfl rfl (fun K hK=> ?_)
    go_simp
    refine hK _ ?_
    clear hK K
    refine wpList_nil ?_
    refine onN_mk ?_
    refine wpQ_all _ rfl rfl ?_
    simp only [pick,pQ]
    iterate 1 (go_big_quiet_step (fail))
    refine wpQuiet_nil ⟨?_,?_⟩
    · refine chk_all _ rfl rfl ?_
      simp only [pick,Same,pQ,and_true]
      repeat' (first | apply And.intro | (go_big_quiet_step (fail);exact wpQuiet_nil rfl))
    refine wpRest_act rfl ?_
    go_wp2
    refine onN_mk ?_
    refine wpQ_nil ⟨?_,?_⟩
    · exact chk_nil
    refine wpRest_nil ?_
    go_wp2
    exact⟨⟨1,m,ys.length,by omega,rfl,hQ ⟨fun h=>absurd h (by omega),fun _=>rfl,fun _=>rfl,fun h=>absurd h (by omega)⟩,(HST.out.setCell _ _).drew,(HS.out.set B2 0 (.slice ax m cx)).drew.to⟩,by simp [intOf]⟩
  · have e0:=g2 (by omega)
    rw [e0] at hs
    clear e0
    obtain rfl:=g3 (by omega)
    have HST:=hQ hst
    have HS:=hQ hs
    have c1:=hs.facts
    simp only [CellsAt,Nat.reduceAdd,and_true] at c1
    clear hst hs
    go_wp2_with fail
    refine wp_region_staged (sz:=108) (by kernel_rfl) [0,1,2,3,4,5,6] [(7,[],[0,1,2,3,4,5]),(8,[],[0,1,2,3,4,5]),(9,[10],[0,1,2,4,5]),(11,[],[])] rfl (by kernel_rfl) (by kernel_rfl) (by kernel_rfl) ?_
    refine wpQ_all _ rfl rfl ?_
    simp only [pick,pQ]
    iterate 7 (go_big_quiet_step (fail))
    refine wpQuiet_nil ?_
    refine wpRest_act rfl ?_
    go_wp2
    refine onN_mk ?_
    refine wpQ_nil ⟨?_,?_⟩
    · refine chk_all _ rfl rfl ?_
      simp only [pick,Same,pQ,and_true]
      repeat' (first | apply And.intro | (go_big_quiet_step (fail);exact wpQuiet_nil rfl))
    refine wpRest_act rfl ?_
    refine wpList_minK rfl _ _ rfl rfl (ys.length:Int) 60 (n:Int) HNY.out.symm rfl rfl (fun K hK=> ?_)
    go_simp
    refine hK _ ?_
    clear hK K
    refine wpList_nil ?_
    refine onN_mk ?_
    refine wpQ_nil ⟨?_,?_⟩
    · refine chk_all _ rfl rfl ?_
      simp only [pick,Same,pQ,and_true]
      repeat' (first | apply And.intro | (go_big_quiet_step (fail);exact wpQuiet_nil rfl))
    refine wpRest_act rfl ?_
    refine wpList_slice_toK rfl 22 33 _ _ rfl Tryz.underlying22 8 (fun w=>by go_simp) ay ys.length cy n hnc rfl rfl (fun K hK=> ?_)
    go_simp
    refine hK _ ?_
    clear hK K
    refine wpList_nil ?_
    refine onN_mk ?_
    refine wpQ_all _ rfl rfl ?_
    simp only [pick,pQ]
    iterate 1 (go_big_quiet_step (fail))
    refine wpQuiet_nil ⟨?_,?_⟩
    · refine chk_all _ rfl rfl ?_
      simp only [pick,Same,pQ,and_true]
      repeat' (first | apply And.intro | (go_big_quiet_step (fail);exact wpQuiet_nil rfl))
    refine wpRest_act rfl ?_
    go_wp2
    refine onN_mk ?_
    refine wpQ_nil ⟨?_,?_⟩
    · exact chk_nil
    refine wpRest_nil ?_
    go_wp2
    exact⟨⟨2,m,n,by omega,rfl,hQ ⟨fun h=>absurd h (by omega),fun _=>rfl,fun h=>absurd h (by omega),fun _=>rfl⟩,(HST.out.setCell _ _).drew,(HS.out.set B2 1 (.slice ay n cy)).drew.to⟩,by simp [intOf]⟩
  · rw [show ((2:Nat):Int)=2 from rfl]
    have e0:=g2 (by omega)
    have e1:=g4 (by omega)
    rw [e0,e1] at hs
    clear e0 e1 g1 g2 g3 g4
    have HST:=hQ (hst.alloc (twoC (.pointer none) (.pointer none) 48))
    have HS:=hQ (hs.alloc (twoC (.pointer none) (.pointer none) 48))
    clear hst hs HMX HNY
    go_wp2_with fail
    have U1:=HST.out
    have U2:=HS.out
    clear HST HS
    generalize wr.alloc (twoC (.pointer none) (.pointer none) 48)=w0 at*
    generalize wr.heap.size=B3 at*
    go_loopw [11] (fun t wr=> ∃k:Nat,k≤2∧t= .int .i64 k∧Stays w wr∧Hid ((k=0∧OwnL [Pr.pts B3 (twoC (.pointer none) (.pointer none) 48),Pr.pts B2 (twoC (.slice ax m cx) (.slice ay n cy) 46),Pr.pts B1 (twoC (.int .i64 r0) (.int .i64 r1) 45),Pr.pts B0 (twoC (.int .i64 p0) (.int .i64 p1) 45),Pr.own (heapOf w)] wr)∨(k=1∧∃w0 v0 u0,OwnL [WorkR w0 v0 u0 60,Pr.pts B3 (twoC (.pointer (some ⟨w0,0,none⟩)) (.pointer none) 48),Pr.pts B2 (twoC (.slice ax m cx) (.slice ay n cy) 46),Pr.pts B1 (twoC (.int .i64 r0) (.int .i64 r1) 45),Pr.pts B0 (twoC (.int .i64 p0) (.int .i64 p1) 45),Pr.own (heapOf w)] wr)∨
     (k=2∧∃w0 v0 u0 w1 v1 u1,OwnL [WorkR w0 v0 u0 60,WorkR w1 v1 u1 60,Pr.pts B3 (twoC (.pointer (some ⟨w0,0,none⟩)) (.pointer (some ⟨w1,0,none⟩)) 48),Pr.pts B2 (twoC (.slice ax m cx) (.slice ay n cy) 46),Pr.pts B1 (twoC (.int .i64 r0) (.int .i64 r1) 45),Pr.pts B0 (twoC (.int .i64 p0) (.int .i64 p1) 45),Pr.own (heapOf w)] wr))) (fun t _=>2-(intOf t).toNat)
    case atStart=>exact⟨0,by omega,rfl,U1,hQ (.inl ⟨rfl,U2.to⟩)⟩
    case round=>
     clear U1 U2
     obtain⟨k,hk2,rfl,hst,hdis⟩:=hrel
     rcases hdis.out with(⟨rfl,hs⟩ | ⟨rfl,w0,v0,u0,hs⟩ | ⟨rfl,w0,v0,u0,w1,v1,u1,hs⟩)
     all_goals clear hdis
     · have HST:=hQ hst
       have HS:=hQ hs
       have c1:=hs.facts
       simp only [CellsAt,Nat.reduceAdd,and_true] at c1
       by_cases h100:100<p0
       · have X:=hQ (L.out _ _ hs.sat)
         clear hst hs HS
         go_wp2_with fail
         refine X.out.mono ?_
         rintro e w2 ⟨rfl,st2,hs2⟩
         have HST2:=hQ (HST.out.trans st2)
         have HF:=hQ ((OwnL.of0 hs2).end1 (A1:=Pr.own (heapOf w)))
         clear X HST st2 hs2 c1
         go_wp2
         go_ret
         exact⟨rfl,HF.out,HST2.out⟩
       · have h101:p0≤100:=by omega
         cases hrg:rangeOk p0 r0 with
         | false=>
           have B:=hQ (BAD0.out hrg wr.drew)
           have X:=hQ (L.out _ _ hs.drew.sat)
           clear hst hs HS hrg
           go_wp2_with fail
           refine wp_region_staged (sz:=108) (by kernel_rfl) [0,1,2,3,4,5] [(6,[7,8,9,10,11],[0,1,3,4])] rfl (by kernel_rfl) (by kernel_rfl) (by kernel_rfl) ?_
           refine wpQ_all _ rfl rfl ?_
           simp only [pick,pQ]
           iterate 6 (go_big_quiet_step (fail))
           refine wpQuiet_nil ?_
           refine wpRest_act rfl ?_
           go_wp2_with fail
           refine B.out.mono ?_
           rintro e w2 ⟨rfl,rfl⟩
           go_wp2
           refine onN_mk ?_
           refine wpQ_all _ rfl rfl ?_
           simp only [pick,pQ]
           iterate 5 (go_big_quiet_step (fail))
           refine wpQuiet_nil ⟨?_,?_⟩
           · refine chk_all _ rfl rfl ?_
             simp only [pick,Same,pQ,and_true]
             repeat' (first | apply And.intro | (go_big_quiet_step (fail);exact wpQuiet_nil rfl))
           refine wpRest_nil ?_
           go_wp2_with fail
           refine X.out.mono ?_
           rintro e w2 ⟨rfl,st2,hs2⟩
           have HST2:=hQ (HST.out.drew.trans st2)
           have HF:=hQ ((OwnL.of0 hs2).end1 (A1:=Pr.own (heapOf w)))
           clear X HST st2 hs2 c1 B
           go_wp2
           go_ret
           exact⟨rfl,HF.out,HST2.out⟩
         | true=>
           have B:=hQ (GO0.out hrg _ _ hs.drew.sat)
           clear hst hs HS hrg
           go_wp2_with fail
           refine wp_region_staged (sz:=108) (by kernel_rfl) [0,1,2,3,4,5] [(6,[7,8,9,10,11],[0,1,3,4])] rfl (by kernel_rfl) (by kernel_rfl) (by kernel_rfl) ?_
           refine wpQ_all _ rfl rfl ?_
           simp only [pick,pQ]
           iterate 6 (go_big_quiet_step (fail))
           refine wpQuiet_nil ?_
           refine wpRest_act rfl ?_
           go_wp2_with fail
           refine B.out.mono ?_
           rintro e w2 ⟨st2,wn,vn,un,rfl,hs2⟩
           have hs3:=OwnL.of1 hs2
           have HST2:=hQ (HST.out.drew.trans st2)
           have HS3:=hQ hs3
           clear c1
           have c1:=hs3.facts
           simp only [CellsAt,Nat.reduceAdd,and_true] at c1
           clear st2 hs2 hs3 B HST
           go_wp2
           refine onN_mk ?_
           refine wpQ_all _ rfl rfl ?_
           simp only [pick,pQ]
           iterate 5 (go_big_quiet_step (fail))
           refine wpQuiet_nil ⟨?_,?_⟩
           · refine chk_all _ rfl rfl ?_
             simp only [pick,Same,pQ,and_true]
             repeat' (first | apply And.intro | (go_big_quiet_step (fail);exact wpQuiet_nil rfl))
           refine wpRest_nil ?_
           go_wp2
           go_roundw
           case measure=>simp [intOf]
           case rel=>exact⟨1,by omega,rfl,HST2.out.setCell _ _,hQ (.inr (.inl ⟨rfl,wn,vn,un,(HS3.out.set B3 0 (.pointer (some ⟨wn,0,none⟩))).to⟩))⟩
     · have HST:=hQ hst
       have HS:=hQ hs
       have c1:=hs.facts
       simp only [CellsAt,Nat.reduceAdd,and_true] at c1
       by_cases h100:100<p1
       · have X:=hQ (L.out _ _ hs.sat)
         clear hst hs HS
         go_wp2_with fail
         refine X.out.mono ?_
         rintro e w2 ⟨rfl,st2,hs2⟩
         have HST2:=hQ (HST.out.trans st2)
         have HF:=hQ ((OwnL.of0 hs2).end1 (A1:=Pr.own (heapOf w)))
         clear X HST st2 hs2 c1
         go_wp2
         go_ret
         exact⟨rfl,HF.out,HST2.out⟩
       · have h101:p1≤100:=by omega
         cases hrg:rangeOk p1 r1 with
         | false=>
           have B:=hQ (BAD1.out hrg wr.drew)
           have X:=hQ (L.out _ _ hs.drew.sat)
           clear hst hs HS hrg
           go_wp2_with fail
           refine wp_region_staged (sz:=108) (by kernel_rfl) [0,1,2,3,4,5] [(6,[7,8,9,10,11],[0,1,3,4])] rfl (by kernel_rfl) (by kernel_rfl) (by kernel_rfl) ?_
           refine wpQ_all _ rfl rfl ?_
           simp only [pick,pQ]
           iterate 6 (go_big_quiet_step (fail))
           refine wpQuiet_nil ?_
           refine wpRest_act rfl ?_
           go_wp2_with fail
           refine B.out.mono ?_
           rintro e w2 ⟨rfl,rfl⟩
           go_wp2
           refine onN_mk ?_
           refine wpQ_all _ rfl rfl ?_
           simp only [pick,pQ]
           iterate 5 (go_big_quiet_step (fail))
           refine wpQuiet_nil ⟨?_,?_⟩
           · refine chk_all _ rfl rfl ?_
             simp only [pick,Same,pQ,and_true]
             repeat' (first | apply And.intro | (go_big_quiet_step (fail);exact wpQuiet_nil rfl))
           refine wpRest_nil ?_
           go_wp2_with fail
           refine X.out.mono ?_
           rintro e w2 ⟨rfl,st2,hs2⟩
           have HST2:=hQ (HST.out.drew.trans st2)
           have HF:=hQ ((OwnL.of0 hs2).end1 (A1:=Pr.own (heapOf w)))
           clear X HST st2 hs2 c1 B
           go_wp2
           go_ret
           exact⟨rfl,HF.out,HST2.out⟩
         | true=>
           have B:=hQ (GO1.out hrg _ _ hs.drew.sat)
           clear hst hs HS hrg
           go_wp2_with fail
           refine wp_region_staged (sz:=108) (by kernel_rfl) [0,1,2,3,4,5] [(6,[7,8,9,10,11],[0,1,3,4])] rfl (by kernel_rfl) (by kernel_rfl) (by kernel_rfl) ?_
           refine wpQ_all _ rfl rfl ?_
           simp only [pick,pQ]
           iterate 6 (go_big_quiet_step (fail))
           refine wpQuiet_nil ?_
           refine wpRest_act rfl ?_
           go_wp2_with fail
           refine B.out.mono ?_
           rintro e w2 ⟨st2,wn,vn,un,rfl,hs2⟩
           have hs3:=OwnL.of1 hs2
           have HST2:=hQ (HST.out.drew.trans st2)
           have HS3:=hQ hs3
           clear c1
           have c1:=hs3.facts
           simp only [CellsAt,Nat.reduceAdd,and_true] at c1
           clear st2 hs2 hs3 B HST
           go_wp2
           refine onN_mk ?_
           refine wpQ_all _ rfl rfl ?_
           simp only [pick,pQ]
           iterate 5 (go_big_quiet_step (fail))
           refine wpQuiet_nil ⟨?_,?_⟩
           · refine chk_all _ rfl rfl ?_
             simp only [pick,Same,pQ,and_true]
             repeat' (first | apply And.intro | (go_big_quiet_step (fail);exact wpQuiet_nil rfl))
           refine wpRest_nil ?_
           go_wp2
           go_roundw
           case measure=>simp [intOf]
           case rel=>exact⟨2,by omega,rfl,HST2.out.setCell _ _,hQ (.inr (.inr ⟨rfl,w0,v0,u0,wn,vn,un,(HS3.out.set B3 1 (.pointer (some ⟨wn,0,none⟩))).to⟩))⟩
     · rw [show ((2:Nat):Int)=2 from rfl]
       have HST:=hQ (hst.alloc (twoC (.int .i64 0) (.int .i64 0) 45))
       have HS:=hQ (hs.alloc (twoC (.int .i64 0) (.int .i64 0) 45))
       clear hst hs BAD0 BAD1 GO0 GO1
       go_wp2_with fail
       have U1:=HST.out
       have U2:=HS.out
       clear HST HS
       generalize wr.alloc (twoC (.int .i64 0) (.int .i64 0) 45)=w2 at*
       generalize wr.heap.size=B4 at*
       go_loopw [15] (fun t wr=> ∃j a b:Nat,j≤ts.length∧t= .int .i64 j∧Stays w wr∧a≤m∧b≤n∧OwnL [WorkR w0 v0 u0 (60-a),WorkR w1 v1 u1 (60-b),Pr.pts B4 (twoC (.int .i64 ((a:Nat):Int)) (.int .i64 ((b:Nat):Int)) 45),Pr.pts B3 (twoC (.pointer (some ⟨w0,0,none⟩)) (.pointer (some ⟨w1,0,none⟩)) 48),Pr.pts B2 (twoC (.slice ax m cx) (.slice ay n cy) 46),Pr.pts B1 (twoC (.int .i64 r0) (.int .i64 r1) 45),Pr.pts B0 (twoC (.int .i64 p0) (.int .i64 p1) 45),Pr.own (heapOf w)] wr) (fun t _=>ts.length-(intOf t).toNat)
       case atStart=>exact⟨0,0,0,Nat.zero_le _,rfl,U1,Nat.zero_le _,Nat.zero_le _,U2.to⟩
       case round=>
        clear U1 U2
        obtain⟨j,a,b,hj,rfl,hst,ha,hb,hs⟩:=hrel
        have c1:=hs.facts
        simp only [CellsAt,Nat.reduceAdd,and_true] at c1
        rcases Nat.lt_or_ge j ts.length with hlt | hge
        · obtain⟨tb,tf,rfl,tcell⟩:=RT.out (by omega)
          have k1:wr.cell? ⟨tb,tf+j,none⟩=some (.bool ts[j]):=Hp.cell_le (hs.le (a:=heapOf w)) ((tcell j (by omega)).trans (by rw [List.getElem?_map,List.getElem?_eq_getElem hlt];rfl))
          have z1:=World.block_lt_of_cell? _ _ k1
          have hj2:(j:Int)≤140737488351232:=by omega
          clear tcell
          cases hwho:ts[j] with
          | false=>
            rw [hwho] at k1
            clear hwho
            by_cases hq:a<m
            · have hio:a<xs.length:=by omega
              obtain⟨sb,so,ai,ad,ci,cd,rfl,ob,cells⟩:=RX.out.1 a hio
              have hf:=RX.out.2 xs[a] (List.getElem_mem hio)
              have k8:=cells wr (hs.le (a:=heapOf w))
              have z0:=World.block_lt_of_cell? _ _ k8.1
              have hq2:(a:Int)<(m:Int):=by omega
              have hq3:(a:Int)≤60:=by omega
              have hs0:=hs
              rw [show 60-a=60-a-1+1 by omega] at hs0
              have D:=hQ (do_w w0 v0 u0 (60-a-1) (heapOf w) _ _ (hs0.drew.drew.pull2 (A1:=WorkR w0 v0 u0 (60-a-1+1)) (A2:=Pr.own (heapOf w))) xs[a] _ _ ob hf)
              have HST:=hQ hst
              clear cells ob hf hs hs0 hst
              generalize xs[a]=O at*
              go_wp2_with fail
              refine wp_region_staged (sz:=108) (by kernel_rfl) [0,1,2,3,4,5] [(6,[7],[0,1,2,3,4])] rfl (by kernel_rfl) (by kernel_rfl) (by kernel_rfl) ?_
              refine wpQ_all _ rfl rfl ?_
              simp only [pick,pQ]
              iterate 6 (go_big_quiet_step (fail))
              refine wpQuiet_nil ?_
              refine wpRest_act rfl ?_
              go_wp2
              refine onN_mk ?_
              refine wpQ_all _ rfl rfl ?_
              simp only [pick,pQ]
              iterate 1 (go_big_quiet_step (fail))
              refine wpQuiet_nil ⟨?_,?_⟩
              · refine chk_all _ rfl rfl ?_
                simp only [pick,Same,pQ,and_true]
                repeat' (first | apply And.intro | (go_big_quiet_step (fail);exact wpQuiet_nil rfl))
              refine wpRest_nil ?_
              go_wp2_with fail
              refine wp_region_staged (sz:=108) (by kernel_rfl) [0,1,2,3,4,5,6,7,8,9,10] [(11,[12],[0,1,3,4,5,6,7,8,9])] rfl (by kernel_rfl) (by kernel_rfl) (by kernel_rfl) ?_
              refine wpQ_all _ rfl rfl ?_
              simp only [pick,pQ]
              iterate 11 (go_big_quiet_step (fail))
              refine wpQuiet_nil ?_
              refine wpRest_act rfl ?_
              go_wp2_with fail
              refine D.out.mono ?_
              rintro e w3 ⟨rfl,st3,hs3⟩
              have hs4:=(OwnL.of2 hs3)
              have HST3:=hQ (HST.out.drew.drew.trans st3)
              have HS4:=hQ hs4
              clear c1 k1 k8 z1 z0
              have c1:=hs4.facts
              simp only [CellsAt,Nat.reduceAdd,and_true] at c1
              clear st3 hs3 hs4 D HST
              go_wp2
              refine onN_mk ?_
              refine wpQ_all _ rfl rfl ?_
              simp only [pick,pQ]
              iterate 1 (go_big_quiet_step (fail))
              refine wpQuiet_nil ⟨?_,?_⟩
              · refine chk_all _ rfl rfl ?_
                simp only [pick,Same,pQ,and_true]
                repeat' (first | apply And.intro | (go_big_quiet_step (fail);exact wpQuiet_nil rfl))
              refine wpRest_nil ?_
              go_wp2
              go_roundw
              case measure=>simp [intOf];omega
              case rel=>exact⟨j+1,a+1,b,by omega,congrArg (Value.int .i64) (by omega),HST3.out.setCell _ _,by omega,by omega,by
               have h5:=(HS4.out.set B4 0 (.int .i64 (((a+1:Nat)):Int)))
               rw [show 60-a-1=60-(a+1) by omega] at h5
               exact h5.to⟩
            · have hqe:a=m:=by omega
              have hq2:¬((a:Int)<(m:Int)):=by omega
              have HST:=hQ hst
              have HS:=hQ hs
              clear hs hst
              go_wp2_with fail
              refine wp_region_staged (sz:=108) (by kernel_rfl) [0,1,2,3,4,5] [(6,[7],[0,1,2,3,4])] rfl (by kernel_rfl) (by kernel_rfl) (by kernel_rfl) ?_
              refine wpQ_all _ rfl rfl ?_
              simp only [pick,pQ]
              iterate 6 (go_big_quiet_step (fail))
              refine wpQuiet_nil ?_
              refine wpRest_act rfl ?_
              go_wp2
              refine onN_mk ?_
              refine wpQ_all _ rfl rfl ?_
              simp only [pick,pQ]
              iterate 1 (go_big_quiet_step (fail))
              refine wpQuiet_nil ⟨?_,?_⟩
              · refine chk_all _ rfl rfl ?_
                simp only [pick,Same,pQ,and_true]
                repeat' (first | apply And.intro | (go_big_quiet_step (fail);exact wpQuiet_nil rfl))
              refine wpRest_nil ?_
              go_wp2
              go_roundw
              case measure=>simp [intOf];omega
              case rel=>exact⟨j+1,a,b,by omega,congrArg (Value.int .i64) (by omega),HST.out.drew,ha,hb,HS.out.drew⟩
          | true=>
            rw [hwho] at k1
            clear hwho
            by_cases hq:b<n
            · have hio:b<ys.length:=by omega
              obtain⟨sb,so,ai,ad,ci,cd,rfl,ob,cells⟩:=RY.out.1 b hio
              have hf:=RY.out.2 ys[b] (List.getElem_mem hio)
              have k8:=cells wr (hs.le (a:=heapOf w))
              have z0:=World.block_lt_of_cell? _ _ k8.1
              have hq2:(b:Int)<(n:Int):=by omega
              have hq3:(b:Int)≤60:=by omega
              have hs0:=hs
              rw [show 60-b=60-b-1+1 by omega] at hs0
              have D:=hQ (do_w w1 v1 u1 (60-b-1) (heapOf w) _ _ (hs0.drew.drew.pull2 (A1:=WorkR w1 v1 u1 (60-b-1+1)) (A2:=Pr.own (heapOf w))) ys[b] _ _ ob hf)
              have HST:=hQ hst
              clear cells ob hf hs hs0 hst
              generalize ys[b]=O at*
              go_wp2_with fail
              refine wp_region_staged (sz:=108) (by kernel_rfl) [0,1,2,3,4,5] [(6,[7],[0,1,2,3,4])] rfl (by kernel_rfl) (by kernel_rfl) (by kernel_rfl) ?_
              refine wpQ_all _ rfl rfl ?_
              simp only [pick,pQ]
              iterate 6 (go_big_quiet_step (fail))
              refine wpQuiet_nil ?_
              refine wpRest_act rfl ?_
              go_wp2
              refine onN_mk ?_
              refine wpQ_all _ rfl rfl ?_
              simp only [pick,pQ]
              iterate 1 (go_big_quiet_step (fail))
              refine wpQuiet_nil ⟨?_,?_⟩
              · refine chk_all _ rfl rfl ?_
                simp only [pick,Same,pQ,and_true]
                repeat' (first | apply And.intro | (go_big_quiet_step (fail);exact wpQuiet_nil rfl))
              refine wpRest_nil ?_
              go_wp2_with fail
              refine wp_region_staged (sz:=108) (by kernel_rfl) [0,1,2,3,4,5,6,7,8,9,10] [(11,[12],[0,1,3,4,5,6,7,8,9])] rfl (by kernel_rfl) (by kernel_rfl) (by kernel_rfl) ?_
              refine wpQ_all _ rfl rfl ?_
              simp only [pick,pQ]
              iterate 11 (go_big_quiet_step (fail))
              refine wpQuiet_nil ?_
              refine wpRest_act rfl ?_
              go_wp2_with fail
              refine D.out.mono ?_
              rintro e w3 ⟨rfl,st3,hs3⟩
              have hs4:=(OwnL.of2 hs3)
              have HST3:=hQ (HST.out.drew.drew.trans st3)
              have HS4:=hQ hs4
              clear c1 k1 k8 z1 z0
              have c1:=hs4.facts
              simp only [CellsAt,Nat.reduceAdd,and_true] at c1
              clear st3 hs3 hs4 D HST
              go_wp2
              refine onN_mk ?_
              refine wpQ_all _ rfl rfl ?_
              simp only [pick,pQ]
              iterate 1 (go_big_quiet_step (fail))
              refine wpQuiet_nil ⟨?_,?_⟩
              · refine chk_all _ rfl rfl ?_
                simp only [pick,Same,pQ,and_true]
                repeat' (first | apply And.intro | (go_big_quiet_step (fail);exact wpQuiet_nil rfl))
              refine wpRest_nil ?_
              go_wp2
              go_roundw
              case measure=>simp [intOf];omega
              case rel=>exact⟨j+1,a,b+1,by omega,congrArg (Value.int .i64) (by omega),HST3.out.setCell _ _,by omega,by omega,by
               have h5:=(HS4.out.set B4 1 (.int .i64 (((b+1:Nat)):Int)))
               rw [show 60-b-1=60-(b+1) by omega] at h5
               exact h5.to⟩
            · have hqe:b=n:=by omega
              have hq2:¬((b:Int)<(n:Int)):=by omega
              have HST:=hQ hst
              have HS:=hQ hs
              clear hs hst
              go_wp2_with fail
              refine wp_region_staged (sz:=108) (by kernel_rfl) [0,1,2,3,4,5] [(6,[7],[0,1,2,3,4])] rfl (by kernel_rfl) (by kernel_rfl) (by kernel_rfl) ?_
              refine wpQ_all _ rfl rfl ?_
              simp only [pick,pQ]
              iterate 6 (go_big_quiet_step (fail))
              refine wpQuiet_nil ?_
              refine wpRest_act rfl ?_
              go_wp2
              refine onN_mk ?_
              refine wpQ_all _ rfl rfl ?_
              simp only [pick,pQ]
              iterate 1 (go_big_quiet_step (fail))
              refine wpQuiet_nil ⟨?_,?_⟩
              · refine chk_all _ rfl rfl ?_
                simp only [pick,Same,pQ,and_true]
                repeat' (first | apply And.intro | (go_big_quiet_step (fail);exact wpQuiet_nil rfl))
              refine wpRest_nil ?_
              go_wp2
              go_roundw
              case measure=>simp [intOf];omega
              case rel=>exact⟨j+1,a,b,by omega,congrArg (Value.int .i64) (by omega),HST.out.drew,ha,hb,HS.out.drew⟩
        · have hjn:j=ts.length:=by omega
          subst hjn
          have A0:=hQ (all_w w0 v0 u0 (60-a) _ _ (hs.pull1 (A1:=WorkR w0 v0 u0 (60-a))))
          have HST:=hQ hst
          clear hs hst
          go_wp2_with fail
          refine A0.out.mono ?_
          rintro e w3 ⟨rfl,st3,hs3⟩
          have hs4:=OwnL.of1 hs3
          clear c1
          have c1:=hs4.facts
          simp only [CellsAt,Nat.reduceAdd,and_true] at c1
          have A1:=hQ (all_w w1 v1 u1 (60-b) _ _ (hs4.pull1 (A1:=WorkR w1 v1 u1 (60-b))))
          have HST3:=hQ (HST.out.trans st3)
          clear hs3 hs4 st3 A0 HST
          go_wp2_with fail
          refine A1.out.mono ?_
          rintro e w4 ⟨rfl,st4,hs5⟩
          have X:=hQ (L.out _ _ (OwnL.of1 hs5).sat)
          have HST4:=hQ (HST3.out.trans st4)
          clear c1 hs5 st4 A1 HST3
          go_wp2_with fail
          refine X.out.mono ?_
          rintro e w5 ⟨rfl,st5,hs6⟩
          have HST5:=hQ (HST4.out.trans st5)
          have HF:=hQ ((OwnL.of0 hs6).end1 (A1:=Pr.own (heapOf w)))
          clear X HST4 st5 hs6
          go_wp2
          go_ret
          exact⟨rfl,HF.out,HST5.out⟩
end Go.Proofs.YtbobcmimkonnoaaGreat.Nz
