/- The set of runs: the iterator over what its runs have of a run. By a walk; the conditions stand as hypotheses. -/
import Derived.Test.YtkfjilnmnbeokaaGreatRows
import Derived.Test.YtkfjilnmnbeokaaGreatPutInPlaceM02
import Derived.ProofKit
import Derived.OpenShut
import Derived.WalkSpells
import Derived.WalkLawsBesides
import Derived.Lib.Hide
import Derived.Test.YtkfjilnmnbeokaaGreatPutInPlaceM01
set_option maxRecDepth 100000
set_option maxHeartbeats 16000000
namespace Go.Proofs.YtkfjilnmnbeokaaGreat.E2
open ChangeShapes WideShapes ChangeAt RowKit Sl Go.Shelf
attribute [local go_sem] Oper.semAt_some
def runCells(rs:List (Int × Int)):List Value:=rs.flatMap fun r=> [.int .i64 r.1,.int .i64 r.2]
theorem runCells_at(rs:List (Int × Int))(k:Nat)(h:k<rs.length):
 (runCells rs)[k*2]? =some (.int .i64 rs[k].1)∧(runCells rs)[k*2+1]? =some (.int .i64 rs[k].2):=by
 induction rs generalizing k with
 | nil=>simp at h
 | cons r rs ih=>
   cases k with
   | zero=>simp [runCells]
   | succ k=>
     have:=ih k (by simpa using h)
     have e1:(k+1)*2=k*2+2:=by omega
     rw [e1];simp only [runCells,List.flatMap_cons,List.cons_append,List.nil_append,List.getElem?_cons_succ,List.getElem_cons_succ];exact this
theorem runCells_append(a b:List (Int × Int)):runCells (a++b)=runCells a++runCells b:=by simp [runCells]
def I64(x:Int):Prop:= -9223372036854775808≤x∧x≤9223372036854775807
def SetAt(p:Nat)(v:Value)(rs:List (Int × Int)):Pr:=
 (Pr.pts p (.cells #[v] 202)).star (Row 204 2 v rs.length (runCells rs))
def cutRun(lo hi:Int)(x:Int × Int):Option (Int × Int):=if max x.1 lo≤min x.2 hi then some (max x.1 lo,min x.2 hi) else none
def cutRuns(rs:List (Int × Int))(lo hi:Int):List (Int × Int):=rs.filterMap (cutRun lo hi)
theorem cut_list {lo hi:Int}{x m:Int × Int}(h1:max x.1 lo=m.1)(h2:min x.2 hi=m.2)(h3:m.1≤m.2):(cutRun lo hi x).toList= [m]:=by
 unfold cutRun;rw [h1,h2,if_pos h3];rfl
def encRun(x:Int × Int):Array Value:= #[.agg #[.int .i64 x.1,.int .i64 x.2]]
abbrev PtrBx(b p:Nat):Pr:=Pr.pts b (.cells #[.pointer (some ⟨p,0,none⟩)] 114)
abbrev RunBx(b:Nat)(lo hi:Int):Pr:=Pr.pts b (.cells #[.int .i64 lo,.int .i64 hi] 204)
def WithinOwn(p bs br:Nat)(v:Value)(rs:List (Int × Int))(lo hi:Int):Pr:=
 (PtrBx bs p).star ((RunBx br lo hi).star (SetAt p v rs))
theorem within1(p bs br:Nat)(v:Value)(rs:List (Int × Int))(lo hi:Int)(hl:rs.length≤4294967296):
 IterSl Tryz.prog 183 #[.pointer (some ⟨bs,0,none⟩),.pointer (some ⟨br,0,none⟩)] encRun (cutRuns rs lo hi) (WithinOwn p bs br v rs lo hi):=by
 intro l J Jx W hY h0;refine(callsIn_wide (n:=3)).1 ?_;refine callsIn_of_wp Tryz.func183 rfl trivial ?_ rfl;simp only [Tryz.ntmps183,List.size_toArray,List.length_cons,List.length_nil,Nat.reduceAdd,Nat.reduceSub,Array.replicate_succ,Array.replicate_zero,List.push_toArray,List.append_toArray,List.nil_append,List.cons_append]
 have facts:∀(A:Pr) (wr:World),Sat (A.star (WithinOwn p bs br v rs lo hi)) wr→
  wr.cell? ⟨bs,0,none⟩=some (.pointer (some ⟨p,0,none⟩))∧wr.cell? ⟨br,0,none⟩=some (.int .i64 lo)∧wr.cell? ⟨br,1,none⟩=some (.int .i64 hi)∧
  wr.cell? ⟨p,0,none⟩=some v∧bs<wr.heap.size∧br<wr.heap.size∧p<wr.heap.size∧
  Sat ((Row 204 2 v rs.length (runCells rs)).star Pr.emp) wr:=by
  intro A wr h;unfold WithinOwn SetAt at h;have h1:Sat ((PtrBx bs p).star (A.star ((RunBx br lo hi).star ((Pr.pts p (.cells #[v] 202)).star (Row 204 2 v rs.length (runCells rs)))))) wr:=h.perm (by ac_rfl);have h2:Sat ((RunBx br lo hi).star (A.star ((Pr.pts p (.cells #[v] 202)).star (Row 204 2 v rs.length (runCells rs))))) wr:=h1.right.perm (by ac_rfl)
  have h3:Sat ((Pr.pts p (.cells #[v] 202)).star ((Row 204 2 v rs.length (runCells rs)).star A)) wr:=h2.right.perm (by ac_rfl);refine⟨by rw [cell_of_heap h1.pts_heap];rfl,by rw [cell_of_heap h2.pts_heap];rfl,by rw [cell_of_heap h2.pts_heap];rfl,by rw [cell_of_heap h3.pts_heap];rfl,h1.lt,h2.lt,h3.lt,?_⟩;rw [Pr.star_emp];exact h3.right.left
 obtain⟨a0,c0,rfl,hxl,hrow0⟩:=Row.read (facts _ _ h0).2.2.2.2.2.2.2;have F0:=facts _ _ h0;obtain⟨q1,_,_,q4,_⟩:=F0;have HF:=hQ facts;have HY:=hQ hY;have H0:=hQ h0;clear facts hY h0 hrow0 hxl;gi_wp2
 gi_loopw [11] (fun i wr=> ∃k:Nat,k≤rs.length∧i= .int .i64 k∧Stays W wr∧Sat ((J (cutRuns (rs.take k) lo hi)).star (WithinOwn p bs br (.slice a0 rs.length c0) rs lo hi)) wr) (fun i _=>rs.length-(intOf i).toNat)
 case atStart=>exact⟨0,Nat.zero_le _,rfl,Stays.refl _,H0.out⟩
 case round=>
  obtain⟨k,hk,rfl,hR,hs⟩:=hrel;by_cases hlt:k<rs.length
  · obtain⟨q1,q2,q3,q4,z1,z2,z3,hr⟩:=HF.out _ _ hs
    obtain⟨a1,c1,e1,_,hrow⟩:=Row.read hr;cases e1;obtain⟨b,rfl,hc⟩:=hrow (by omega);have hk1:=(runCells_at rs k hlt).1;have hk2:=(runCells_at rs k hlt).2;have c1:=(hc (k*2) (by omega)).1.trans hk1;have c2:=(hc (k*2+1) (by omega)).1.trans hk2;have zb:=World.block_lt_of_cell? _ _ c1
    have hcat:cutRuns (rs.take (k+1)) lo hi=cutRuns (rs.take k) lo hi++(cutRun lo hi rs[k]).toList:=by
     unfold cutRuns;rw [List.take_succ_eq_append_getElem hlt,List.filterMap_append];cases h:cutRun lo hi rs[k]<;>simp [h]
    have hpre:cutRuns (rs.take (k+1)) lo hi<+:cutRuns rs lo hi:=by
     unfold cutRuns;exact(List.take_prefix _ _).filterMap _
    rw [hcat] at hpre;have HC:=hQ hcat;have HP:=hQ hpre;clear hcat hpre;have HS:=hQ hs;clear hc hk1 hk2 hs hr hrow;generalize rs[k]=x at*;obtain⟨x1,x2⟩:=x;dsimp only at c1 c2;gi_wp2
    gi_region
    all_goals gi_wp2
    all_goals first
     | (refine⟨fun _ h=>(by cases h),?_⟩
        gi_wp2
        go_roundw
        case rel=>
         refine⟨k+1,by omega,by go_num,((hR.alloc _).drew),?_⟩
         have hn:cutRun lo hi (x1,x2)=none:=by simp only [cutRun];rw [if_neg (by omega)]
         rw [HC.out,hn]
         simpa using (HS.out.alloc _).right.drew
        case measure=>simp [intOf];omega)
     | (refine at_yield (HY.out Pr.emp (cutRuns (rs.take k) lo hi) (_,_) _ ?_ (((HS.out.alloc _).right.drew).perm (Pr.star_emp _).symm)) ?_
        · rw [← cut_list (lo:=lo) (hi:=hi) (x:=(x1,x2)) (by simp only [];omega) (by simp only [];omega) (by simp only [];omega)]
          exact HP.out
        · rintro e w' ⟨hR',(⟨rfl,hs'⟩ | ⟨rfl,hs'⟩)⟩<;>rw [Pr.star_emp] at hs'
          · refine⟨_,rfl,?_⟩
            rw [← cut_list (lo:=lo) (hi:=hi) (x:=(x1,x2)) (by simp only [];omega) (by simp only [];omega) (by simp only [];omega), ← HC.out] at hs'
            have HS':=hQ hs'
            clear hs'
            gi_wp2
            go_roundw
            case rel=>exact⟨k+1,by omega,by go_num,((hR.alloc _).drew).trans hR',HS'.out⟩
            case measure=>simp [intOf];omega
          · refine⟨_,rfl,?_⟩
            rw [← cut_list (lo:=lo) (hi:=hi) (x:=(x1,x2)) (by simp only [];omega) (by simp only [];omega) (by simp only [];omega)] at hs'
            have HS':=hQ hs'
            clear hs'
            gi_wp2
            refine bodyPost_ret (results_none rfl _ _ _) rfl ?_
            exact⟨⟨_,rfl⟩,((hR.alloc _).drew).trans hR',.inr ⟨_,HP.out,HS'.out⟩⟩)
  · gi_wp2
    go_end0
    have:k=rs.length:=by omega
    subst this;refine⟨⟨_,rfl⟩,hR,.inl ⟨_,rfl,?_⟩⟩;simpa using hs
end Go.Proofs.YtkfjilnmnbeokaaGreat.E2
namespace Go.Proofs.YtkfjilnmnbeokaaGreat.V2
open ChangeShapes WideShapes ChangeAt RowKit Sl Go.Shelf E2
attribute [local go_sem] Oper.semAt_some
theorem within_any(p:Nat)(lo hi:Int)(w:World):
 Calls Tryz.prog 177 #[.pointer (some ⟨p,0,none⟩),.agg #[.int .i64 lo,.int .i64 hi]] w fun e w'=>
  e= .returned (.func (.func 183) #[] #[.pointer (some ⟨w.heap.size,0,none⟩),.pointer (some ⟨w.heap.size+1,0,none⟩)])∧
  (w.alloc (.cells #[.pointer (some ⟨p,0,none⟩)] 114)).alloc (.cells #[.int .i64 lo,.int .i64 hi] 204)=w':=by
 go_enter Tryz.func177,Tryz.ntmps177
 go_wp2;go_ret;exact⟨rfl,rfl⟩
theorem gaps_any(p:Nat)(lo hi:Int)(w:World):
 Calls Tryz.prog 163 #[.pointer (some ⟨p,0,none⟩),.agg #[.int .i64 lo,.int .i64 hi]] w fun e w'=>
  e= .returned (.func (.func 176) #[] #[.pointer (some ⟨w.heap.size,0,none⟩),.pointer (some ⟨w.heap.size+1,0,none⟩)])∧
  (w.alloc (.cells #[.pointer (some ⟨p,0,none⟩)] 114)).alloc (.cells #[.int .i64 lo,.int .i64 hi] 204)=w':=by
 go_enter Tryz.func163,Tryz.ntmps163
 go_wp2;go_ret;exact⟨rfl,rfl⟩
theorem with_any(n lo hi:Int)(w:World):
 Calls Tryz.prog 164 #[.int .u64 n,.agg #[.int .i64 lo,.int .i64 hi]] w fun e w'=>
  (∃m,e= .returned (.int .u64 m))∧w.alloc (.cells #[.int .i64 lo,.int .i64 hi] 204)=w':=by
 go_enter Tryz.func164,Tryz.ntmps164
 go_wp2
 all_goals
  go_ret;exact⟨⟨_,rfl⟩,rfl⟩
abbrev YldBx(b l:Nat):Pr:=Pr.pts b (.cells #[.func (.yield l) #[] #[]] 217)
abbrev SomeRun(b:Nat):Pr:=Pr.ex fun lh:Int × Int=>RunBx b lh.1 lh.2
def GapsOwn(p bs br:Nat)(v:Value)(rs:List (Int × Int)):Pr:=(SomeRun br).star ((PtrBx bs p).star (SetAt p v rs))
abbrev GapsI(J:List (Int × Int)→Pr)(l y p bs br:Nat):Pr:=(Pr.ex fun L:List (Int × Int)=>J L).star ((YldBx y l).star ((SomeRun br).star (PtrBx bs p)))
abbrev GapsX(J Jx:List (Int × Int)→Pr)(p bs br:Nat):Pr:=(Pr.ex fun L:List (Int × Int)=>Pr.ex fun b:Bool=>if b then J L else Jx L).star ((SomeRun br).star (PtrBx bs p))
theorem gaps1(p bs br:Nat)(v:Value)(rs:List (Int × Int))(hl:rs.length≤4294967296):
 IterAny Tryz.prog 176 #[.pointer (some ⟨bs,0,none⟩),.pointer (some ⟨br,0,none⟩)] encRun (GapsOwn p bs br v rs):=by
 intro l J Jx W hY h0;refine(callsIn_wide (n:=9)).1 (callsIn_of_wp_marks Tryz.func176 rfl trivial ?_ rfl);simp only [Tryz.ntmps176,List.size_toArray,List.length_cons,List.length_nil,Nat.reduceAdd,Nat.reduceSub,Array.replicate_succ,Array.replicate_zero,List.push_toArray,List.append_toArray,List.nil_append,List.cons_append];unfold GapsOwn at h0;simp only [Pr.ex_star,Pr.star_ex,Sat.ex0] at h0
 obtain⟨⟨lo,hi⟩,h0⟩:=h0;dsimp only at h0;have h1:Sat ((RunBx br lo hi).star ((PtrBx bs p).star ((SetAt p v rs).star (J [])))) W:=h0.perm (by ac_rfl);have h2:Sat ((PtrBx bs p).star ((RunBx br lo hi).star ((SetAt p v rs).star (J [])))) W:=h0.perm (by ac_rfl);have q1:W.cell? ⟨br,0,none⟩=some (.int .i64 lo):=by rw [cell_of_heap h1.pts_heap];rfl
 have q2:W.cell? ⟨br,1,none⟩=some (.int .i64 hi):=by rw [cell_of_heap h1.pts_heap];rfl
 have q3:W.cell? ⟨bs,0,none⟩=some (.pointer (some ⟨p,0,none⟩)):=by rw [cell_of_heap h2.pts_heap];rfl
 have z1:=h1.lt;have z2:=h2.lt;have HY:=hQ hY;have H2:=hQ h2;clear hY h0 h1 h2;gi_wp2_with (refine⟨trivial,?_⟩;gi_at_call 177;refine(callsIn_wide.2 (within_any _ _ _ _)).mono ?_;rintro e w' ⟨rfl,rfl⟩)
 have HS:Sat ((GapsI J l W.heap.size p bs br).star (WithinOwn p (W.heap.size+1) (W.heap.size+1+1) v rs lo hi))
  (((W.alloc (.cells #[.func (.yield l) #[] #[]] 217)).alloc (.cells #[.pointer (some ⟨p,0,none⟩)] 114)).alloc (.cells #[.int .i64 lo,.int .i64 hi] 204)):=by
  have h0:=((H2.out.alloc (.cells #[.func (.yield l) #[] #[]] 217)).alloc (.cells #[.pointer (some ⟨p,0,none⟩)] 114)).alloc (.cells #[.int .i64 lo,.int .i64 hi] 204);simp only [World.size_alloc] at h0;have this:Sat ((RunBx (W.heap.size+1+1) lo hi).star ((PtrBx (W.heap.size+1) p).star ((YldBx W.heap.size l).star ((PtrBx bs p).star ((RunBx br lo hi).star ((SetAt p v rs).star (J []))))))) _:=h0
  unfold WithinOwn;simp only [Pr.ex_star,Pr.star_ex,Sat.ex0];exact⟨[],(lo,hi),this.perm (by dsimp only;ac_rfl)⟩
 have HR:Stays W (((W.alloc (.cells #[.func (.yield l) #[] #[]] 217)).alloc (.cells #[.pointer (some ⟨p,0,none⟩)] 114)).alloc (.cells #[.int .i64 lo,.int .i64 hi] 204)):=(((Stays.refl W).alloc _).alloc _).alloc _;obtain⟨W0,hW0⟩:∃W0,(((W.alloc (.cells #[.func (.yield l) #[] #[]] 217)).alloc (.cells #[.pointer (some ⟨p,0,none⟩)] 114)).alloc (.cells #[.int .i64 lo,.int .i64 hi] 204))=W0:=⟨_,rfl⟩
 rw [hW0] at HS HR ⊢;have HR:=hQ HR;clear hW0 H2 q1 q2 q3 z1 z2
 refine wpIn_rangeFunc_sl (gf:=183) rfl (enters_of Tryz.func183 (by kernel_rfl) rfl) (within1 p (W.heap.size+1) (W.heap.size+1+1) v rs lo hi hl) (fun _=>rfl)
  (fun _=>GapsI J l W.heap.size p bs br) (fun c _=>(Pr.pure (c= .ret)).star (GapsX J Jx p bs br)) HS ?round ?done ?stop
 case round=>
  intro l' pre x W1 F1 _ hs;obtain⟨x1,x2⟩:=x;have HS1:=hQ hs;clear hs;simp only [encRun];gi_wp2
  have hsA:=HS1.out.alloc (.cells #[.int .i64 x1,.int .i64 x2] 204);refine⟨(RunBx W1.heap.size x1 x2).star ((GapsI J l W.heap.size p bs br).star (WithinOwn p (W.heap.size+1) (W.heap.size+1+1) v rs lo hi)),(Stays.refl _).alloc _,hsA.perm (by ac_rfl),?_⟩;clear hsA HS1 HS HR;generalize W1.heap.size=B;intro F2 W2 _ hs2
  have facts:∀(wx:World) (a b:Int) (L:List (Int × Int)),Sat ((J L).star ((RunBx br a b).star ((YldBx W.heap.size l).star ((RunBx B x1 x2).star ((PtrBx bs p).star ((WithinOwn p (W.heap.size+1) (W.heap.size+1+1) v rs lo hi).star F2)))))) wx→
   wx.cell? ⟨br,0,none⟩=some (.int .i64 a)∧wx.cell? ⟨br,1,none⟩=some (.int .i64 b)∧wx.cell? ⟨W.heap.size,0,none⟩=some (.func (.yield l) #[] #[])∧
   wx.cell? ⟨B,0,none⟩=some (.int .i64 x1)∧wx.cell? ⟨B,1,none⟩=some (.int .i64 x2)∧wx.frozen? ⟨br,0,none⟩=false:=by
   intro wx a b L h;have h1:Sat ((RunBx br a b).star ((J L).star ((YldBx W.heap.size l).star ((RunBx B x1 x2).star ((PtrBx bs p).star ((WithinOwn p (W.heap.size+1) (W.heap.size+1+1) v rs lo hi).star F2)))))) wx:=h.perm (by ac_rfl)
   have h2:Sat ((YldBx W.heap.size l).star ((RunBx B x1 x2).star ((PtrBx bs p).star ((WithinOwn p (W.heap.size+1) (W.heap.size+1+1) v rs lo hi).star F2)))) wx:=h1.right.right;refine⟨?_,?_,?_,?_,?_,frozen_of_heap h1.pts_heap 0⟩
   · rw [cell_of_heap h1.pts_heap];rfl
   · rw [cell_of_heap h1.pts_heap];rfl
   · rw [cell_of_heap h2.pts_heap];rfl
   · rw [cell_of_heap h2.right.pts_heap];rfl
   · rw [cell_of_heap h2.right.pts_heap];rfl
  simp only [Pr.ex_star,Pr.star_ex,Sat.ex0] at hs2;obtain⟨L,⟨a,b⟩,hs2⟩:=hs2;have hs3:Sat ((J L).star ((RunBx br a b).star ((YldBx W.heap.size l).star ((RunBx B x1 x2).star ((PtrBx bs p).star ((WithinOwn p (W.heap.size+1) (W.heap.size+1+1) v rs lo hi).star F2)))))) W2:=hs2.perm (by ac_rfl);obtain⟨r1,r2,r3,r4,r5,r6⟩:=facts _ _ _ _ hs3;have HS3:=hQ hs3;have HF:=hQ facts;clear hs2 hs3 facts
  have fin:∀(e:Exit) (ac:Act) (wx w':World) (a b:Int) (L:List (Int × Int)),Sat ((J L).star ((RunBx br a b).star ((YldBx W.heap.size l).star ((RunBx B x1 x2).star ((PtrBx bs p).star ((WithinOwn p (W.heap.size+1) (W.heap.size+1+1) v rs lo hi).star F2)))))) wx→
   Stays W2 wx→((e= .normal∧w'=wx.setCell ⟨br,0,none⟩ (.int .i64 (wrap64 (x2+1))))∨(e= .ret∧w'=wx))→
   roundEnd (fun _=>GapsI J l W.heap.size p bs br) (fun c _=>(Pr.pure (c= .ret)).star (GapsX J Jx p bs br)) (WithinOwn p (W.heap.size+1) (W.heap.size+1+1) v rs lo hi) F2 (pre++ [(x1,x2)]) W2 e ac w':=by
   intro e ac wx w' a b L h hst he;have h1:Sat ((RunBx br a b).star ((J L).star ((YldBx W.heap.size l).star ((RunBx B x1 x2).star ((PtrBx bs p).star ((WithinOwn p (W.heap.size+1) (W.heap.size+1+1) v rs lo hi).star F2)))))) wx:=h.perm (by ac_rfl);rcases he with⟨rfl,rfl⟩ | ⟨rfl,rfl⟩
   · refine⟨hst.setCell _ _,?_⟩
     have h2:=h1.setCell (i:=0) (.int .i64 (wrap64 (x2+1)));simp only [Pr.ex_star,Pr.star_ex,Sat.ex0]
     have h3:Sat ((RunBx B x1 x2).star (((J L).star ((YldBx W.heap.size l).star ((RunBx br (wrap64 (x2+1)) b).star (PtrBx bs p)))).star ((WithinOwn p (W.heap.size+1) (W.heap.size+1+1) v rs lo hi).star F2))) (wx.setCell ⟨br,0,none⟩ (.int .i64 (wrap64 (x2+1)))):=h2.perm (by show (RunBx br (wrap64 (x2+1)) b).star _=_;ac_rfl);exact⟨L,(wrap64 (x2+1),b),h3.right.perm (by dsimp only;ac_rfl)⟩
   · refine⟨hst,?_⟩
     have h3:Sat ((RunBx B x1 x2).star ((YldBx W.heap.size l).star (((J L).star ((RunBx br a b).star (PtrBx bs p))).star ((WithinOwn p (W.heap.size+1) (W.heap.size+1+1) v rs lo hi).star F2)))) w':=h.perm (by ac_rfl);refine Sat.perm (Sat.pure.2 ⟨rfl,?_⟩) (by rw [← Pr.star_assoc, ← Pr.star_assoc]);simp only [Pr.ex_star,Pr.star_ex,Sat.ex0]
     exact⟨L,(a,b),true,h3.right.right.perm (by simp only [if_true])⟩
  have FIN:=hQ fin;clear fin;by_cases hgt:a<x1
  · gi_wp2
    refine at_yield_in (HY.out ((YldBx W.heap.size l).star ((RunBx B x1 x2).star ((PtrBx (W.heap.size+1) p).star ((RunBx (W.heap.size+1+1) lo hi).star F2)))) L (_,_) _ trivial ?_) ?_
    · unfold GapsOwn
      simp only [Pr.ex_star,Pr.star_ex,Sat.ex0];exact⟨(a,b),HS3.out.perm (by unfold WithinOwn;dsimp only;ac_rfl)⟩
    · rintro e w' ⟨hR',(⟨rfl,hs'⟩ | ⟨rfl,hs'⟩)⟩
      · unfold GapsOwn at hs'
        simp only [Pr.ex_star,Pr.star_ex,Sat.ex0] at hs';obtain⟨⟨a',b'⟩,hs'⟩:=hs';have hs4:Sat ((J (L++ [_])).star ((RunBx br a' b').star ((YldBx W.heap.size l).star ((RunBx B x1 x2).star ((PtrBx bs p).star ((WithinOwn p (W.heap.size+1) (W.heap.size+1+1) v rs lo hi).star F2)))))) w':=hs'.perm (by unfold WithinOwn;dsimp only;ac_rfl);clear hs' r1 r2 r3 r4 r5 r6
        obtain⟨r1,r2,r3,r4,r5,r6⟩:=HF.out _ _ _ _ hs4;have HS4:=hQ hs4;clear hs4;refine⟨_,rfl,?_⟩;gi_wp2
        all_goals first
         | exact FIN.out _ _ w' _ _ _ _ HS4.out hR' (.inr ⟨rfl,rfl⟩)
         | exact FIN.out _ _ w' _ _ _ _ HS4.out hR' (.inl ⟨rfl,rfl⟩)
      · unfold GapsOwn at hs'
        simp only [Pr.ex_star,Pr.star_ex,Sat.ex0] at hs';obtain⟨⟨a',b'⟩,hs'⟩:=hs';have HS4:=hQ hs';clear hs';refine⟨_,rfl,?_⟩;gi_wp2
        refine⟨hR',?_⟩;have h3:Sat ((RunBx B x1 x2).star ((YldBx W.heap.size l).star (((Jx (L++ [_])).star ((RunBx br a' b').star (PtrBx bs p))).star ((WithinOwn p (W.heap.size+1) (W.heap.size+1+1) v rs lo hi).star F2)))) w':=HS4.out.perm (by unfold WithinOwn;ac_rfl);refine Sat.perm (Sat.pure.2 ⟨rfl,?_⟩) (by rw [← Pr.star_assoc, ← Pr.star_assoc]);simp only [Pr.ex_star,Pr.star_ex,Sat.ex0]
        exact⟨L++ [_],(a',b'),false,h3.right.right.perm (by simp only [Bool.false_eq_true,if_false];ac_rfl)⟩
  · gi_wp2
    all_goals try refine⟨fun _ h=>(by cases h),?_⟩
    all_goals gi_wp2
    all_goals first
     | exact FIN.out _ _ W2 _ _ _ _ HS3.out (Stays.refl _) (.inr ⟨rfl,rfl⟩)
     | exact FIN.out _ _ W2 _ _ _ _ HS3.out (Stays.refl _) (.inl ⟨rfl,rfl⟩)
 case done=>
  intro D xs W2 _ hst hs;simp only [Pr.ex_star,Pr.star_ex,Sat.ex0] at hs;obtain⟨L,⟨a,b⟩,hs⟩:=hs;have h1:Sat ((RunBx br a b).star ((YldBx W.heap.size l).star ((J L).star ((PtrBx bs p).star ((WithinOwn p (W.heap.size+1) (W.heap.size+1+1) v rs lo hi).star (Pr.pts D (.deferred (some [])))))))) W2:=hs.perm (by ac_rfl);have r1:W2.cell? ⟨br,0,none⟩=some (.int .i64 a):=by rw [cell_of_heap h1.pts_heap];rfl
  have r2:W2.cell? ⟨br,1,none⟩=some (.int .i64 b):=by rw [cell_of_heap h1.pts_heap];rfl
  have r3:W2.cell? ⟨W.heap.size,0,none⟩=some (.func (.yield l) #[] #[]):=by rw [cell_of_heap h1.right.pts_heap];rfl
  have H1:=hQ h1;clear h1 hs HS;gi_wp2
  refine at_yield (HY.out ((YldBx W.heap.size l).star ((PtrBx (W.heap.size+1) p).star ((RunBx (W.heap.size+1+1) lo hi).star (Pr.pts D (.deferred (some [])))))) L (_,_) _ trivial ?_) ?_
  · unfold GapsOwn
    simp only [Pr.ex_star,Pr.star_ex,Sat.ex0];exact⟨(a,b),H1.out.perm (by unfold WithinOwn;dsimp only;ac_rfl)⟩
  · rintro e w' ⟨hR',hh⟩
    have hD:w'.heap[D]? =some (.deferred (some [])):=by
     rcases hh with⟨_,hh⟩ | ⟨_,hh⟩
     · exact(hh.perm (show _=(Pr.pts D (.deferred (some []))).star (((J (L++ [_])).star (GapsOwn p bs br v rs)).star ((YldBx W.heap.size l).star ((PtrBx (W.heap.size+1) p).star (RunBx (W.heap.size+1+1) lo hi)))) from by ac_rfl)).pts_heap
     · exact(hh.perm (show _=(Pr.pts D (.deferred (some []))).star (((Jx (L++ [_])).star (GapsOwn p bs br v rs)).star ((YldBx W.heap.size l).star ((PtrBx (W.heap.size+1) p).star (RunBx (W.heap.size+1+1) lo hi)))) from by ac_rfl)).pts_heap
    rcases hh with⟨rfl,hh⟩ | ⟨rfl,hh⟩
    all_goals
     have HH:=hQ hh;have HD:=hQ hD;clear hh hD;refine⟨_,rfl,?_⟩;gi_wp2
     first
      | refine marks_end1 (D:=D) rfl HD.out ⟨_,results_none rfl _ _ _,⟨_,rfl⟩,?_,?_⟩
      | refine marks_ret1 (D:=D) rfl HD.out ⟨_,results_none rfl _ _ _,⟨_,rfl⟩,?_,?_⟩
     · exact((HR.out.trans hst).trans hR').putObj _ _
     · first
       | exact .inl ⟨_,(((HH.out.perm (show _=(Pr.pts D (.deferred (some []))).star (((J (L++ [_])).star (GapsOwn p bs br v rs)).star ((YldBx W.heap.size l).star ((PtrBx (W.heap.size+1) p).star (RunBx (W.heap.size+1+1) lo hi)))) from by ac_rfl)).putObj (.deferred none)).right).left⟩
       | exact .inr ⟨_,(((HH.out.perm (show _=(Pr.pts D (.deferred (some []))).star (((Jx (L++ [_])).star (GapsOwn p bs br v rs)).star ((YldBx W.heap.size l).star ((PtrBx (W.heap.size+1) p).star (RunBx (W.heap.size+1+1) lo hi)))) from by ac_rfl)).putObj (.deferred none)).right).left⟩
 case stop=>
  intro D c pre W2 _ hst hs;obtain⟨hc,hs'⟩:=Sat.pure.1 (hs.perm (show _=(Pr.pure (c= .ret)).star ((GapsX J Jx p bs br).star ((WithinOwn p (W.heap.size+1) (W.heap.size+1+1) v rs lo hi).star (Pr.pts D (.deferred (some []))))) from by ac_rfl));clear hs;subst hc;simp only [Pr.ex_star,Pr.star_ex,Sat.ex0] at hs';obtain⟨L,⟨a,b⟩,t,hs⟩:=hs'
  have hs1:Sat ((Pr.pts D (.deferred (some []))).star (((if t then J L else Jx L).star ((RunBx br a b).star (PtrBx bs p))).star (WithinOwn p (W.heap.size+1) (W.heap.size+1+1) v rs lo hi))) W2:=hs.perm (by ac_rfl);have HD:=hQ hs1.pts_heap;have HH:=hQ (hs1.putObj (.deferred none)).right;clear hs hs1 HS;gi_wp2
  refine marks_ret1 (D:=D) rfl HD.out ⟨_,results_none rfl _ _ _,⟨_,rfl⟩,?_,?_⟩
  · exact(HR.out.trans hst).putObj _ _
  · have h2:Sat ((PtrBx (W.heap.size+1) p).star ((RunBx (W.heap.size+1+1) lo hi).star ((if t then J L else Jx L).star ((RunBx br a b).star ((PtrBx bs p).star (SetAt p v rs)))))) (W2.putObj D (.deferred none)):=HH.out.perm (by unfold WithinOwn;ac_rfl)
    have h3:=h2.right.right
    have h4:∀X:Pr,Sat (X.star ((RunBx br a b).star ((PtrBx bs p).star (SetAt p v rs)))) (W2.putObj D (.deferred none))→Sat (X.star (GapsOwn p bs br v rs)) (W2.putObj D (.deferred none)):=by
     intro X h;unfold GapsOwn;simp only [Pr.ex_star,Pr.star_ex,Sat.ex0];exact⟨(a,b),h⟩
    cases t with
    | true=>exact .inl ⟨L,trivial,h4 (J L) h3⟩
    | false=>exact .inr ⟨L,trivial,h4 (Jx L) h3⟩
end Go.Proofs.YtkfjilnmnbeokaaGreat.V2
