/- The set of runs: the makers of its iterators, the count of a run, and the iterator over gaps. By walks; the conditions stand as hypotheses. -/
import Derived.Test.YtbobcmimkonnoaaGreatVaultPlaysM03
import Derived.Test.YtbobcmimkonnoaaGreatVaultPlaysM01
set_option maxRecDepth 100000
set_option maxHeartbeats 16000000
namespace Go.Proofs.YtbobcmimkonnoaaGreat.Z2
open ChangeShapes WideShapes ChangeAt RowKit Sl Go.Shelf Y2
attribute [local go_sem] Oper.semAt_some
theorem within_any(p:Nat)(lo hi:Int)(w:World):
 Calls Tryz.prog 172 #[.pointer (some ⟨p,0,none⟩),.agg #[.int .i64 lo,.int .i64 hi]] w fun e w'=>
  e= .returned (.func (.func 174) #[] #[.pointer (some ⟨w.heap.size,0,none⟩),.pointer (some ⟨w.heap.size+1,0,none⟩)])∧
  (w.alloc (.cells #[.pointer (some ⟨p,0,none⟩)] 120)).alloc (.cells #[.int .i64 lo,.int .i64 hi] 177)=w':=by
 go_enter Tryz.func172,Tryz.ntmps172
 go_wp2
 go_ret
 exact⟨rfl,rfl⟩
theorem gaps_any(p:Nat)(lo hi:Int)(w:World):
 Calls Tryz.prog 166 #[.pointer (some ⟨p,0,none⟩),.agg #[.int .i64 lo,.int .i64 hi]] w fun e w'=>
  e= .returned (.func (.func 171) #[] #[.pointer (some ⟨w.heap.size,0,none⟩),.pointer (some ⟨w.heap.size+1,0,none⟩)])∧
  (w.alloc (.cells #[.pointer (some ⟨p,0,none⟩)] 120)).alloc (.cells #[.int .i64 lo,.int .i64 hi] 177)=w':=by
 go_enter Tryz.func166,Tryz.ntmps166
 go_wp2
 go_ret
 exact⟨rfl,rfl⟩
theorem with_any(n lo hi:Int)(w:World):
 Calls Tryz.prog 167 #[.int .u64 n,.agg #[.int .i64 lo,.int .i64 hi]] w fun e w'=>
  (∃m,e= .returned (.int .u64 m))∧w.alloc (.cells #[.int .i64 lo,.int .i64 hi] 177)=w':=by
 go_enter Tryz.func167,Tryz.ntmps167
 go_wp2
 all_goals
  go_ret
  exact⟨⟨_,rfl⟩,rfl⟩
abbrev YldBx(b l:Nat):Pr:=Pr.pts b (.cells #[.func (.yield l) #[] #[]] 188)
abbrev SomeRun(b:Nat):Pr:=Pr.ex fun lh:Int × Int=>RunBx b lh.1 lh.2
def GapsOwn(p bs br:Nat)(v:Value)(rs:List (Int × Int)):Pr:=(SomeRun br).star ((PtrBx bs p).star (SetAt p v rs))
abbrev GapsI(J:List (Int × Int)→Pr)(l y p bs br:Nat):Pr:=(Pr.ex fun L:List (Int × Int)=>J L).star ((YldBx y l).star ((SomeRun br).star (PtrBx bs p)))
abbrev GapsX(J Jx:List (Int × Int)→Pr)(p bs br:Nat):Pr:=(Pr.ex fun L:List (Int × Int)=>Pr.ex fun b:Bool=>if b then J L else Jx L).star ((SomeRun br).star (PtrBx bs p))
theorem gaps1(p bs br:Nat)(v:Value)(rs:List (Int × Int))(hl:rs.length≤4294967296):
 IterAny Tryz.prog 171 #[.pointer (some ⟨bs,0,none⟩),.pointer (some ⟨br,0,none⟩)] encRun (GapsOwn p bs br v rs):=by
 intro l J Jx W hY h0
 refine(callsIn_wide (n:=9)).1 (callsIn_of_wp_marks Tryz.func171 rfl trivial ?_ rfl)
 simp only [Tryz.ntmps171,List.size_toArray,List.length_cons,List.length_nil,Nat.reduceAdd,Nat.reduceSub,Array.replicate_succ,Array.replicate_zero,List.push_toArray,List.append_toArray,List.nil_append,List.cons_append]
 unfold GapsOwn at h0
 simp only [Pr.ex_star,Pr.star_ex,Sat.ex0] at h0
 obtain⟨⟨lo,hi⟩,h0⟩:=h0
 dsimp only at h0
 have h1:Sat ((RunBx br lo hi).star ((PtrBx bs p).star ((SetAt p v rs).star (J [])))) W:=h0.perm (by ac_rfl)
 have h2:Sat ((PtrBx bs p).star ((RunBx br lo hi).star ((SetAt p v rs).star (J [])))) W:=h0.perm (by ac_rfl)
 have q1:W.cell? ⟨br,0,none⟩=some (.int .i64 lo):=by rw [cell_of_heap h1.pts_heap];rfl
 have q2:W.cell? ⟨br,1,none⟩=some (.int .i64 hi):=by rw [cell_of_heap h1.pts_heap];rfl
 have q3:W.cell? ⟨bs,0,none⟩=some (.pointer (some ⟨p,0,none⟩)):=by rw [cell_of_heap h2.pts_heap];rfl
 have z1:=h1.lt
 have z2:=h2.lt
 have HY:=hQ hY
 have H2:=hQ h2
 clear hY h0 h1 h2
 gi_wp2_with (refine⟨trivial,?_⟩;gi_at_call 172;refine(callsIn_wide.2 (within_any _ _ _ _)).mono ?_;rintro e w' ⟨rfl,rfl⟩)
 have HS:Sat ((GapsI J l W.heap.size p bs br).star (WithinOwn p (W.heap.size+1) (W.heap.size+1+1) v rs lo hi))
  (((W.alloc (.cells #[.func (.yield l) #[] #[]] 188)).alloc (.cells #[.pointer (some ⟨p,0,none⟩)] 120)).alloc (.cells #[.int .i64 lo,.int .i64 hi] 177)):=by
  have h0:=((H2.out.alloc (.cells #[.func (.yield l) #[] #[]] 188)).alloc (.cells #[.pointer (some ⟨p,0,none⟩)] 120)).alloc (.cells #[.int .i64 lo,.int .i64 hi] 177)
  simp only [World.size_alloc] at h0
  have this:Sat ((RunBx (W.heap.size+1+1) lo hi).star ((PtrBx (W.heap.size+1) p).star ((YldBx W.heap.size l).star ((PtrBx bs p).star ((RunBx br lo hi).star ((SetAt p v rs).star (J []))))))) _:=h0
  unfold WithinOwn
  simp only [Pr.ex_star,Pr.star_ex,Sat.ex0]
  exact⟨[],(lo,hi),this.perm (by dsimp only;ac_rfl)⟩
 have HR:Stays W (((W.alloc (.cells #[.func (.yield l) #[] #[]] 188)).alloc (.cells #[.pointer (some ⟨p,0,none⟩)] 120)).alloc (.cells #[.int .i64 lo,.int .i64 hi] 177)):=(((Stays.refl W).alloc _).alloc _).alloc _
 obtain⟨W0,hW0⟩:∃W0,(((W.alloc (.cells #[.func (.yield l) #[] #[]] 188)).alloc (.cells #[.pointer (some ⟨p,0,none⟩)] 120)).alloc (.cells #[.int .i64 lo,.int .i64 hi] 177))=W0:=⟨_,rfl⟩
 rw [hW0] at HS HR ⊢
 have HR:=hQ HR
 clear hW0 H2 q1 q2 q3 z1 z2
 refine wpIn_rangeFunc_sl (gf:=174) rfl (enters_of Tryz.func174 (by kernel_rfl) rfl) (within1 p (W.heap.size+1) (W.heap.size+1+1) v rs lo hi hl) (fun _=>rfl)
  (fun _=>GapsI J l W.heap.size p bs br) (fun c _=>(Pr.pure (c= .ret)).star (GapsX J Jx p bs br)) HS ?round ?done ?stop
 case round=>
  intro l' pre x W1 F1 _ hs
  obtain⟨x1,x2⟩:=x
  have HS1:=hQ hs
  clear hs
  simp only [encRun]
  gi_wp2
  have hsA:=HS1.out.alloc (.cells #[.int .i64 x1,.int .i64 x2] 177)
  refine⟨(RunBx W1.heap.size x1 x2).star ((GapsI J l W.heap.size p bs br).star (WithinOwn p (W.heap.size+1) (W.heap.size+1+1) v rs lo hi)),(Stays.refl _).alloc _,hsA.perm (by ac_rfl),?_⟩
  clear hsA HS1 HS HR
  generalize W1.heap.size=B
  intro F2 W2 _ hs2
  have facts:∀(wx:World) (a b:Int) (L:List (Int × Int)),Sat ((J L).star ((RunBx br a b).star ((YldBx W.heap.size l).star ((RunBx B x1 x2).star ((PtrBx bs p).star ((WithinOwn p (W.heap.size+1) (W.heap.size+1+1) v rs lo hi).star F2)))))) wx→
   wx.cell? ⟨br,0,none⟩=some (.int .i64 a)∧wx.cell? ⟨br,1,none⟩=some (.int .i64 b)∧wx.cell? ⟨W.heap.size,0,none⟩=some (.func (.yield l) #[] #[])∧
   wx.cell? ⟨B,0,none⟩=some (.int .i64 x1)∧wx.cell? ⟨B,1,none⟩=some (.int .i64 x2)∧wx.frozen? ⟨br,0,none⟩=false:=by
   intro wx a b L h
   have h1:Sat ((RunBx br a b).star ((J L).star ((YldBx W.heap.size l).star ((RunBx B x1 x2).star ((PtrBx bs p).star ((WithinOwn p (W.heap.size+1) (W.heap.size+1+1) v rs lo hi).star F2)))))) wx:=h.perm (by ac_rfl)
   have h2:Sat ((YldBx W.heap.size l).star ((RunBx B x1 x2).star ((PtrBx bs p).star ((WithinOwn p (W.heap.size+1) (W.heap.size+1+1) v rs lo hi).star F2)))) wx:=h1.right.right
   refine⟨?_,?_,?_,?_,?_,frozen_of_heap h1.pts_heap 0⟩
   · rw [cell_of_heap h1.pts_heap];rfl
   · rw [cell_of_heap h1.pts_heap];rfl
   · rw [cell_of_heap h2.pts_heap];rfl
   · rw [cell_of_heap h2.right.pts_heap];rfl
   · rw [cell_of_heap h2.right.pts_heap];rfl
  simp only [Pr.ex_star,Pr.star_ex,Sat.ex0] at hs2
  obtain⟨L,⟨a,b⟩,hs2⟩:=hs2
  have hs3:Sat ((J L).star ((RunBx br a b).star ((YldBx W.heap.size l).star ((RunBx B x1 x2).star ((PtrBx bs p).star ((WithinOwn p (W.heap.size+1) (W.heap.size+1+1) v rs lo hi).star F2)))))) W2:=hs2.perm (by ac_rfl)
  obtain⟨r1,r2,r3,r4,r5,r6⟩:=facts _ _ _ _ hs3
  have HS3:=hQ hs3
  have HF:=hQ facts
  clear hs2 hs3 facts
  have fin:∀(e:Exit) (ac:Act) (wx w':World) (a b:Int) (L:List (Int × Int)),Sat ((J L).star ((RunBx br a b).star ((YldBx W.heap.size l).star ((RunBx B x1 x2).star ((PtrBx bs p).star ((WithinOwn p (W.heap.size+1) (W.heap.size+1+1) v rs lo hi).star F2)))))) wx→
   Stays W2 wx→((e= .normal∧w'=wx.setCell ⟨br,0,none⟩ (.int .i64 (wrap64 (x2+1))))∨(e= .ret∧w'=wx))→
   roundEnd (fun _=>GapsI J l W.heap.size p bs br) (fun c _=>(Pr.pure (c= .ret)).star (GapsX J Jx p bs br)) (WithinOwn p (W.heap.size+1) (W.heap.size+1+1) v rs lo hi) F2 (pre++ [(x1,x2)]) W2 e ac w':=by
   intro e ac wx w' a b L h hst he
   have h1:Sat ((RunBx br a b).star ((J L).star ((YldBx W.heap.size l).star ((RunBx B x1 x2).star ((PtrBx bs p).star ((WithinOwn p (W.heap.size+1) (W.heap.size+1+1) v rs lo hi).star F2)))))) wx:=h.perm (by ac_rfl)
   rcases he with⟨rfl,rfl⟩ | ⟨rfl,rfl⟩
   · refine⟨hst.setCell _ _,?_⟩
     have h2:=h1.setCell (i:=0) (.int .i64 (wrap64 (x2+1)))
     simp only [Pr.ex_star,Pr.star_ex,Sat.ex0]
     have h3:Sat ((RunBx B x1 x2).star (((J L).star ((YldBx W.heap.size l).star ((RunBx br (wrap64 (x2+1)) b).star (PtrBx bs p)))).star ((WithinOwn p (W.heap.size+1) (W.heap.size+1+1) v rs lo hi).star F2))) (wx.setCell ⟨br,0,none⟩ (.int .i64 (wrap64 (x2+1)))):=h2.perm (by show (RunBx br (wrap64 (x2+1)) b).star _=_;ac_rfl)
     exact⟨L,(wrap64 (x2+1),b),h3.right.perm (by dsimp only;ac_rfl)⟩
   · refine⟨hst,?_⟩
     have h3:Sat ((RunBx B x1 x2).star ((YldBx W.heap.size l).star (((J L).star ((RunBx br a b).star (PtrBx bs p))).star ((WithinOwn p (W.heap.size+1) (W.heap.size+1+1) v rs lo hi).star F2)))) w':=h.perm (by ac_rfl)
     refine Sat.perm (Sat.pure.2 ⟨rfl,?_⟩) (by rw [← Pr.star_assoc, ← Pr.star_assoc])
     simp only [Pr.ex_star,Pr.star_ex,Sat.ex0]
     exact⟨L,(a,b),true,h3.right.right.perm (by simp only [if_true])⟩
  have FIN:=hQ fin
  clear fin
  by_cases hgt:a<x1
  · gi_wp2
    refine at_yield_in (HY.out ((YldBx W.heap.size l).star ((RunBx B x1 x2).star ((PtrBx (W.heap.size+1) p).star ((RunBx (W.heap.size+1+1) lo hi).star F2)))) L (_,_) _ trivial ?_) ?_
    · unfold GapsOwn
      simp only [Pr.ex_star,Pr.star_ex,Sat.ex0]
      exact⟨(a,b),HS3.out.perm (by unfold WithinOwn;dsimp only;ac_rfl)⟩
    · rintro e w' ⟨hR',(⟨rfl,hs'⟩ | ⟨rfl,hs'⟩)⟩
      · unfold GapsOwn at hs'
        simp only [Pr.ex_star,Pr.star_ex,Sat.ex0] at hs'
        obtain⟨⟨a',b'⟩,hs'⟩:=hs'
        have hs4:Sat ((J (L++ [_])).star ((RunBx br a' b').star ((YldBx W.heap.size l).star ((RunBx B x1 x2).star ((PtrBx bs p).star ((WithinOwn p (W.heap.size+1) (W.heap.size+1+1) v rs lo hi).star F2)))))) w':=hs'.perm (by unfold WithinOwn;dsimp only;ac_rfl)
        clear hs' r1 r2 r3 r4 r5 r6
        obtain⟨r1,r2,r3,r4,r5,r6⟩:=HF.out _ _ _ _ hs4
        have HS4:=hQ hs4
        clear hs4
        refine⟨_,rfl,?_⟩
        gi_wp2
        all_goals first
         | exact FIN.out _ _ w' _ _ _ _ HS4.out hR' (.inr ⟨rfl,rfl⟩)
         | exact FIN.out _ _ w' _ _ _ _ HS4.out hR' (.inl ⟨rfl,rfl⟩)
      · unfold GapsOwn at hs'
        simp only [Pr.ex_star,Pr.star_ex,Sat.ex0] at hs'
        obtain⟨⟨a',b'⟩,hs'⟩:=hs'
        have HS4:=hQ hs'
        clear hs'
        refine⟨_,rfl,?_⟩
        gi_wp2
        refine⟨hR',?_⟩
        have h3:Sat ((RunBx B x1 x2).star ((YldBx W.heap.size l).star (((Jx (L++ [_])).star ((RunBx br a' b').star (PtrBx bs p))).star ((WithinOwn p (W.heap.size+1) (W.heap.size+1+1) v rs lo hi).star F2)))) w':=HS4.out.perm (by unfold WithinOwn;ac_rfl)
        refine Sat.perm (Sat.pure.2 ⟨rfl,?_⟩) (by rw [← Pr.star_assoc, ← Pr.star_assoc])
        simp only [Pr.ex_star,Pr.star_ex,Sat.ex0]
        exact⟨L++ [_],(a',b'),false,h3.right.right.perm (by simp only [Bool.false_eq_true,if_false];ac_rfl)⟩
  · gi_wp2
    all_goals try refine⟨fun _ h=>(by cases h),?_⟩
    all_goals gi_wp2
    all_goals first
     | exact FIN.out _ _ W2 _ _ _ _ HS3.out (Stays.refl _) (.inr ⟨rfl,rfl⟩)
     | exact FIN.out _ _ W2 _ _ _ _ HS3.out (Stays.refl _) (.inl ⟨rfl,rfl⟩)
 case done=>
  intro D xs W2 _ hst hs
  simp only [Pr.ex_star,Pr.star_ex,Sat.ex0] at hs
  obtain⟨L,⟨a,b⟩,hs⟩:=hs
  have h1:Sat ((RunBx br a b).star ((YldBx W.heap.size l).star ((J L).star ((PtrBx bs p).star ((WithinOwn p (W.heap.size+1) (W.heap.size+1+1) v rs lo hi).star (Pr.pts D (.deferred (some [])))))))) W2:=hs.perm (by ac_rfl)
  have r1:W2.cell? ⟨br,0,none⟩=some (.int .i64 a):=by rw [cell_of_heap h1.pts_heap];rfl
  have r2:W2.cell? ⟨br,1,none⟩=some (.int .i64 b):=by rw [cell_of_heap h1.pts_heap];rfl
  have r3:W2.cell? ⟨W.heap.size,0,none⟩=some (.func (.yield l) #[] #[]):=by rw [cell_of_heap h1.right.pts_heap];rfl
  have H1:=hQ h1
  clear h1 hs HS
  gi_wp2
  refine at_yield (HY.out ((YldBx W.heap.size l).star ((PtrBx (W.heap.size+1) p).star ((RunBx (W.heap.size+1+1) lo hi).star (Pr.pts D (.deferred (some [])))))) L (_,_) _ trivial ?_) ?_
  · unfold GapsOwn
    simp only [Pr.ex_star,Pr.star_ex,Sat.ex0]
    exact⟨(a,b),H1.out.perm (by unfold WithinOwn;dsimp only;ac_rfl)⟩
  · rintro e w' ⟨hR',hh⟩
    have hD:w'.heap[D]? =some (.deferred (some [])):=by
     rcases hh with⟨_,hh⟩ | ⟨_,hh⟩
     · exact(hh.perm (show _=(Pr.pts D (.deferred (some []))).star (((J (L++ [_])).star (GapsOwn p bs br v rs)).star ((YldBx W.heap.size l).star ((PtrBx (W.heap.size+1) p).star (RunBx (W.heap.size+1+1) lo hi)))) from by ac_rfl)).pts_heap
     · exact(hh.perm (show _=(Pr.pts D (.deferred (some []))).star (((Jx (L++ [_])).star (GapsOwn p bs br v rs)).star ((YldBx W.heap.size l).star ((PtrBx (W.heap.size+1) p).star (RunBx (W.heap.size+1+1) lo hi)))) from by ac_rfl)).pts_heap
    rcases hh with⟨rfl,hh⟩ | ⟨rfl,hh⟩
    all_goals
     have HH:=hQ hh
     have HD:=hQ hD
     clear hh hD
     refine⟨_,rfl,?_⟩
     gi_wp2
     first
      | refine marks_end1 (D:=D) rfl HD.out ⟨_,results_none rfl _ _ _,⟨_,rfl⟩,?_,?_⟩
      | refine marks_ret1 (D:=D) rfl HD.out ⟨_,results_none rfl _ _ _,⟨_,rfl⟩,?_,?_⟩
     · exact((HR.out.trans hst).trans hR').putObj _ _
     · first
       | exact .inl ⟨_,(((HH.out.perm (show _=(Pr.pts D (.deferred (some []))).star (((J (L++ [_])).star (GapsOwn p bs br v rs)).star ((YldBx W.heap.size l).star ((PtrBx (W.heap.size+1) p).star (RunBx (W.heap.size+1+1) lo hi)))) from by ac_rfl)).putObj (.deferred none)).right).left⟩
       | exact .inr ⟨_,(((HH.out.perm (show _=(Pr.pts D (.deferred (some []))).star (((Jx (L++ [_])).star (GapsOwn p bs br v rs)).star ((YldBx W.heap.size l).star ((PtrBx (W.heap.size+1) p).star (RunBx (W.heap.size+1+1) lo hi)))) from by ac_rfl)).putObj (.deferred none)).right).left⟩
 case stop=>
  intro D c pre W2 _ hst hs
  obtain⟨hc,hs'⟩:=Sat.pure.1 (hs.perm (show _=(Pr.pure (c= .ret)).star ((GapsX J Jx p bs br).star ((WithinOwn p (W.heap.size+1) (W.heap.size+1+1) v rs lo hi).star (Pr.pts D (.deferred (some []))))) from by ac_rfl))
  clear hs
  subst hc
  simp only [Pr.ex_star,Pr.star_ex,Sat.ex0] at hs'
  obtain⟨L,⟨a,b⟩,t,hs⟩:=hs'
  have hs1:Sat ((Pr.pts D (.deferred (some []))).star (((if t then J L else Jx L).star ((RunBx br a b).star (PtrBx bs p))).star (WithinOwn p (W.heap.size+1) (W.heap.size+1+1) v rs lo hi))) W2:=hs.perm (by ac_rfl)
  have HD:=hQ hs1.pts_heap
  have HH:=hQ (hs1.putObj (.deferred none)).right
  clear hs hs1 HS
  gi_wp2
  refine marks_ret1 (D:=D) rfl HD.out ⟨_,results_none rfl _ _ _,⟨_,rfl⟩,?_,?_⟩
  · exact(HR.out.trans hst).putObj _ _
  · have h2:Sat ((PtrBx (W.heap.size+1) p).star ((RunBx (W.heap.size+1+1) lo hi).star ((if t then J L else Jx L).star ((RunBx br a b).star ((PtrBx bs p).star (SetAt p v rs)))))) (W2.putObj D (.deferred none)):=HH.out.perm (by unfold WithinOwn;ac_rfl)
    have h3:=h2.right.right
    have h4:∀X:Pr,Sat (X.star ((RunBx br a b).star ((PtrBx bs p).star (SetAt p v rs)))) (W2.putObj D (.deferred none))→Sat (X.star (GapsOwn p bs br v rs)) (W2.putObj D (.deferred none)):=by
     intro X h
     unfold GapsOwn
     simp only [Pr.ex_star,Pr.star_ex,Sat.ex0]
     exact⟨(a,b),h⟩
    cases t with
    | true=>exact .inl ⟨L,trivial,h4 (J L) h3⟩
    | false=>exact .inr ⟨L,trivial,h4 (Jx L) h3⟩
end Go.Proofs.YtbobcmimkonnoaaGreat.Z2
namespace Go.Proofs.YtbobcmimkonnoaaGreat.D3
open ChangeShapes WideShapes ChangeAt RowKit Sl Y2
theorem infoRun:(Tryz.prog.info? 177).map (fun i=>(i.zero,i.size,i.bytes))=some (some (.agg #[.int .i64 0,.int .i64 0]),2,16):=by kernel_rfl
theorem zeros_run(n:Nat)(h0:0<n)(hn:n≤4294967296)(wx:World):∃(cap:Nat) (cells:List Value),n≤cap∧cap≤maxLen∧cells.length=cap*2∧
 (Builtin.append_ #[173,3] 173 #[.slice none 0 0,.int .i64 n]).run Tryz.prog wx= .ok (.slice (some ⟨wx.heap.size,0,none⟩) n cap) (wx.drew.alloc (.cells cells.toArray 177)):=by
 obtain⟨i0,hi,hz0,hz1,hz2⟩:=info_parts infoRun
 have hr:=Lib.run_append_nil_zeros (P:=Tryz.prog) wx 173 3 173 177 i0 (.agg #[.int .i64 0,.int .i64 0]) .i64 .i64 Tryz.underlying173 Tryz.underlying3 hi hz0 n h0 (by omega) (by omega) (by rw [hz2];omega)
 have hg:=grownCap_ge wx n 0 177
 refine⟨grownCap wx n 0 177,(Builtin.zeroCells #[.int .i64 0,.int .i64 0] n++Builtin.zeroCells #[.int .i64 0,.int .i64 0] (grownCap wx n 0 177-n)).toList,hg,grownCap_le_maxLen wx n 0 _ (by simp only [maxLen];omega),?_,hr⟩
 rw [Array.length_toList,Array.size_append,size_zeros,size_zeros]
 show n*2+ _*2=_
 omega
theorem grow_after {cap:Nat}{cells:List Value}{F:Pr}{w:World}(hF:Sat F w)(h1:cap≤maxLen)(h2:cells.length=cap*2):
 Sat ((Row 177 2 (.slice (some ⟨w.heap.size,0,none⟩) 0 cap) 0 []).star F) (w.drew.alloc (.cells cells.toArray 177)):=
 Row.mk' (sp:=cells) (by simp) (by simpa using h2) (Nat.zero_le _) h1 (by simpa using (hF.drew).alloc (.cells cells.toArray 177))
theorem grow_nil(n:Nat)(hn:n≤4294967296)(F:Pr)(w:World)(hF:Sat F w):
 Calls Tryz.prog 173 #[.slice none 0 0,.int .i64 n] w fun e w'=>
  ∃v,e= .returned v∧Sat ((Row 177 2 v 0 []).star F) w'∧Stays w w':=by
 by_cases h0:0<n
 · obtain⟨cap,cells,h1,h2,h3,h4⟩:=zeros_run n h0 hn w
   have HR:=hQ h4
   have HF:=hQ (grow_after hF h2 h3)
   clear h4 hF h3
   go_enter Tryz.func173,Tryz.ntmps173
   go_wp2_with (at_builtin;refine Lib.wpList_append_run _ rfl _ _ _ _ rfl _ _ rfl rfl _ _ HR.out ?_)
   go_ret
   exact⟨_,rfl,HF.out,((Stays.refl w).drew).alloc _⟩
 · have:n=0:=by omega
   subst this
   go_enter Tryz.func173,Tryz.ntmps173
   go_wp2
   go_ret
   exact⟨.slice none 0 0,rfl,by rw [Row.nil,Pr.emp_star];exact hF,Stays.refl w⟩
def total(ps:List (Value × Nat × List Value)):Nat:=(ps.map fun x=>x.2.1).sum
def flat(ps:List (Value × Nat × List Value)):List Value:=ps.flatMap fun x=>x.2.2
theorem total_snoc(ps:List (Value × Nat × List Value))(k:Nat)(h:k<ps.length):total (ps.take (k+1))=total (ps.take k)+ps[k].2.1:=by
 unfold total;rw [List.take_succ_eq_append_getElem h,List.map_append,List.sum_append];simp
theorem flat_snoc(ps:List (Value × Nat × List Value))(k:Nat)(h:k<ps.length):flat (ps.take (k+1))=flat (ps.take k)++ps[k].2.2:=by
 unfold flat;rw [List.take_succ_eq_append_getElem h,List.flatMap_append];simp
theorem total_le(ps:List (Value × Nat × List Value))(k:Nat):total (ps.take k)≤total ps:=by
 unfold total
 have:=List.take_append_drop k ps
 have h2:(ps.map fun x=>x.2.1).sum=((ps.take k).map fun x=>x.2.1).sum+((ps.drop k).map fun x=>x.2.1).sum:=by
  rw [← List.sum_append, ← List.map_append,this]
 omega
theorem concat_any(h:Hp)(sv:Value)(ps:List (Value × Nat × List Value))(hs:RowIn h 1 sv ps.length (ps.map fun x=>x.1))
 (hps:∀x∈ps,RowIn h 2 x.1 x.2.1 x.2.2∧∀u∈x.2.2,u.oneCell'=true) (hb:total ps≤4294967296) (hlen:ps.length≤65536) (F:Pr) (w:World) (hF:Sat ((Pr.own h).star F) w):
 Calls Tryz.prog 168 #[sv] w fun e w'=>
  ∃v,e= .returned v∧Sat ((Row 177 2 v (total ps) (flat ps)).star ((Pr.own h).star F)) w'∧Stays w w':=by
 obtain⟨_,a,c,rfl,_,_,hcell⟩:=hs
 have cells:∀(k:Nat) (hk:k<ps.length) (wx:World),h.le wx→∃b off a' n' c',a=some ⟨b,off,none⟩∧ps[k].1= .slice a' n' c'∧n'=ps[k].2.1∧wx.cell? ⟨b,off+k,none⟩=some (.slice a' n' c'):=by
  intro k hk wx hle
  obtain⟨b,off,e1,hc⟩:=hcell (by omega)
  obtain⟨_,a',c',e2,_⟩:=(hps _ (List.getElem_mem hk)).1
  refine⟨b,off,a',_,c',e1,e2,rfl,?_⟩
  refine Hp.cell_le hle ((hc k (by omega)).trans ?_)
  simp [hk,e2]
 have HC:=hQ cells
 have HL:=hQ hF
 have HPS:=hQ hps
 have hle:=hF.own
 clear cells hF hcell hps
 go_enter Tryz.func168,Tryz.ntmps168
 go_wp2
 go_loop [3,11] (fun s i=> ∃k:Nat,k≤ps.length∧i= .int .i64 k∧s= .int .i64 (total (ps.take k):Nat)) (fun _ i=>ps.length-(intOf i).toNat)
 case atStart=>exact⟨0,Nat.zero_le _,rfl,rfl⟩
 case round=>
  obtain⟨k,hk,rfl,rfl⟩:=hrel
  have ht:=total_le ps k
  by_cases hlt:k<ps.length
  · obtain⟨b,off,a',n',c',rfl,e2,e3,e4⟩:=HC.out k hlt w hle
    have hs1:=total_snoc ps k hlt
    have ht1:=total_le ps (k+1)
    rw [← e3] at hs1
    have HS1:=hQ hs1
    have hn':total (ps.take k)+n'≤4294967296:=by omega
    clear hs1 ht1 e2 e3
    generalize total (ps.take k)=tk at*
    go_wp2
    go_round
    case rel=>exact⟨k+1,by omega,by go_num,by rw [HS1.out];go_num⟩
    case measure=>simp [intOf];omega
  · have hkl:k=ps.length:=by omega
    subst hkl
    rw [List.take_length] at*
    go_wp2_with (go_at_call 173;refine(grow_nil _ hb _ _ HL.out).mono ?_;rintro e w' ⟨v0,rfl,hg,hst⟩)
    have HG:=hQ hg
    clear hg
    go_loopw [6,27] (fun v i wr=> ∃k:Nat,k≤ps.length∧i= .int .i64 k∧Stays w wr∧Sat ((Row 177 2 v (total (ps.take k)) (flat (ps.take k))).star ((Pr.own h).star F)) wr) (fun _ i _=>ps.length-(intOf i).toNat)
    case atStart=>exact⟨0,Nat.zero_le _,rfl,hst,HG.out⟩
    case round=>
     obtain⟨k,hk,rfl,hst2,hrow⟩:=hrel
     by_cases hlt:k<ps.length
     · have hle2:=hrow.right.own
       obtain⟨b,off,a',n',c',rfl,e2,e3,e4⟩:=HC.out k hlt _ hle2
       have hx:=HPS.out _ (List.getElem_mem hlt)
       rw [e2, ← e3] at hx
       have hs1:=total_snoc ps k hlt
       have hs2:=flat_snoc ps k hlt
       have ht1:=total_le ps (k+1)
       rw [← e3] at hs1
       have HS1:=hQ hs1
       have HS2:=hQ hs2
       have hn':total (ps.take k)+n'≤4294967296:=by omega
       have HX:=hQ hx
       have HROW:=hQ hrow
       have HLE:=hQ hle2
       have HI:=hQ (info_parts infoRun)
       clear hs1 hs2 ht1 e2 e3 hx hrow hle2 hst hle
       generalize total (ps.take k)=tk at*
       generalize ps[k].2.2=news at*
       obtain⟨i0,hi,hz0,hz1,hz2⟩:=HI.out
       go_wp2_with (at_builtin;refine wpList_append_row rfl _ _ _ rfl 177 i0 (.agg #[.int .i64 0,.int .i64 0]) 2 16 Tryz.underlying173 hi hz0 hz1 hz2 rfl _ _ _ rfl HROW.out h HLE.out _ _ _ rfl HX.out.1 HX.out.2 (by simp only [maxLen];omega) (by omega) ?_;intro v' w1 hsat hgr _;have HSAT:=hQ hsat;clear hsat)
       go_roundw
       case rel=>exact⟨k+1,by omega,by go_num,hst2.of_grown hgr,by rw [HS1.out,HS2.out];exact HSAT.out⟩
       case measure=>simp [intOf];omega
     · have hkl:k=ps.length:=by omega
       subst hkl
       rw [List.take_length] at hrow
       have HROW:=hQ hrow
       clear hrow
       go_wp2
       go_ret
       exact⟨_,rfl,HROW.out,hst2⟩
end Go.Proofs.YtbobcmimkonnoaaGreat.D3
