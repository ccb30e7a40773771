/- The set of runs: a run is taken out; the lowest number; a new set. By walks; the conditions stand as hypotheses. -/
import Derived.Test.YtpfafhklppondaaGreatVaultCountsM08
import Derived.Test.YtpfafhklppondaaGreatVaultCountsM02
import Derived.Test.YtpfafhklppondaaGreatVaultCountsM01
set_option maxRecDepth 100000
set_option maxHeartbeats 16000000
namespace Go.Proofs.YtpfafhklppondaaGreat.M3
open ChangeShapes WideShapes ChangeAt RowKit Sl Go.Shelf N2 J3 K3 L3
attribute [local go_sem] Oper.semAt_some
def remOne(lo hi:Int)(x:Int × Int):List (Int × Int):=
 if x.2<lo∨hi<x.1 then [x] else(if x.1<lo then [(x.1,lo-1)] else [])++(if hi<x.2 then [(hi+1,x.2)] else [])
def remRuns(rs:List (Int × Int))(lo hi:Int):List (Int × Int):=rs.flatMap (remOne lo hi)
theorem remOne_len(lo hi:Int)(x:Int × Int):(remOne lo hi x).length≤2:=by
 unfold remOne;split
 · simp
 · split<;>split<;>simp
theorem remRuns_snoc(rs:List (Int × Int))(lo hi:Int)(k:Nat)(h:k<rs.length):remRuns (rs.take (k+1)) lo hi=remRuns (rs.take k) lo hi++remOne lo hi rs[k]:=by
 unfold remRuns;rw [List.take_succ_eq_append_getElem h,List.flatMap_append];simp
theorem remRuns_len(rs:List (Int × Int))(lo hi:Int):(remRuns rs lo hi).length≤rs.length*2:=by
 unfold remRuns;induction rs with
 | nil=>simp
 | cons x rs ih=>have:=remOne_len lo hi x;simp only [List.flatMap_cons,List.length_append,List.length_cons];omega
theorem one2(a b:Int):∀u∈ [Value.int .i64 a,.int .i64 b],u.oneCell'=true:=fun u hu=>by
 simp only [List.mem_cons,List.not_mem_nil,or_false] at hu;rcases hu with rfl | rfl<;>rfl
theorem remove_any(p:Nat)(v:Value)(rs:List (Int × Int))(lo hi:Int)(hs:∀x∈rs,Small x)(hlh:Small (lo,hi))(hl:rs.length≤65536)(F:Pr)(w:World)(hF:Sat ((SetAt p v rs).star F) w):
 Calls Tryz.prog 168 #[.pointer (some ⟨p,0,none⟩),.int .i64 lo,.int .i64 hi] w fun e w'=>
  ∃(n:Int) (v':Value),e= .returned (.int .i64 n)∧Sat ((SetAt p v' (remRuns rs lo hi)).star F) w'∧Stays w w':=by
 obtain⟨s1,s2,s3⟩:=hlh;dsimp only at s1 s2 s3;have HL:=hQ hF;clear hF;refine calls_of_wp_marks (n:=9) Tryz.func168 rfl ?_;simp only [Tryz.ntmps168,List.size_toArray,List.length_cons,List.length_nil,Nat.reduceAdd,Nat.reduceSub,Array.replicate_succ,Array.replicate_zero,List.push_toArray,List.append_toArray,List.nil_append,List.cons_append]
 go_wp2_with (go_at_call 170;refine(within_any _ _ _ _).mono ?_;rintro e w' ⟨rfl,rfl⟩)
 have HS:Sat (((SomeCnt w.heap.size).star F).star (WithinOwn p (w.heap.size+1) (w.heap.size+1+1) v rs lo hi))
  (((w.alloc (.cells #[.int .u64 0] 176)).alloc (.cells #[.pointer (some ⟨p,0,none⟩)] 108)).alloc (.cells #[.int .i64 lo,.int .i64 hi] 172)):=by
  have h0:=((HL.out.alloc (.cells #[.int .u64 0] 176)).alloc (.cells #[.pointer (some ⟨p,0,none⟩)] 108)).alloc (.cells #[.int .i64 lo,.int .i64 hi] 172);simp only [World.size_alloc] at h0;have h1:Sat ((RunBx (w.heap.size+1+1) lo hi).star ((PtrBx (w.heap.size+1) p).star ((CntBx w.heap.size 0).star ((SetAt p v rs).star F)))) _:=h0;unfold WithinOwn;simp only [Pr.ex_star,Sat.ex0]
  exact⟨0,h1.perm (by ac_rfl)⟩
 have HR:Stays w (((w.alloc (.cells #[.int .u64 0] 176)).alloc (.cells #[.pointer (some ⟨p,0,none⟩)] 108)).alloc (.cells #[.int .i64 lo,.int .i64 hi] 172)):=(((Stays.refl w).alloc _).alloc _).alloc _;obtain⟨W0,hW0⟩:∃W0,(((w.alloc (.cells #[.int .u64 0] 176)).alloc (.cells #[.pointer (some ⟨p,0,none⟩)] 108)).alloc (.cells #[.int .i64 lo,.int .i64 hi] 172))=W0:=⟨_,rfl⟩;rw [hW0] at HS HR ⊢
 clear hW0 HL;obtain⟨R,hR⟩:∃R,w.heap.size=R:=⟨_,rfl⟩;rw [hR] at HS ⊢;clear hR;have HSM:=hQ hs;clear hs;have HS:=hQ HS;have HR:=hQ HR
 refine wp_rangeFunc_sl 9 (gf:=172) rfl (enters_of Tryz.func172 (by kernel_rfl) rfl) (within1 p (R+1) (R+1+1) v rs lo hi (by omega)) (fun _=>rfl)
  (fun _=>(SomeCnt R).star F) (fun _ _=>Pr.pure False) HS.out ?round ?done ?stop
 case round=>
  intro l' pre x W1 F1 _ hs;obtain⟨x1,x2⟩:=x;have HS1:=hQ hs;clear hs;simp only [encRun];gi_wp2
  have hsA:Sat ((RunBx W1.heap.size x1 x2).star ((((SomeCnt R).star F).star (WithinOwn p (R+1) (R+1+1) v rs lo hi)).star F1)) _:=HS1.out.alloc (.cells #[.int .i64 x1,.int .i64 x2] 172);refine⟨(RunBx W1.heap.size x1 x2).star (((SomeCnt R).star F).star (WithinOwn p (R+1) (R+1+1) v rs lo hi)),(Stays.refl _).alloc _,hsA.perm (by ac_rfl),?_⟩;clear hsA HS1;generalize W1.heap.size=B;intro F2 W2 _ hs2
  simp only [Pr.ex_star,Pr.star_ex,Sat.ex0] at hs2;obtain⟨n,hs2⟩:=hs2;have h1:Sat ((CntBx R n).star ((RunBx B x1 x2).star (F.star ((WithinOwn p (R+1) (R+1+1) v rs lo hi).star F2)))) W2:=hs2.perm (by ac_rfl);have r1:W2.cell? ⟨R,0,none⟩=some (.int .u64 n):=by rw [cell_of_heap h1.pts_heap];rfl
  have r2:W2.cell? ⟨B,0,none⟩=some (.int .i64 x1):=by rw [cell_of_heap h1.right.pts_heap];rfl
  have r3:W2.cell? ⟨B,1,none⟩=some (.int .i64 x2):=by rw [cell_of_heap h1.right.pts_heap];rfl
  have r4:=frozen_of_heap h1.pts_heap 0;have z1:=h1.lt;have H1:=hQ h1;clear h1 hs2;gi_wp2_with (refine⟨trivial,?_⟩;gi_at_call 165;refine(CallsIn.inRound _ (callsIn_wide.2 (with_any _ _ _ _))).mono ?_;rintro e w' ⟨⟨m,rfl⟩,rfl⟩)
  have h2:Sat ((CntBx R m).star _) (W2.setCell ⟨R,0,none⟩ (.int .u64 m)):=H1.out.setCell (i:=0) (.int .u64 m);have h3:=(h2.alloc (.cells #[.int .i64 x1,.int .i64 x2] 172)).right;refine⟨((Stays.refl _).setCell _ _).alloc _,?_⟩;simp only [Pr.ex_star,Sat.ex0];exact⟨m,(h3.perm (Pr.left_comm _ _ _)).right.perm (by ac_rfl)⟩
 case stop=>
  intro D c pre W2 _ hst hs;exact(Sat.pure.1 (hs.perm (Pr.star_assoc _ _ _))).1.elim
 case done=>
  intro D xs W2 _ hst hs;simp only [Pr.ex_star,Sat.ex0] at hs;obtain⟨n,hs⟩:=hs;have h1:Sat ((RunBx (R+1+1) lo hi).star ((PtrBx (R+1) p).star ((SetAt p v rs).star ((Pr.pts D (.deferred (some []))).star ((CntBx R n).star F))))) W2:=hs.perm (by unfold WithinOwn;ac_rfl);have h2:=h1.right.right;clear hs h1
  have h3:Sat ((Pr.pts p (.cells #[v] 170)).star ((Row 172 2 v rs.length (runCells rs)).star ((Pr.pts D (.deferred (some []))).star ((CntBx R n).star F)))) W2:=h2.perm (by unfold SetAt;ac_rfl);have r1:W2.cell? ⟨p,0,none⟩=some v:=by rw [cell_of_heap h3.pts_heap];rfl
  obtain⟨a0,c0,rfl,_,_⟩:=Row.read h3.right;have HI:=hQ (info_parts infoRun);have H3:=hQ h3;have HST:=hQ (HR.out.trans hst);clear h2 h3 hst HS HR;go_wp2
  go_loopw [9,29] (fun vb i wr=> ∃(k:Nat),k≤rs.length∧i= .int .i64 k∧Stays w wr∧
   Sat ((Row 172 2 vb (remRuns (rs.take k) lo hi).length (runCells (remRuns (rs.take k) lo hi))).star ((SetAt p (.slice a0 rs.length c0) rs).star ((Pr.pts D (.deferred (some []))).star ((CntBx R n).star F)))) wr) (fun _ i _=>rs.length-(intOf i).toNat)
  case atStart=>
   refine⟨0,Nat.zero_le _,rfl,HST.out,?_⟩;show Sat ((Row _ 2 (.slice none 0 0) 0 []).star _) _
   rw [Row.nil,Pr.emp_star];exact H3.out.perm (by unfold SetAt;ac_rfl)
  case round=>
   obtain⟨k,hk,rfl,hst2,hinv⟩:=hrel;by_cases hlt:k<rs.length
   · have hx:=HSM.out _ (List.getElem_mem hlt)
     have hsn:=remRuns_snoc rs lo hi k hlt;have hlen:=remRuns_len (rs.take k) lo hi;have hlk:(rs.take k).length≤k:=List.length_take_le _ _;have hk1:=(runCells_at rs k hlt).1;have hk2:=(runCells_at rs k hlt).2;generalize remRuns (rs.take k) lo hi=L at*;generalize rs[k]=x at*;obtain⟨x1,x2⟩:=x;obtain⟨hx1,hx2,hx3⟩:=hx;dsimp only at hx1 hx2 hx3 hk1 hk2
     have hr:Sat ((Row 172 2 (.slice a0 rs.length c0) rs.length (runCells rs)).star ((Pr.pts p (.cells #[.slice a0 rs.length c0] 170)).star ((Row 172 2 u9 L.length (runCells L)).star ((Pr.pts D (.deferred (some []))).star ((CntBx R n).star F))))) wr:=hinv.perm (by unfold SetAt;ac_rfl);obtain⟨a1,c1,e1,_,hrow⟩:=Row.read hr;cases e1;obtain⟨b,rfl,hc⟩:=hrow (by omega)
     have q1:=(hc (k*2) (by omega)).1.trans hk1;have q2:=(hc (k*2+1) (by omega)).1.trans hk2;have HSN:=hQ hsn;have HV:=hQ hinv;clear hsn hinv hr hc hrow hk1 hk2;obtain⟨i0,hi',hz0,hz1,hz2⟩:=HI.out
     have mk:∀(y1 y2:Int),Sat ((Row 172 2 u9 L.length (runCells L)).star ((Pr.pts wr.heap.size (.cells #[.int .i64 x1,.int .i64 x2] 172)).star ((SetAt p (.slice (some ⟨b,0,none⟩) rs.length c0) rs).star ((Pr.pts D (.deferred (some []))).star ((CntBx R n).star F)))))
      ((wr.alloc (.cells #[.int .i64 x1,.int .i64 x2] 172)).alloc (.cells #[.int .i64 y1,.int .i64 y2] 172))∧
      ∀j u,[Value.int .i64 y1,.int .i64 y2][j]? =some u→((wr.alloc (.cells #[.int .i64 x1,.int .i64 x2] 172)).alloc (.cells #[.int .i64 y1,.int .i64 y2] 172)).cell? ((⟨wr.heap.size+1,0,none⟩:Addr).add j)=some u:=by
      intro y1 y2;refine⟨((HV.out.alloc (.cells #[.int .i64 x1,.int .i64 x2] 172)).alloc (.cells #[.int .i64 y1,.int .i64 y2] 172)).right.perm (Pr.left_comm _ _ _),?_⟩;have:=cell_two_new (wr.alloc (.cells #[.int .i64 x1,.int .i64 x2] 172)) (.int .i64 y1) (.int .i64 y2) 172
      rwa [World.size_alloc] at this
     have MK:=hQ mk;have hll:L.length≤131072:=by omega
     clear mk HI
     have out:∀(vv:Value) (ys:List (Int × Int)) (ws:World) (m:Nat) (cs:List Value),remOne lo hi (x1,x2)=ys→L.length+ys.length=m→runCells L++runCells ys=cs→
      Sat ((Row 172 2 vv m cs).star ((Pr.pts wr.heap.size (.cells #[.int .i64 x1,.int .i64 x2] 172)).star ((SetAt p (.slice (some ⟨b,0,none⟩) rs.length c0) rs).star ((Pr.pts D (.deferred (some []))).star ((CntBx R n).star F))))) ws→
      Sat ((Row 172 2 vv (remRuns (rs.take (k+1)) lo hi).length (runCells (remRuns (rs.take (k+1)) lo hi))).star ((SetAt p (.slice (some ⟨b,0,none⟩) rs.length c0) rs).star ((Pr.pts D (.deferred (some []))).star ((CntBx R n).star F)))) ws:=by
      intro vv ys ws m cs e1 e2 e3 h;rw [HSN.out,e1,runCells_append,List.length_append,e2,e3];exact(h.perm (Pr.left_comm _ _ _)).right
     have OUT:=hQ out;clear out HSN;by_cases c1:x2<lo
     · have e:remOne lo hi (x1,x2)= [(x1,x2)]:=by unfold remOne;rw [if_pos (Or.inl c1)]
       have HE:=hQ e;clear e
       go_wp2_with (at_builtin;refine wpList_append_sl rfl _ _ _ rfl 172 i0 (.agg #[.int .i64 0,.int .i64 0]) 2 16 Tryz.underlying168 hi' hz0 hz1 hz2 rfl _ _ _ rfl (MK.out (x1) (x2)).1 ⟨wr.heap.size+1,0,none⟩ 1 1 [.int .i64 (x1),.int .i64 (x2)] rfl rfl (MK.out (x1) (x2)).2 (one2 _ _) (by simp only [maxLen];omega) (by omega) ?_;intro v' w1 hsat hgr _;have HSAT:=hQ hsat;have kx1:w1.cell? ⟨wr.heap.size,0,none⟩=some (.int .i64 x1):=(by rw [cell_of_heap (HSAT.out.right.pts_heap)];rfl);have kx2:w1.cell? ⟨wr.heap.size,1,none⟩=some (.int .i64 x2):=(by rw [cell_of_heap (HSAT.out.right.pts_heap)];rfl);clear hsat MK)
       go_roundw
       case rel=>exact⟨k+1,by omega,by go_num,(((hst2.alloc _).alloc _).of_grown hgr),OUT.out _ _ _ _ _ HE.out rfl rfl HSAT.out⟩
       case measure=>simp [intOf];omega
     · by_cases c2:hi<x1
       · have e:remOne lo hi (x1,x2)= [(x1,x2)]:=by unfold remOne;rw [if_pos (Or.inr c2)]
         have HE:=hQ e;clear e
         go_wp2_with (at_builtin;refine wpList_append_sl rfl _ _ _ rfl 172 i0 (.agg #[.int .i64 0,.int .i64 0]) 2 16 Tryz.underlying168 hi' hz0 hz1 hz2 rfl _ _ _ rfl (MK.out (x1) (x2)).1 ⟨wr.heap.size+1,0,none⟩ 1 1 [.int .i64 (x1),.int .i64 (x2)] rfl rfl (MK.out (x1) (x2)).2 (one2 _ _) (by simp only [maxLen];omega) (by omega) ?_;intro v' w1 hsat hgr _;have HSAT:=hQ hsat;have kx1:w1.cell? ⟨wr.heap.size,0,none⟩=some (.int .i64 x1):=(by rw [cell_of_heap (HSAT.out.right.pts_heap)];rfl);have kx2:w1.cell? ⟨wr.heap.size,1,none⟩=some (.int .i64 x2):=(by rw [cell_of_heap (HSAT.out.right.pts_heap)];rfl);clear hsat MK)
         go_roundw
         case rel=>exact⟨k+1,by omega,by go_num,(((hst2.alloc _).alloc _).of_grown hgr),OUT.out _ _ _ _ _ HE.out rfl rfl HSAT.out⟩
         case measure=>simp [intOf];omega
       · have e0:remOne lo hi (x1,x2)=(if x1<lo then [(x1,lo-1)] else [])++(if hi<x2 then [(hi+1,x2)] else []):=by unfold remOne;rw [if_neg (by dsimp only;omega)]
         by_cases c3:x1<lo
         · by_cases c4:hi<x2
           · have e:remOne lo hi (x1,x2)= [(x1,lo-1),(hi+1,x2)]:=by rw [e0,if_pos c3,if_pos c4];rfl
             have HE:=hQ e;clear e e0
             go_wp2_with (first | (at_builtin;refine wpList_append_sl rfl _ _ _ rfl 172 i0 (.agg #[.int .i64 0,.int .i64 0]) 2 16 Tryz.underlying168 hi' hz0 hz1 hz2 rfl _ _ _ rfl (MK.out (x1) (lo-1)).1 ⟨wr.heap.size+1,0,none⟩ 1 1 [.int .i64 (x1),.int .i64 (lo-1)] rfl rfl (MK.out (x1) (lo-1)).2 (one2 _ _) (by simp only [maxLen];omega) (by omega) ?_;intro v' w1 hsat hgr _;have HSAT:=hQ hsat;have kx1:w1.cell? ⟨wr.heap.size,0,none⟩=some (.int .i64 x1):=(by rw [cell_of_heap (HSAT.out.right.pts_heap)];rfl);have kx2:w1.cell? ⟨wr.heap.size,1,none⟩=some (.int .i64 x2):=(by rw [cell_of_heap (HSAT.out.right.pts_heap)];rfl);clear hsat MK) | (at_builtin;refine wpList_append_sl rfl _ _ _ rfl 172 i0 (.agg #[.int .i64 0,.int .i64 0]) 2 16 Tryz.underlying168 hi' hz0 hz1 hz2 rfl _ _ _ rfl (HSAT.out.alloc _).right ⟨w1.heap.size,0,none⟩ 1 1 [.int .i64 (hi+1),.int .i64 x2] rfl rfl (cell_two_new _ _ _ _) (one2 _ _) (by simp only [maxLen];omega) (by omega) ?_;intro v2 w2 hsat2 hgr2 _;have HSAT2:=hQ hsat2;clear hsat2))
             go_roundw
             case rel=>exact⟨k+1,by omega,by go_num,(((((hst2.alloc _).alloc _).of_grown hgr).alloc _).of_grown hgr2),OUT.out _ _ _ _ _ HE.out (by simp) (by rw [show [(x1,lo-1),(hi+1,x2)]= [(x1,lo-1)]++ [(hi+1,x2)] from rfl,runCells_append, ← List.append_assoc];rfl) HSAT2.out⟩
             case measure=>simp [intOf];omega
           · have e:remOne lo hi (x1,x2)= [(x1,lo-1)]:=by rw [e0,if_pos c3,if_neg c4];rfl
             have HE:=hQ e;clear e e0
             go_wp2_with (at_builtin;refine wpList_append_sl rfl _ _ _ rfl 172 i0 (.agg #[.int .i64 0,.int .i64 0]) 2 16 Tryz.underlying168 hi' hz0 hz1 hz2 rfl _ _ _ rfl (MK.out (x1) (lo-1)).1 ⟨wr.heap.size+1,0,none⟩ 1 1 [.int .i64 (x1),.int .i64 (lo-1)] rfl rfl (MK.out (x1) (lo-1)).2 (one2 _ _) (by simp only [maxLen];omega) (by omega) ?_;intro v' w1 hsat hgr _;have HSAT:=hQ hsat;have kx1:w1.cell? ⟨wr.heap.size,0,none⟩=some (.int .i64 x1):=(by rw [cell_of_heap (HSAT.out.right.pts_heap)];rfl);have kx2:w1.cell? ⟨wr.heap.size,1,none⟩=some (.int .i64 x2):=(by rw [cell_of_heap (HSAT.out.right.pts_heap)];rfl);clear hsat MK)
             go_roundw
             case rel=>exact⟨k+1,by omega,by go_num,(((hst2.alloc _).alloc _).of_grown hgr),OUT.out _ _ _ _ _ HE.out rfl rfl HSAT.out⟩
             case measure=>simp [intOf];omega
         · by_cases c4:hi<x2
           · have e:remOne lo hi (x1,x2)= [(hi+1,x2)]:=by rw [e0,if_neg c3,if_pos c4];rfl
             have HE:=hQ e;clear e e0
             go_wp2_with (at_builtin;refine wpList_append_sl rfl _ _ _ rfl 172 i0 (.agg #[.int .i64 0,.int .i64 0]) 2 16 Tryz.underlying168 hi' hz0 hz1 hz2 rfl _ _ _ rfl (MK.out (hi+1) (x2)).1 ⟨wr.heap.size+1,0,none⟩ 1 1 [.int .i64 (hi+1),.int .i64 (x2)] rfl rfl (MK.out (hi+1) (x2)).2 (one2 _ _) (by simp only [maxLen];omega) (by omega) ?_;intro v' w1 hsat hgr _;have HSAT:=hQ hsat;have kx1:w1.cell? ⟨wr.heap.size,0,none⟩=some (.int .i64 x1):=(by rw [cell_of_heap (HSAT.out.right.pts_heap)];rfl);have kx2:w1.cell? ⟨wr.heap.size,1,none⟩=some (.int .i64 x2):=(by rw [cell_of_heap (HSAT.out.right.pts_heap)];rfl);clear hsat MK)
             go_roundw
             case rel=>exact⟨k+1,by omega,by go_num,(((hst2.alloc _).alloc _).of_grown hgr),OUT.out _ _ _ _ _ HE.out rfl rfl HSAT.out⟩
             case measure=>simp [intOf];omega
           · have e:remOne lo hi (x1,x2)= []:=by rw [e0,if_neg c3,if_neg c4];rfl
             have HE:=hQ e;clear e e0;go_wp2;go_roundw
             case rel=>exact⟨k+1,by omega,by go_num,hst2.alloc _,OUT.out _ _ _ _ _ HE.out rfl (by simp [runCells]) ((HV.out.alloc _).perm (Pr.left_comm _ _ _))⟩
             case measure=>simp [intOf];omega
   · have hkl:k=rs.length:=by omega
     subst hkl;rw [List.take_length] at hinv;have hq:Sat ((Pr.pts p (.cells #[.slice a0 rs.length c0] 170)).star ((CntBx R n).star ((Pr.pts D (.deferred (some []))).star ((Row 172 2 u9 (remRuns rs lo hi).length (runCells (remRuns rs lo hi))).star (F.star (Row 172 2 (.slice a0 rs.length c0) rs.length (runCells rs))))))) wr:=hinv.perm (by unfold SetAt;ac_rfl)
     obtain⟨av,cv,e1,_,_⟩:=Row.read hq.right.right.right;have r3:wr.cell? ⟨p,0,none⟩=some (.slice a0 rs.length c0):=by rw [cell_of_heap hq.pts_heap];rfl
     have r4:=frozen_of_heap hq.pts_heap 0;have r5:wr.cell? ⟨R,0,none⟩=some (.int .u64 n):=by rw [cell_of_heap hq.right.pts_heap];rfl
     have hpr:p≠R:=hq.pts_ne;subst e1;have HQ:Hid (Sat ((Pr.pts p (.cells #[.slice av (remRuns rs lo hi).length cv] 170)).star _) _):=hq.setCell (i:=0) (.slice av (remRuns rs lo hi).length cv);clear hq hinv;generalize hnn:(remRuns rs lo hi).length=nn at*;have HNN:=hQ hnn;clear hnn;go_wp2
     have q1:Sat ((Pr.pts D (.deferred (some []))).star (((SetAt p (.slice av nn cv) (remRuns rs lo hi)).star F).star ((CntBx R n).star (Row 172 2 (.slice a0 rs.length c0) rs.length (runCells rs))))) (wr.setCell ⟨p,0,none⟩ (.slice av nn cv)):=HQ.out.perm (by unfold SetAt;rw [HNN.out];ac_rfl)
     refine marks_ret1 (D:=D) rfl q1.pts_heap ⟨_,results_tmp rfl _ _ _,_,.slice av nn cv,rfl,(q1.putObj (.deferred none)).right.left,?_⟩;exact(hst2.setCell _ _).putObj _ _
end Go.Proofs.YtpfafhklppondaaGreat.M3
namespace Go.Cop
open Go.Proofs.YtpfafhklppondaaGreat.L3 Go.Proofs.YtpfafhklppondaaGreat.M3
abbrev Rs:=List (Int × Int)
def Canon(rs:Rs):Prop:=rs.Pairwise (fun x y=>x.2+1<y.1)∧∀x∈rs,x.1≤x.2
def InRuns(rs:Rs)(n:Int):Prop:= ∃x∈rs,x.1≤n∧n≤x.2
theorem inRuns_append {a b:Rs}{n:Int}:InRuns (a++b) n↔InRuns a n∨InRuns b n:=by
 unfold InRuns;constructor
 · rintro⟨x,hx,h⟩
   rcases List.mem_append.1 hx with h1 | h1
   · exact .inl ⟨x,h1,h⟩
   · exact .inr ⟨x,h1,h⟩
 · rintro(⟨x,hx,h⟩ | ⟨x,hx,h⟩)
   · exact⟨x,List.mem_append_left _ hx,h⟩
   · exact⟨x,List.mem_append_right _ hx,h⟩
theorem inRuns_cons {x:Int × Int}{b:Rs}{n:Int}:InRuns (x :: b) n↔(x.1≤n∧n≤x.2)∨InRuns b n:=by
 unfold InRuns;simp
theorem inRuns_nil {n:Int}:¬InRuns [] n:=by unfold InRuns;simp
structure AddInv(st:AddSt)(rest:Rs):Prop where
 le:st.2.1.1≤st.2.1.2
 below:Canon st.1
 belowLo:∀x∈st.1,x.2+1<st.2.1.1
 above:Canon st.2.2
 aboveHi:∀x∈st.2.2,st.2.1.2+1<x.1
 restB:∀x∈st.1,∀y∈rest,x.2+1<y.1
 restA:∀x∈st.2.2,∀y∈rest,x.2+1<y.1
theorem canon_snoc {a:Rs}{y:Int × Int}(h:Canon a)(hy:y.1≤y.2)(hb:∀x∈a,x.2+1<y.1):Canon (a++ [y]):=by
 refine⟨List.pairwise_append.2 ⟨h.1,List.pairwise_singleton _ _,fun x hx z hz=> ?_⟩,fun x hx=> ?_⟩
 · rw [List.mem_singleton.1 hz];exact hb x hx
 · rcases List.mem_append.1 hx with h1 | h1
   · exact h.2 x h1
   · rw [List.mem_singleton.1 h1];exact hy
theorem addInv_step {st:AddSt}{y:Int × Int}{rest:Rs}(h:AddInv st (y :: rest))(hy:y.1≤y.2)(hr:∀z∈rest,y.2+1<z.1):
 AddInv (addStep st y) rest∧∀n,(InRuns (addStep st y).1 n∨((addStep st y).2.1.1≤n∧n≤(addStep st y).2.1.2)∨InRuns (addStep st y).2.2 n)↔
  (InRuns st.1 n∨(st.2.1.1≤n∧n≤st.2.1.2)∨InRuns st.2.2 n)∨(y.1≤n∧n≤y.2):=by
 obtain⟨B,⟨lo,hi⟩,A⟩:=st;obtain⟨h1,h2,h3,h4,h5,h6,h7⟩:=h;dsimp only at*
 have hA:A≠ []→hi+1<y.1:=fun hne=>by
  obtain⟨x,hx⟩:=List.exists_mem_of_ne_nil _ hne;have a1:=h5 x hx;have a2:=h4.2 x hx;have a3:=h7 x hx y List.mem_cons_self;omega
 unfold addStep;dsimp only;split
 · rename_i c
   refine⟨⟨h1,canon_snoc h2 hy (fun x hx=>h6 x hx y List.mem_cons_self),fun x hx=> ?_,h4,h5,fun x hx z hz=> ?_,fun x hx z hz=>h7 x hx z (List.mem_cons_of_mem _ hz)⟩,fun n=> ?_⟩
   · rcases List.mem_append.1 hx with h | h
     · exact h3 x h
     · rw [List.mem_singleton.1 h];exact c
   · rcases List.mem_append.1 hx with h | h
     · exact h6 x h z (List.mem_cons_of_mem _ hz)
     · rw [List.mem_singleton.1 h];exact hr z hz
   · rw [inRuns_append,inRuns_cons]
     simp only [inRuns_nil,or_false];constructor
     · rintro((h | h) | h | h)
       · exact .inl (.inl h)
       · exact .inr h
       · exact .inl (.inr (.inl h))
       · exact .inl (.inr (.inr h))
     · rintro((h | h | h) | h)
       · exact .inl (.inl h)
       · exact .inr (.inl h)
       · exact .inr (.inr h)
       · exact .inl (.inr h)
 · split
   · rename_i c c'
     refine⟨⟨h1,h2,h3,canon_snoc h4 hy (fun x hx=>h7 x hx y List.mem_cons_self),fun x hx=> ?_,fun x hx z hz=>h6 x hx z (List.mem_cons_of_mem _ hz),fun x hx z hz=> ?_⟩,fun n=> ?_⟩
     · rcases List.mem_append.1 hx with h | h
       · exact h5 x h
       · rw [List.mem_singleton.1 h];dsimp only;omega
     · rcases List.mem_append.1 hx with h | h
       · exact h7 x h z (List.mem_cons_of_mem _ hz)
       · rw [List.mem_singleton.1 h];exact hr z hz
     · rw [inRuns_append,inRuns_cons]
       simp only [inRuns_nil,or_false];constructor
       · rintro(h | h | h | h)
         · exact .inl (.inl h)
         · exact .inl (.inr (.inl h))
         · exact .inl (.inr (.inr h))
         · exact .inr h
       · rintro((h | h | h) | h)
         · exact .inl h
         · exact .inr (.inl h)
         · exact .inr (.inr (.inl h))
         · exact .inr (.inr (.inr h))
   · rename_i c c'
     have hnil:A= []:=by
      cases hA':A with
      | nil=>rfl
      | cons a A'=>have:=hA (by rw [hA'];simp);omega
     subst hnil;refine⟨⟨by dsimp only;omega,h2,fun x hx=> ?_,h4,(fun x hx=>by cases hx),fun x hx z hz=>h6 x hx z (List.mem_cons_of_mem _ hz),(fun x hx=>by cases hx)⟩,fun n=> ?_⟩
     · have a1:=h3 x hx
       have a2:=h6 x hx y List.mem_cons_self;dsimp only;omega
     · dsimp only
       simp only [inRuns_nil,or_false];by_cases hB:InRuns B n
       · simp [hB]
       · simp only [hB,false_or]
         omega
theorem addInv_fold(rs:Rs):∀(st:AddSt),AddInv st rs→Canon rs→AddInv (rs.foldl addStep st) []∧∀n,(InRuns (rs.foldl addStep st).1 n∨((rs.foldl addStep st).2.1.1≤n∧n≤(rs.foldl addStep st).2.1.2)∨InRuns (rs.foldl addStep st).2.2 n)↔
 (InRuns st.1 n∨(st.2.1.1≤n∧n≤st.2.1.2)∨InRuns st.2.2 n)∨InRuns rs n:=by
 induction rs with
 | nil=>intro st h _;exact⟨h,fun n=>by simp [inRuns_nil]⟩
 | cons y rs ih=>
   intro st h hc;obtain⟨hp,hle⟩:=hc;have hp':=List.pairwise_cons.1 hp;obtain⟨h1,h2⟩:=addInv_step h (hle y List.mem_cons_self) hp'.1;obtain⟨h3,h4⟩:=ih _ h1 ⟨hp'.2,fun x hx=>hle x (List.mem_cons_of_mem _ hx)⟩;refine⟨h3,fun n=> ?_⟩;rw [List.foldl_cons,h4,h2,inRuns_cons,or_assoc]
theorem canon_nil:Canon []:=⟨List.Pairwise.nil,(fun x hx=>by cases hx)⟩
theorem addRuns_law(rs:Rs)(lo hi:Int)(h:Canon rs)(hl:lo≤hi):Canon (addRuns rs lo hi)∧∀n,InRuns (addRuns rs lo hi) n↔(lo≤n∧n≤hi)∨InRuns rs n:=by
 obtain⟨hi',hm⟩:=addInv_fold rs ([],(lo,hi),[]) ⟨hl,canon_nil,(fun x hx=>by cases hx),canon_nil,(fun x hx=>by cases hx),(fun x hx=>by cases hx),(fun x hx=>by cases hx)⟩ h;unfold addRuns addFold;generalize rs.foldl addStep ([],(lo,hi),[])=st at*;obtain⟨B,⟨lo',hi1⟩,A⟩:=st;obtain⟨h1,h2,h3,h4,h5,h6,h7⟩:=hi';dsimp only at*;constructor
 · have hc:=canon_snoc (y:=(lo',hi1)) h2 h1 h3
   refine⟨List.pairwise_append.2 ⟨hc.1,h4.1,fun x hx y hy=> ?_⟩,fun x hx=> ?_⟩
   · rcases List.mem_append.1 hx with h | h
     · have a1:=h3 x h
       have a2:=h5 y hy;omega
     · rw [List.mem_singleton.1 h];exact h5 y hy
   · rcases List.mem_append.1 hx with h | h
     · exact hc.2 x h
     · exact h4.2 x h
 · intro n
   have:=hm n
   rw [inRuns_append,inRuns_append,inRuns_cons];simp only [inRuns_nil,or_false,false_or] at this ⊢;rw [← this,or_assoc]
theorem remOne_in {lo hi:Int}{x p:Int × Int}(hx:x.1≤x.2)(hp:p∈remOne lo hi x):x.1≤p.1∧p.1≤p.2∧p.2≤x.2:=by
 unfold remOne at hp;split at hp
 · rw [List.mem_singleton.1 hp];exact⟨Int.le_refl _,hx,Int.le_refl _⟩
 · rename_i c
   rcases List.mem_append.1 hp with h | h
   · split at h
     · rw [List.mem_singleton.1 h];dsimp only;omega
     · cases h
   · split at h
     · rw [List.mem_singleton.1 h];dsimp only;omega
     · cases h
theorem remOne_canon {lo hi:Int}{x:Int × Int}(hl:lo≤hi):(remOne lo hi x).Pairwise fun x y=>x.2+1<y.1:=by
 unfold remOne;split
 · exact List.pairwise_singleton _ _
 · split<;>split<;>simp
   omega
theorem remOne_mem {lo hi:Int}{x:Int × Int}(n:Int)(hl:lo≤hi):InRuns (remOne lo hi x) n↔(x.1≤n∧n≤x.2)∧¬(lo≤n∧n≤hi):=by
 unfold remOne;split
 · simp only [inRuns_cons,inRuns_nil,or_false];omega
 · rw [inRuns_append]
   split<;>split<;>simp only [inRuns_cons,inRuns_nil,or_false,false_or]<;>(constructor<;>intro h<;>first | omega | exact h.elim)
theorem remRuns_law(lo hi:Int)(hl:lo≤hi):∀(rs:Rs),Canon rs→Canon (remRuns rs lo hi)∧(∀n,InRuns (remRuns rs lo hi) n↔InRuns rs n∧¬(lo≤n∧n≤hi)):=by
 intro rs;induction rs with
 | nil=>intro _;exact⟨canon_nil,fun n=>by simp [remRuns,inRuns_nil]⟩
 | cons x rs ih=>
   rintro⟨hp,hle⟩;have hp':=List.pairwise_cons.1 hp;obtain⟨h1,h2⟩:=ih ⟨hp'.2,fun y hy=>hle y (List.mem_cons_of_mem _ hy)⟩;have hx:=hle x List.mem_cons_self;have e:remRuns (x :: rs) lo hi=remOne lo hi x++remRuns rs lo hi:=by simp [remRuns]
   rw [e];refine⟨⟨List.pairwise_append.2 ⟨remOne_canon hl,h1.1,fun a ha b hb=> ?_⟩,fun a ha=> ?_⟩,fun n=> ?_⟩
   · have a1:=remOne_in hx ha
     unfold remRuns at hb;obtain⟨y,hy,hby⟩:=List.mem_flatMap.1 hb;have a2:=remOne_in (hle y (List.mem_cons_of_mem _ hy)) hby;have a3:=hp'.1 y hy;omega
   · rcases List.mem_append.1 ha with h | h
     · exact(remOne_in hx h).2.1
     · exact h1.2 a h
   · rw [inRuns_append,inRuns_cons,remOne_mem n hl,h2]
     constructor
     · rintro(⟨h,k⟩ | ⟨h,k⟩)
       · exact⟨.inl h,k⟩
       · exact⟨.inr h,k⟩
     · rintro⟨h | h,k⟩
       · exact .inl ⟨h,k⟩
       · exact .inr ⟨h,k⟩
theorem lowest_law {x:Int × Int}{rs:Rs}(h:Canon (x :: rs)):InRuns (x :: rs) x.1∧∀n,InRuns (x :: rs) n→x.1≤n:=by
 obtain⟨hp,hle⟩:=h;have hp':=List.pairwise_cons.1 hp;have hx:=hle x List.mem_cons_self;refine⟨⟨x,List.mem_cons_self,Int.le_refl _,hx⟩,?_⟩;rintro n ⟨y,hy,h1,h2⟩;rcases List.mem_cons.1 hy with rfl | hy
 · exact h1
 · have:=hp'.1 y hy
   omega
theorem canon_len:∀(rs:Rs) (a b:Int),Canon rs→(∀n,InRuns rs n→a≤n∧n≤b)→(rs.length:Int)≤max 0 (b-a+1):=by
 intro rs;induction rs with
 | nil=>intro a b _ _;simp;omega
 | cons x rs ih=>
   rintro a b ⟨hp,hle⟩ hr;have hp':=List.pairwise_cons.1 hp;have hx:=hle x List.mem_cons_self;have h1:=hr x.1 ⟨x,List.mem_cons_self,Int.le_refl _,hx⟩
   have h2:=ih (x.1+1) b ⟨hp'.2,fun y hy=>hle y (List.mem_cons_of_mem _ hy)⟩ (fun n hn=>by
    obtain⟨y,hy,k1,k2⟩:=hn
    have:=hp'.1 y hy
    have:=hr n ⟨y,List.mem_cons_of_mem _ hy,k1,k2⟩
    omega)
   simp only [List.length_cons];omega
theorem canon_in {rs:Rs}{a b:Int}(h:Canon rs)(hr:∀n,InRuns rs n→a≤n∧n≤b):∀x∈rs,a≤x.1∧x.1≤x.2∧x.2≤b:=fun x hx=>by
 have h1:=h.2 x hx;exact⟨(hr x.1 ⟨x,hx,Int.le_refl _,h1⟩).1,h1,(hr x.2 ⟨x,hx,h1,Int.le_refl _⟩).2⟩
end Go.Cop
namespace Go.Proofs.YtpfafhklppondaaGreat.N3
open ChangeShapes WideShapes ChangeAt RowKit Sl N2
def lowVal:List (Int × Int)→Value
 | []=> .tuple #[.int .i64 0,.bool false]
 | x :: _=> .tuple #[.int .i64 x.1,.bool true]
theorem lowest_any(p:Nat)(v:Value)(rs:List (Int × Int))(F:Pr)(w:World)(hF:Sat ((SetAt p v rs).star F) w):
 Calls Tryz.prog 147 #[.pointer (some ⟨p,0,none⟩)] w fun e w'=>
  e= .returned (lowVal rs)∧w=w':=by
 have h1:Sat ((Pr.pts p (.cells #[v] 170)).star ((Row 172 2 v rs.length (runCells rs)).star F)) w:=hF.perm (by unfold SetAt;ac_rfl);have r1:w.cell? ⟨p,0,none⟩=some v:=by rw [cell_of_heap h1.pts_heap];rfl
 obtain⟨a,c,rfl,_,hrow⟩:=Row.read h1.right;clear h1 hF;cases rs with
 | nil=>
   clear hrow;go_enter Tryz.func147,Tryz.ntmps147
   go_wp2;go_ret2;exact⟨rfl,rfl⟩
 | cons x rs=>
   obtain⟨b,rfl,hc⟩:=hrow (by simp);have q1:=(hc 0 (by simp)).1;have q2:w.cell? ⟨b,0,none⟩=some (.int .i64 x.1):=q1;have hne:(((x :: rs).length:Int) == 0)=false:=by simp;omega
   have hpos:0<(x :: rs).length:=by simp
   clear q1 hc hrow;generalize (x :: rs).length=n at*;have hv:lowVal (x :: rs)= .tuple #[.int .i64 x.1,.bool true]:=rfl;rw [hv];clear hv;generalize x.1=x1 at*;go_enter Tryz.func147,Tryz.ntmps147
   go_wp2;go_ret2;exact⟨rfl,rfl⟩
theorem new_nil(F:Pr)(w:World)(hF:Sat F w):
 Calls Tryz.prog 154 #[.slice none 0 0] w fun e w'=>
  ∃p,e= .returned (.pointer (some ⟨p,0,none⟩))∧Sat ((SetAt p (.slice none 0 0) []).star F) w'∧Stays w w':=by
 have h2:Sat ((SetAt w.heap.size (.slice none 0 0) []).star F) (w.alloc (.cells #[.slice none 0 0] 170)):=by
  have:=hF.alloc (.cells #[.slice none 0 0] 170)
  unfold SetAt;show Sat (((Pr.pts _ _).star (Row _ 2 (.slice none 0 0) 0 [])).star F) _
  rw [Row.nil,Pr.star_emp];exact this
 have H2:=hQ h2;clear h2 hF;go_enter Tryz.func154,Tryz.ntmps154
 go_wp2;go_loop [5,10] (fun _ i=>i= .int .i64 0) (fun _ _=>0)
 case atStart=>rfl
 case round=>
  subst hrel;go_wp2;go_ret;exact⟨_,rfl,H2.out,(Stays.refl w).alloc _⟩
end Go.Proofs.YtpfafhklppondaaGreat.N3
namespace Go.Proofs.YtpfafhklppondaaGreat.P3
open ChangeShapes WideShapes ChangeAt RowKit Sl Cop M2 N2 L3 M3 N3
theorem Row.set {T b n cap i:Nat}{xs:List Value}{F:Pr}{w:World}(h:Sat ((Row T 1 (.slice (some ⟨b,0,none⟩) n cap) n xs).star F) w)(hi:i<n)(u:Value):
 Sat ((Row T 1 (.slice (some ⟨b,0,none⟩) n cap) n (xs.set i u)).star F) (w.setCell ⟨b,i,none⟩ u):=by
 obtain⟨hl,(⟨e,_,_⟩ | ⟨b',cap',sp,e,h1,h2,h3,h4⟩)⟩:=Row.open' h
 · cases e
 · cases e
   have h5:=h4.setCell (i:=i) u
   have e2:((xs++sp).toArray.setIfInBounds i u)=(xs.set i u++sp).toArray:=by
    rw [List.setIfInBounds_toArray,List.set_append_left _ _ (by omega)]
   rw [e2] at h5;exact Row.mk' (by simpa using hl) (by simpa using h1) h2 h3 h5
def SetOf(p:Nat)(S:Int→Prop):Pr:=Pr.ex fun x:Value × Rs=>(Pr.pure (Canon x.2∧∀n,InRuns x.2 n↔S n)).star (SetAt p x.1 x.2)
theorem setOf_iff {p:Nat}{S:Int→Prop}{F:Pr}{w:World}:Sat ((SetOf p S).star F) w↔∃v rs,Canon rs∧(∀n,InRuns rs n↔S n)∧Sat ((SetAt p v rs).star F) w:=by
 unfold SetOf;rw [Sat.ex];constructor
 · rintro⟨⟨v,rs⟩,h⟩
   rw [Pr.star_assoc] at h;obtain⟨⟨h1,h2⟩,h3⟩:=Sat.pure.1 h;exact⟨v,rs,h1,h2,h3⟩
 · rintro⟨v,rs,h1,h2,h3⟩
   refine⟨(v,rs),?_⟩;rw [Pr.star_assoc];exact Sat.pure.2 ⟨⟨h1,h2⟩,h3⟩
theorem setOf_congr {p:Nat}{S S':Int→Prop}(h:∀n,S n↔S' n):SetOf p S=SetOf p S':=by
 have:S=S':=funext fun n=>propext (h n)
 rw [this]
theorem small_of {rs:Rs}{S:Int→Prop}(hc:Canon rs)(hm:∀n,InRuns rs n↔S n)(hS:∀m,S m→1≤m∧m≤65536):(∀x∈rs,Small x)∧rs.length≤65536:=by
 have h1:∀n,InRuns rs n→1≤n∧n≤65536:=fun n hn=>hS n ((hm n).1 hn)
 refine⟨fun x hx=> ?_,?_⟩
 · have:=canon_in hc h1 x hx
   exact⟨by omega,this.2.1,by omega⟩
 · have:=canon_len rs 1 65536 hc h1
   omega
theorem set_add(p:Nat)(S:Int→Prop)(n:Int)(hn:1≤n∧n≤65536)(hS:∀m,S m→1≤m∧m≤65536)(F:Pr)(w:World)(h:Sat ((SetOf p S).star F) w):
 Calls Tryz.prog 155 #[.pointer (some ⟨p,0,none⟩),.int .i64 n,.int .i64 n] w fun e w'=>
  ∃m:Int,e= .returned (.int .i64 m)∧Sat ((SetOf p fun x=>x=n∨S x).star F) w'∧Stays w w':=by
 obtain⟨v,rs,h1,h2,h3⟩:=setOf_iff.1 h;obtain⟨s1,s2⟩:=small_of h1 h2 hS;refine(add_any p v rs n n s1 ⟨by omega,Int.le_refl _,by dsimp only;omega⟩ s2 F w h3).mono ?_;rintro e w' ⟨m,v',rfl,h4,h5⟩;obtain⟨l1,l2⟩:=addRuns_law rs n n h1 (Int.le_refl _);refine⟨m,rfl,setOf_iff.2 ⟨v',_,l1,fun x=> ?_,h4⟩,h5⟩;rw [l2,h2];constructor
 · rintro(h | h)
   · exact .inl (by omega)
   · exact .inr h
 · rintro(rfl | h)
   · exact .inl ⟨Int.le_refl _,Int.le_refl _⟩
   · exact .inr h
theorem set_remove(p:Nat)(S:Int→Prop)(n:Int)(hn:1≤n∧n≤65536)(hS:∀m,S m→1≤m∧m≤65536)(F:Pr)(w:World)(h:Sat ((SetOf p S).star F) w):
 Calls Tryz.prog 168 #[.pointer (some ⟨p,0,none⟩),.int .i64 n,.int .i64 n] w fun e w'=>
  ∃m:Int,e= .returned (.int .i64 m)∧Sat ((SetOf p fun x=>S x∧x≠n).star F) w'∧Stays w w':=by
 obtain⟨v,rs,h1,h2,h3⟩:=setOf_iff.1 h;obtain⟨s1,s2⟩:=small_of h1 h2 hS;refine(remove_any p v rs n n s1 ⟨by omega,Int.le_refl _,by dsimp only;omega⟩ s2 F w h3).mono ?_;rintro e w' ⟨m,v',rfl,h4,h5⟩;obtain⟨l1,l2⟩:=remRuns_law n n (Int.le_refl _) rs h1;refine⟨m,rfl,setOf_iff.2 ⟨v',_,l1,fun x=> ?_,h4⟩,h5⟩;rw [l2,h2];constructor
 · rintro⟨h,k⟩
   exact⟨h,fun e=>k ⟨by omega,by omega⟩⟩
 · rintro⟨h,k⟩
   exact⟨h,fun e=>k (by omega)⟩
theorem set_lowest(p:Nat)(S:Int→Prop)(F:Pr)(w:World)(h:Sat ((SetOf p S).star F) w):
 Calls Tryz.prog 147 #[.pointer (some ⟨p,0,none⟩)] w fun e w'=>
  w=w'∧((e= .returned (.tuple #[.int .i64 0,.bool false])∧∀n,¬S n)∨∃n,e= .returned (.tuple #[.int .i64 n,.bool true])∧S n∧∀m,S m→n≤m):=by
 obtain⟨v,rs,h1,h2,h3⟩:=setOf_iff.1 h;refine(lowest_any p v rs F w h3).mono ?_;rintro e w' ⟨rfl,rfl⟩;refine⟨rfl,?_⟩;cases rs with
 | nil=>exact .inl ⟨rfl,fun n hn=>inRuns_nil ((h2 n).2 hn)⟩
 | cons x rs=>
   obtain⟨l1,l2⟩:=lowest_law h1;exact .inr ⟨x.1,rfl,(h2 _).1 l1,fun m hm=>l2 m ((h2 m).2 hm)⟩
abbrev IntsRow(v:Value)(l:List Int):Pr:=Row 3 1 v l.length (l.map (Value.int .i64))
abbrev BoolsRow(v:Value)(l:List Bool):Pr:=Row 4 1 v l.length (l.map Value.bool)
def ActIn(h:Hp)(p:Nat)(a:Int × Int)(f:Value):Prop:=
 ∃bp bn bb,f= .func (.func 163) #[] #[.pointer (some ⟨bp,0,none⟩),.pointer (some ⟨bn,0,none⟩),.pointer (some ⟨bb,0,none⟩)]∧
  h.cell bp 0=some (.pointer (some ⟨p,0,none⟩))∧h.cell bn 0=some (.int .i64 a.1)∧h.cell bb 0=some (.int .i64 a.2)
theorem ActIn.sub {a b:Hp}(hs:a.sub b){p:Nat}{x:Int × Int}{f:Value}(h:ActIn a p x f):ActIn b p x f:=by
 obtain⟨bp,bn,bb,e,h1,h2,h3⟩:=h;exact⟨bp,bn,bb,e,Hp.cell_sub hs h1,Hp.cell_sub hs h2,Hp.cell_sub hs h3⟩
def ActsIn(h:Hp)(p:Nat)(acts:List (Int × Int))(fs:List Value):Prop:=fs.length=acts.length∧∀i (hi:i<acts.length) (hf:i<fs.length),ActIn h p acts[i] fs[i]
def ActsA(p:Nat)(av:Value)(acts:List (Int × Int)):Pr:=
 Pr.ex fun x:List Value × Hp=>(Pr.pure (ActsIn x.2 p acts x.1)).star ((Row 174 1 av acts.length x.1).star (Pr.own x.2))
def poolCells(s:PoolS)(cv lv:Value)(fb:Nat)(av:Value):Array Value:=
 #[.int .i64 s.refs,cv,lv,.pointer (some ⟨fb,0,none⟩),.int .i64 0,.int .i64 (s.tally 1),.int .i64 (s.tally 2),.int .i64 (s.tally 3),.int .i64 (s.tally 4),av,.int .i64 s.floor]
def PoolAt(p:Nat)(s:PoolS)(cv lv:Value)(fb:Nat)(av:Value):Pr:=
 (Pr.pts p (.cells (poolCells s cv lv fb av) 112)).star ((IntsRow cv s.counts).star ((BoolsRow lv s.last).star ((SetOf fb fun n=>s.state n=1).star (ActsA p av s.acts))))
def PoolA(p:Nat)(s:PoolS):Pr:=Pr.ex fun x:Value × Value × Nat × Value=>(Pr.pure (PoolOk s)).star (PoolAt p s x.1 x.2.1 x.2.2.1 x.2.2.2)
theorem poolA_iff {p:Nat}{s:PoolS}{F:Pr}{w:World}:Sat ((PoolA p s).star F) w↔PoolOk s∧∃cv lv fb av,Sat ((PoolAt p s cv lv fb av).star F) w:=by
 unfold PoolA;rw [Sat.ex];constructor
 · rintro⟨⟨cv,lv,fb,av⟩,h⟩
   rw [Pr.star_assoc] at h;obtain⟨h1,h3⟩:=Sat.pure.1 h;exact⟨h1,cv,lv,fb,av,h3⟩
 · rintro⟨h1,cv,lv,fb,av,h3⟩
   refine⟨(cv,lv,fb,av),?_⟩;rw [Pr.star_assoc];exact Sat.pure.2 ⟨h1,h3⟩
theorem ints_read {v:Value}{l:List Int}{F:Pr}{w:World}(h:Sat ((IntsRow v l).star F) w)(h0:0<l.length):
 ∃b c,v= .slice (some ⟨b,0,none⟩) l.length c∧∀i,i<l.length→w.cell? ⟨b,i,none⟩=some (.int .i64 (l.getD i 0))∧w.frozen? ⟨b,i,none⟩=false:=by
 obtain⟨a,c,hv,hl,hc0⟩:=Row.read h;obtain⟨b,ha,hc⟩:=hc0 h0;clear hc0;subst ha;subst hv;refine⟨b,c,rfl,fun i hi=>⟨?_,(hc i (by omega)).2⟩⟩;rw [(hc i (by omega)).1];simp [hi]
theorem bools_read {v:Value}{l:List Bool}{F:Pr}{w:World}(h:Sat ((BoolsRow v l).star F) w)(h0:0<l.length):
 ∃b c,v= .slice (some ⟨b,0,none⟩) l.length c∧∀i,i<l.length→w.cell? ⟨b,i,none⟩=some (.bool (l.getD i false))∧w.frozen? ⟨b,i,none⟩=false:=by
 obtain⟨a,c,hv,hl,hc0⟩:=Row.read h;obtain⟨b,ha,hc⟩:=hc0 h0;clear hc0;subst ha;subst hv;refine⟨b,c,rfl,fun i hi=>⟨?_,(hc i (by omega)).2⟩⟩;rw [(hc i (by omega)).1];simp [hi]
theorem pool_rd {p:Nat}{s:PoolS}{cs:Array Value}{cv lv:Value}{F:Pr}{w:World}(h1:s.last.length=s.counts.length)(h2:1≤s.counts.length)(h3:s.counts.length≤65536)
 (e0:cs[0]? =some (.int .i64 s.refs)) (e1:cs[1]? =some cv) (e2:cs[2]? =some lv)
 (h:Sat ((Pr.pts p (.cells cs 112)).star ((IntsRow cv s.counts).star ((BoolsRow lv s.last).star F))) w):PoolRd w p s:=by
 obtain⟨b,c,rfl,hc⟩:=ints_read h.right (by omega);obtain⟨b',c',rfl,hc'⟩:=bools_read h.right.right (by omega);rw [h1] at e2;refine⟨h3,h1,by rw [cell_of_heap h.pts_heap];exact e0,⟨b,c,by rw [cell_of_heap h.pts_heap];exact e1,fun i hi=>(hc i hi).1⟩,⟨b',c',by rw [cell_of_heap h.pts_heap];exact e2,fun i hi=>(hc' i (by omega)).1⟩⟩
end Go.Proofs.YtpfafhklppondaaGreat.P3
