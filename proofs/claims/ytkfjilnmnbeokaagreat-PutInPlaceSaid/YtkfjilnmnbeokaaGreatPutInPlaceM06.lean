/- The library's Grow and Concat at rows of runs. By walks; the conditions stand as hypotheses. -/
import Derived.Test.YtkfjilnmnbeokaaGreatPutInPlaceM05
import Derived.Test.YtkfjilnmnbeokaaGreatPutInPlaceM04
import Derived.Test.YtkfjilnmnbeokaaGreatPutInPlaceM01
set_option maxRecDepth 100000
set_option maxHeartbeats 16000000
namespace Go.Proofs.YtkfjilnmnbeokaaGreat.X2
open ChangeShapes WideShapes ChangeAt RowKit Sl E2
theorem infoRun:(Tryz.prog.info? 204).map (fun i=>(i.zero,i.size,i.bytes))=some (some (.agg #[.int .i64 0,.int .i64 0]),2,16):=by kernel_rfl
theorem zeros_run(n:Nat)(h0:0<n)(hn:n≤4294967296)(wx:World):∃(cap:Nat) (cells:List Value),n≤cap∧cap≤maxLen∧cells.length=cap*2∧
 (Builtin.append_ #[200,3] 200 #[.slice none 0 0,.int .i64 n]).run Tryz.prog wx= .ok (.slice (some ⟨wx.heap.size,0,none⟩) n cap) (wx.drew.alloc (.cells cells.toArray 204)):=by
 obtain⟨i0,hi,hz0,hz1,hz2⟩:=info_parts infoRun;have hr:=Lib.run_append_nil_zeros (P:=Tryz.prog) wx 200 3 200 204 i0 (.agg #[.int .i64 0,.int .i64 0]) .i64 .i64 Tryz.underlying200 Tryz.underlying3 hi hz0 n h0 (by omega) (by omega) (by rw [hz2];omega);have hg:=grownCap_ge wx n 0 204
 refine⟨grownCap wx n 0 204,(Builtin.zeroCells #[.int .i64 0,.int .i64 0] n++Builtin.zeroCells #[.int .i64 0,.int .i64 0] (grownCap wx n 0 204-n)).toList,hg,grownCap_le_maxLen wx n 0 _ (by simp only [maxLen];omega),?_,hr⟩;rw [Array.length_toList,Array.size_append,size_zeros,size_zeros];show n*2+ _*2=_
 omega
theorem grow_after {cap:Nat}{cells:List Value}{F:Pr}{w:World}(hF:Sat F w)(h1:cap≤maxLen)(h2:cells.length=cap*2):
 Sat ((Row 204 2 (.slice (some ⟨w.heap.size,0,none⟩) 0 cap) 0 []).star F) (w.drew.alloc (.cells cells.toArray 204)):=
 Row.mk' (sp:=cells) (by simp) (by simpa using h2) (Nat.zero_le _) h1 (by simpa using (hF.drew).alloc (.cells cells.toArray 204))
theorem grow_nil(n:Nat)(hn:n≤4294967296)(F:Pr)(w:World)(hF:Sat F w):
 Calls Tryz.prog 178 #[.slice none 0 0,.int .i64 n] w fun e w'=>
  ∃v,e= .returned v∧Sat ((Row 204 2 v 0 []).star F) w'∧Stays w w':=by
 by_cases h0:0<n
 · obtain⟨cap,cells,h1,h2,h3,h4⟩:=zeros_run n h0 hn w
   have HR:=hQ h4;have HF:=hQ (grow_after hF h2 h3);clear h4 hF h3;go_enter Tryz.func178,Tryz.ntmps178
   go_wp2_with (at_builtin;refine Lib.wpList_append_run _ rfl _ _ _ _ rfl _ _ rfl rfl _ _ HR.out ?_)
   go_ret;exact⟨_,rfl,HF.out,((Stays.refl w).drew).alloc _⟩
 · have:n=0:=by omega
   subst this;go_enter Tryz.func178,Tryz.ntmps178
   go_wp2;go_ret;exact⟨.slice none 0 0,rfl,by rw [Row.nil,Pr.emp_star];exact hF,Stays.refl w⟩
def total(ps:List (Value × Nat × List Value)):Nat:=(ps.map fun x=>x.2.1).sum
def flat(ps:List (Value × Nat × List Value)):List Value:=ps.flatMap fun x=>x.2.2
theorem total_snoc(ps:List (Value × Nat × List Value))(k:Nat)(h:k<ps.length):total (ps.take (k+1))=total (ps.take k)+ps[k].2.1:=by
 unfold total;rw [List.take_succ_eq_append_getElem h,List.map_append,List.sum_append];simp
theorem flat_snoc(ps:List (Value × Nat × List Value))(k:Nat)(h:k<ps.length):flat (ps.take (k+1))=flat (ps.take k)++ps[k].2.2:=by
 unfold flat;rw [List.take_succ_eq_append_getElem h,List.flatMap_append];simp
theorem total_le(ps:List (Value × Nat × List Value))(k:Nat):total (ps.take k)≤total ps:=by
 unfold total;have:=List.take_append_drop k ps
 have h2:(ps.map fun x=>x.2.1).sum=((ps.take k).map fun x=>x.2.1).sum+((ps.drop k).map fun x=>x.2.1).sum:=by
  rw [← List.sum_append, ← List.map_append,this]
 omega
theorem concat_any(h:Hp)(sv:Value)(ps:List (Value × Nat × List Value))(hs:RowIn h 1 sv ps.length (ps.map fun x=>x.1))
 (hps:∀x∈ps,RowIn h 2 x.1 x.2.1 x.2.2∧∀u∈x.2.2,u.oneCell'=true) (hb:total ps≤4294967296) (hlen:ps.length≤65536) (F:Pr) (w:World) (hF:Sat ((Pr.own h).star F) w):
 Calls Tryz.prog 165 #[sv] w fun e w'=>
  ∃v,e= .returned v∧Sat ((Row 204 2 v (total ps) (flat ps)).star ((Pr.own h).star F)) w'∧Stays w w':=by
 obtain⟨_,a,c,rfl,_,_,hcell⟩:=hs
 have cells:∀(k:Nat) (hk:k<ps.length) (wx:World),h.le wx→∃b off a' n' c',a=some ⟨b,off,none⟩∧ps[k].1= .slice a' n' c'∧n'=ps[k].2.1∧wx.cell? ⟨b,off+k,none⟩=some (.slice a' n' c'):=by
  intro k hk wx hle;obtain⟨b,off,e1,hc⟩:=hcell (by omega);obtain⟨_,a',c',e2,_⟩:=(hps _ (List.getElem_mem hk)).1;refine⟨b,off,a',_,c',e1,e2,rfl,?_⟩;refine Hp.cell_le hle ((hc k (by omega)).trans ?_);simp [hk,e2]
 have HC:=hQ cells;have HL:=hQ hF;have HPS:=hQ hps;have hle:=hF.own;clear cells hF hcell hps;go_enter Tryz.func165,Tryz.ntmps165
 go_wp2;go_loop [3,11] (fun s i=> ∃k:Nat,k≤ps.length∧i= .int .i64 k∧s= .int .i64 (total (ps.take k):Nat)) (fun _ i=>ps.length-(intOf i).toNat)
 case atStart=>exact⟨0,Nat.zero_le _,rfl,rfl⟩
 case round=>
  obtain⟨k,hk,rfl,rfl⟩:=hrel;have ht:=total_le ps k;by_cases hlt:k<ps.length
  · obtain⟨b,off,a',n',c',rfl,e2,e3,e4⟩:=HC.out k hlt w hle
    have hs1:=total_snoc ps k hlt;have ht1:=total_le ps (k+1);rw [← e3] at hs1;have HS1:=hQ hs1;have hn':total (ps.take k)+n'≤4294967296:=by omega
    clear hs1 ht1 e2 e3;generalize total (ps.take k)=tk at*;go_wp2;go_round
    case rel=>exact⟨k+1,by omega,by go_num,by rw [HS1.out];go_num⟩
    case measure=>simp [intOf];omega
  · have hkl:k=ps.length:=by omega
    subst hkl;rw [List.take_length] at*;go_wp2_with (go_at_call 178;refine(grow_nil _ hb _ _ HL.out).mono ?_;rintro e w' ⟨v0,rfl,hg,hst⟩)
    have HG:=hQ hg;clear hg;go_loopw [6,27] (fun v i wr=> ∃k:Nat,k≤ps.length∧i= .int .i64 k∧Stays w wr∧Sat ((Row 204 2 v (total (ps.take k)) (flat (ps.take k))).star ((Pr.own h).star F)) wr) (fun _ i _=>ps.length-(intOf i).toNat)
    case atStart=>exact⟨0,Nat.zero_le _,rfl,hst,HG.out⟩
    case round=>
     obtain⟨k,hk,rfl,hst2,hrow⟩:=hrel;by_cases hlt:k<ps.length
     · have hle2:=hrow.right.own
       obtain⟨b,off,a',n',c',rfl,e2,e3,e4⟩:=HC.out k hlt _ hle2;have hx:=HPS.out _ (List.getElem_mem hlt);rw [e2, ← e3] at hx;have hs1:=total_snoc ps k hlt;have hs2:=flat_snoc ps k hlt;have ht1:=total_le ps (k+1);rw [← e3] at hs1;have HS1:=hQ hs1;have HS2:=hQ hs2;have hn':total (ps.take k)+n'≤4294967296:=by omega
       have HX:=hQ hx;have HROW:=hQ hrow;have HLE:=hQ hle2;have HI:=hQ (info_parts infoRun);clear hs1 hs2 ht1 e2 e3 hx hrow hle2 hst hle;generalize total (ps.take k)=tk at*;generalize ps[k].2.2=news at*;obtain⟨i0,hi,hz0,hz1,hz2⟩:=HI.out
       go_wp2_with (at_builtin;refine wpList_append_row rfl _ _ _ rfl 204 i0 (.agg #[.int .i64 0,.int .i64 0]) 2 16 Tryz.underlying200 hi hz0 hz1 hz2 rfl _ _ _ rfl HROW.out h HLE.out _ _ _ rfl HX.out.1 HX.out.2 (by simp only [maxLen];omega) (by omega) ?_;intro v' w1 hsat hgr _;have HSAT:=hQ hsat;clear hsat)
       go_roundw
       case rel=>exact⟨k+1,by omega,by go_num,hst2.of_grown hgr,by rw [HS1.out,HS2.out];exact HSAT.out⟩
       case measure=>simp [intOf];omega
     · have hkl:k=ps.length:=by omega
       subst hkl;rw [List.take_length] at hrow;have HROW:=hQ hrow;clear hrow;go_wp2;go_ret;exact⟨_,rfl,HROW.out,hst2⟩
end Go.Proofs.YtkfjilnmnbeokaaGreat.X2
namespace Go.Proofs.YtkfjilnmnbeokaaGreat.Y2
open ChangeShapes WideShapes ChangeAt RowKit Sl Go.Shelf E2 V2 X2
attribute [local go_sem] Oper.semAt_some
abbrev AddSt:=List (Int × Int) × (Int × Int) × List (Int × Int)
def addStep(s:AddSt)(x:Int × Int):AddSt:=
 if x.2+1<s.2.1.1 then(s.1++ [x],s.2.1,s.2.2)
 else if s.2.1.2<x.1-1 then(s.1,s.2.1,s.2.2++ [x])
 else(s.1,(min s.2.1.1 x.1,max s.2.1.2 x.2),s.2.2)
def addFold(rs:List (Int × Int))(lo hi:Int):AddSt:=rs.foldl addStep ([],(lo,hi),[])
def addRuns(rs:List (Int × Int))(lo hi:Int):List (Int × Int):=(addFold rs lo hi).1++ [(addFold rs lo hi).2.1]++(addFold rs lo hi).2.2
def Small(x:Int × Int):Prop:=0≤x.1∧x.1≤x.2∧x.2≤4294967296
theorem addFold_len(rs:List (Int × Int))(lo hi:Int):(addFold rs lo hi).1.length+(addFold rs lo hi).2.2.length≤rs.length:=by
 unfold addFold;suffices h:∀(s:AddSt),(rs.foldl addStep s).1.length+(rs.foldl addStep s).2.2.length≤rs.length+(s.1.length+s.2.2.length) by simpa using h ([],(lo,hi),[])
 induction rs with
 | nil=>intro s;simp
 | cons x rs ih=>
   intro s;have:=ih (addStep s x)
   simp only [List.foldl_cons,List.length_cons]
   have h2:(addStep s x).1.length+(addStep s x).2.2.length≤1+(s.1.length+s.2.2.length):=by
    unfold addStep;split
    · simp;omega
    · split<;>simp<;>omega
   omega
theorem addFold_snoc(rs:List (Int × Int))(lo hi:Int)(k:Nat)(h:k<rs.length):addFold (rs.take (k+1)) lo hi=addStep (addFold (rs.take k) lo hi) rs[k]:=by
 unfold addFold;rw [List.take_succ_eq_append_getElem h,List.foldl_append];rfl
theorem put_run {R:Nat}{lo hi m1 m2 n1 n2:Int}{F:Pr}{w:World}{o:Obj}(h:Sat ((RunBx R lo hi).star F) w)(e1:m1=n1)(e2:m2=n2):
 Sat ((RunBx R n1 n2).star F) ((((w.setCell ⟨R,0,none⟩ (.int .i64 m1)).setCell ⟨R,1,none⟩ (.int .i64 m2)).alloc o).drew):=by
 subst e1;subst e2;have h1:Sat ((RunBx R m1 hi).star F) (w.setCell ⟨R,0,none⟩ (.int .i64 m1)):=h.setCell (i:=0) _;have h2:Sat ((RunBx R m1 m2).star F) _:=h1.setCell (i:=1) (.int .i64 m2);exact(h2.alloc o).right.drew
abbrev CntBx(b:Nat)(n:Int):Pr:=Pr.pts b (.cells #[.int .u64 n] 206)
abbrev SomeCnt(b:Nat):Pr:=Pr.ex fun n:Int=>CntBx b n
theorem add_any(p:Nat)(v:Value)(rs:List (Int × Int))(lo hi:Int)(hs:∀x∈rs,Small x)(hlh:Small (lo,hi))(hl:rs.length≤65536)(F:Pr)(w:World)(hF:Sat ((SetAt p v rs).star F) w):
 Calls Tryz.prog 137 #[.pointer (some ⟨p,0,none⟩),.int .i64 lo,.int .i64 hi] w fun e w'=>
  ∃(n:Int) (v':Value),e= .returned (.int .i64 n)∧Sat ((SetAt p v' (addRuns rs lo hi)).star F) w'∧Stays w w':=by
 obtain⟨s1,s2,s3⟩:=hlh;dsimp only at s1 s2 s3;have HL:=hQ hF;clear hF;refine calls_of_wp_marks (n:=9) Tryz.func137 rfl ?_;simp only [Tryz.ntmps137,List.size_toArray,List.length_cons,List.length_nil,Nat.reduceAdd,Nat.reduceSub,Array.replicate_succ,Array.replicate_zero,List.push_toArray,List.append_toArray,List.nil_append,List.cons_append]
 go_wp2_with (go_at_call 163;refine(gaps_any _ _ _ _).mono ?_;rintro e w' ⟨rfl,rfl⟩)
 have HS:Sat ((((SomeCnt (w.heap.size+1)).star ((RunBx w.heap.size lo hi).star F))).star (GapsOwn p (w.heap.size+1+1) (w.heap.size+1+1+1) v rs))
  ((((w.alloc (.cells #[.int .i64 lo,.int .i64 hi] 204)).alloc (.cells #[.int .u64 0] 206)).alloc (.cells #[.pointer (some ⟨p,0,none⟩)] 114)).alloc (.cells #[.int .i64 lo,.int .i64 hi] 204)):=by
  have h0:=(((HL.out.alloc (.cells #[.int .i64 lo,.int .i64 hi] 204)).alloc (.cells #[.int .u64 0] 206)).alloc (.cells #[.pointer (some ⟨p,0,none⟩)] 114)).alloc (.cells #[.int .i64 lo,.int .i64 hi] 204);simp only [World.size_alloc] at h0
  have h1:Sat ((RunBx (w.heap.size+1+1+1) lo hi).star ((PtrBx (w.heap.size+1+1) p).star ((CntBx (w.heap.size+1) 0).star ((RunBx w.heap.size lo hi).star ((SetAt p v rs).star F))))) _:=h0;unfold GapsOwn;simp only [Pr.ex_star,Pr.star_ex,Sat.ex0];exact⟨(lo,hi),0,h1.perm (by dsimp only;ac_rfl)⟩
 have HR:Stays w ((((w.alloc (.cells #[.int .i64 lo,.int .i64 hi] 204)).alloc (.cells #[.int .u64 0] 206)).alloc (.cells #[.pointer (some ⟨p,0,none⟩)] 114)).alloc (.cells #[.int .i64 lo,.int .i64 hi] 204)):=((((Stays.refl w).alloc _).alloc _).alloc _).alloc _
 obtain⟨W0,hW0⟩:∃W0,((((w.alloc (.cells #[.int .i64 lo,.int .i64 hi] 204)).alloc (.cells #[.int .u64 0] 206)).alloc (.cells #[.pointer (some ⟨p,0,none⟩)] 114)).alloc (.cells #[.int .i64 lo,.int .i64 hi] 204))=W0:=⟨_,rfl⟩;rw [hW0] at HS HR ⊢;clear hW0 HL;obtain⟨R,hR⟩:∃R,w.heap.size=R:=⟨_,rfl⟩;rw [hR] at HS ⊢;clear hR;have HSM:=hQ hs;clear hs;have HS:=hQ HS;have HR:=hQ HR
 refine wp_rangeFunc_sl 9 (gf:=176) rfl (enters_of Tryz.func176 (by kernel_rfl) rfl) (gaps1 p (R+1+1) (R+1+1+1) v rs (by omega)) (fun _=>rfl)
  (fun _=>(SomeCnt (R+1)).star ((RunBx R lo hi).star F)) (fun _ _=>Pr.pure False) HS.out ?round ?done ?stop
 case round=>
  intro l' pre x W1 F1 _ hs;obtain⟨x1,x2⟩:=x;have HS1:=hQ hs;clear hs;simp only [encRun];gi_wp2
  have hsA:Sat ((RunBx W1.heap.size x1 x2).star ((((SomeCnt (R+1)).star ((RunBx R lo hi).star F)).star (GapsOwn p (R+1+1) (R+1+1+1) v rs)).star F1)) _:=HS1.out.alloc (.cells #[.int .i64 x1,.int .i64 x2] 204);refine⟨(RunBx W1.heap.size x1 x2).star (((SomeCnt (R+1)).star ((RunBx R lo hi).star F)).star (GapsOwn p (R+1+1) (R+1+1+1) v rs)),(Stays.refl _).alloc _,hsA.perm (by ac_rfl),?_⟩;clear hsA HS1
  generalize W1.heap.size=B;intro F2 W2 _ hs2;simp only [Pr.ex_star,Pr.star_ex,Sat.ex0] at hs2;obtain⟨n,hs2⟩:=hs2;have h1:Sat ((CntBx (R+1) n).star ((RunBx B x1 x2).star (((RunBx R lo hi).star F).star ((GapsOwn p (R+1+1) (R+1+1+1) v rs).star F2)))) W2:=hs2.perm (by ac_rfl);have r1:W2.cell? ⟨R+1,0,none⟩=some (.int .u64 n):=by rw [cell_of_heap h1.pts_heap];rfl
  have r2:W2.cell? ⟨B,0,none⟩=some (.int .i64 x1):=by rw [cell_of_heap h1.right.pts_heap];rfl
  have r3:W2.cell? ⟨B,1,none⟩=some (.int .i64 x2):=by rw [cell_of_heap h1.right.pts_heap];rfl
  have r4:=frozen_of_heap h1.pts_heap 0;have z1:=h1.lt;have H1:=hQ h1;clear h1 hs2;gi_wp2_with (refine⟨trivial,?_⟩;gi_at_call 164;refine(CallsIn.inRound _ (callsIn_wide.2 (with_any _ _ _ _))).mono ?_;rintro e w' ⟨⟨m,rfl⟩,rfl⟩)
  have h2:Sat ((CntBx (R+1) m).star _) (W2.setCell ⟨R+1,0,none⟩ (.int .u64 m)):=H1.out.setCell (i:=0) (.int .u64 m);have h3:=(h2.alloc (.cells #[.int .i64 x1,.int .i64 x2] 204)).right;refine⟨((Stays.refl _).setCell _ _).alloc _,?_⟩;simp only [Pr.ex_star,Sat.ex0];exact⟨m,(h3.perm (Pr.left_comm _ _ _)).right.perm (by ac_rfl)⟩
 case done=>
  intro D xs W2 _ hst hs;unfold GapsOwn at hs;simp only [Pr.ex_star,Pr.star_ex,Sat.ex0] at hs;obtain⟨⟨a,b⟩,n,hs⟩:=hs;have h1:Sat ((RunBx (R+1+1+1) a b).star ((PtrBx (R+1+1) p).star ((SetAt p v rs).star ((RunBx R lo hi).star ((Pr.pts D (.deferred (some []))).star ((CntBx (R+1) n).star F)))))) W2:=hs.perm (by dsimp only;ac_rfl);have h2:=h1.right.right;clear hs h1
  have h3:Sat ((Pr.pts p (.cells #[v] 202)).star ((Row 204 2 v rs.length (runCells rs)).star ((RunBx R lo hi).star ((Pr.pts D (.deferred (some []))).star ((CntBx (R+1) n).star F))))) W2:=h2.perm (by unfold SetAt;ac_rfl);have r1:W2.cell? ⟨p,0,none⟩=some v:=by rw [cell_of_heap h3.pts_heap];rfl
  obtain⟨a0,c0,rfl,_,_⟩:=Row.read h3.right;have HI:=hQ (info_parts infoRun);have H3:=hQ h3;have HST:=hQ (HR.out.trans hst);clear h2 h3 hst HS HR;go_wp2
  go_loopw [10,11,32] (fun vb va i wr=> ∃(k:Nat),k≤rs.length∧i= .int .i64 k∧Stays w wr∧Small (addFold (rs.take k) lo hi).2.1∧
   Sat ((Row 204 2 vb (addFold (rs.take k) lo hi).1.length (runCells (addFold (rs.take k) lo hi).1)).star ((Row 204 2 va (addFold (rs.take k) lo hi).2.2.length (runCells (addFold (rs.take k) lo hi).2.2)).star
    ((RunBx R (addFold (rs.take k) lo hi).2.1.1 (addFold (rs.take k) lo hi).2.1.2).star ((SetAt p (.slice a0 rs.length c0) rs).star ((Pr.pts D (.deferred (some []))).star ((CntBx (R+1) n).star F)))))) wr) (fun _ _ i _=>rs.length-(intOf i).toNat)
  case atStart=>
   refine⟨0,Nat.zero_le _,rfl,HST.out,⟨s1,s2,s3⟩,?_⟩;show Sat ((Row _ 2 (.slice none 0 0) 0 []).star ((Row _ 2 (.slice none 0 0) 0 []).star _)) _
   rw [Row.nil,Pr.emp_star,Pr.emp_star];exact H3.out.perm (by unfold SetAt;ac_rfl)
  case round=>
   obtain⟨k,hk,rfl,hst2,hsm,hinv⟩:=hrel;by_cases hlt:k<rs.length
   · have hx:=HSM.out _ (List.getElem_mem hlt)
     have hsn:=addFold_snoc rs lo hi k hlt;have hlen:=addFold_len (rs.take k) lo hi;have hlk:(rs.take k).length≤k:=List.length_take_le _ _;have hk1:=(runCells_at rs k hlt).1;have hk2:=(runCells_at rs k hlt).2;generalize addFold (rs.take k) lo hi=st at*;generalize rs[k]=x at*;obtain⟨B,⟨lo',hi'⟩,A⟩:=st;obtain⟨x1,x2⟩:=x;obtain⟨hx1,hx2,hx3⟩:=hx;obtain⟨hm1,hm2,hm3⟩:=hsm
     dsimp only at hx1 hx2 hx3 hm1 hm2 hm3 hlen hk1 hk2 hinv
     have hr:Sat ((RunBx R lo' hi').star ((Row 204 2 (.slice a0 rs.length c0) rs.length (runCells rs)).star ((Pr.pts p (.cells #[.slice a0 rs.length c0] 202)).star ((Row 204 2 u10 B.length (runCells B)).star ((Row 204 2 u11 A.length (runCells A)).star ((Pr.pts D (.deferred (some []))).star ((CntBx (R+1) n).star F))))))) wr:=hinv.perm (by unfold SetAt;ac_rfl)
     obtain⟨a1,c1,e1,_,hrow⟩:=Row.read hr.right;cases e1;obtain⟨b,rfl,hc⟩:=hrow (by omega);have q1:=(hc (k*2) (by omega)).1.trans hk1;have q2:=(hc (k*2+1) (by omega)).1.trans hk2;have r1:wr.cell? ⟨R,0,none⟩=some (.int .i64 lo'):=by rw [cell_of_heap hr.pts_heap];rfl
     have r2:wr.cell? ⟨R,1,none⟩=some (.int .i64 hi'):=by rw [cell_of_heap hr.pts_heap];rfl
     have r3:=frozen_of_heap hr.pts_heap 0;have r4:=frozen_of_heap hr.pts_heap 1;have z1:=hr.lt;have HSN:=hQ hsn;have HV:=hQ hinv;have HVR:=hQ hr;clear hsn hinv hr hc hrow hk1 hk2;obtain⟨i0,hi,hz0,hz1,hz2⟩:=HI.out
     have HN:Hid (∀j u,[Value.int .i64 x1,.int .i64 x2][j]? =some u→((wr.alloc (.cells #[.int .i64 x1,.int .i64 x2] 204)).alloc (.cells #[.int .i64 x1,.int .i64 x2] 204)).cell? ((⟨wr.heap.size+1,0,none⟩:Addr).add j)=some u):=by
      have:=cell_two_new (wr.alloc (.cells #[.int .i64 x1,.int .i64 x2] 204)) (.int .i64 x1) (.int .i64 x2) 204
      rwa [World.size_alloc] at this
     have HO:Hid (∀u∈ [Value.int .i64 x1,.int .i64 x2],u.oneCell'=true):=fun u hu=>by
      simp only [List.mem_cons,List.not_mem_nil,or_false] at hu;rcases hu with rfl | rfl<;>rfl
     by_cases c1:x2+1<lo'
     · have e:addStep (B,(lo',hi'),A) (x1,x2)=(B++ [(x1,x2)],(lo',hi'),A):=by simp only [addStep];rw [if_pos c1]
       rw [e] at HSN;have HVA:=hQ ((HV.out.alloc (.cells #[.int .i64 x1,.int .i64 x2] 204)).right.alloc (.cells #[.int .i64 x1,.int .i64 x2] 204)).right;clear e
       go_wp2_with (at_builtin;refine wpList_append_sl rfl _ _ _ rfl 204 i0 (.agg #[.int .i64 0,.int .i64 0]) 2 16 Tryz.underlying200 hi hz0 hz1 hz2 rfl _ _ _ rfl HVA.out ⟨wr.heap.size+1,0,none⟩ 1 1 [.int .i64 x1,.int .i64 x2] rfl rfl HN.out HO.out (by simp only [maxLen];omega) (by omega) ?_;intro v' w1 hsat hgr _;have HSAT:=hQ hsat;clear hsat)
       go_roundw
       case rel=>
        refine⟨k+1,by omega,by go_num,(((hst2.alloc _).alloc _).of_grown hgr),?_,?_⟩
        · rw [HSN.out];exact⟨hm1,hm2,hm3⟩
        · rw [HSN.out]
          dsimp only;rw [List.length_append,runCells_append];exact HSAT.out
       case measure=>simp [intOf];omega
     · by_cases c2:hi'<x1-1
       · have e:addStep (B,(lo',hi'),A) (x1,x2)=(B,(lo',hi'),A++ [(x1,x2)]):=by simp only [addStep];rw [if_neg c1,if_pos c2]
         rw [e] at HSN;have HVA:=hQ (((HV.out.alloc (.cells #[.int .i64 x1,.int .i64 x2] 204)).right.alloc (.cells #[.int .i64 x1,.int .i64 x2] 204)).right.perm (Pr.left_comm _ _ _));have d1:¬x2<lo':=by omega
         clear e;go_wp2_with (at_builtin;refine wpList_append_sl rfl _ _ _ rfl 204 i0 (.agg #[.int .i64 0,.int .i64 0]) 2 16 Tryz.underlying200 hi hz0 hz1 hz2 rfl _ _ _ rfl HVA.out ⟨wr.heap.size+1,0,none⟩ 1 1 [.int .i64 x1,.int .i64 x2] rfl rfl HN.out HO.out (by simp only [maxLen];omega) (by omega) ?_;intro v' w1 hsat hgr _;have HSAT:=hQ hsat;clear hsat)
         go_roundw
         case rel=>
          refine⟨k+1,by omega,by go_num,(((hst2.alloc _).alloc _).of_grown hgr),?_,?_⟩
          · rw [HSN.out];exact⟨hm1,hm2,hm3⟩
          · rw [HSN.out]
            dsimp only;rw [List.length_append,runCells_append];exact HSAT.out.perm (Pr.left_comm _ _ _)
         case measure=>simp [intOf];omega
       · have e:addStep (B,(lo',hi'),A) (x1,x2)=(B,(min lo' x1,max hi' x2),A):=by simp only [addStep];rw [if_neg c1,if_neg c2]
         rw [e] at HSN;clear e HN HO;by_cases d1:x2<lo'<;>by_cases d2:hi'<x1<;>by_cases m1:lo'≤x1<;>by_cases m2:x2≤hi'
         all_goals first
          | (exfalso;omega)
          | (go_wp2
             refine wS 96 [0,1,2,3,4,5,6,7,8,9,10] [(11,[12],[7,8,9]),(13,[],[])] ?_
             iterate 11 (refine wpQ_step rfl rfl (fun K hK=> ?_);go_simp;refine hK _ ?_;clear hK K)
             refine wpQ_nil ?_
             refine wpRest_act rfl ?_
             go_wp2
             refine onN_mk ?_
             iterate 1 (refine wpQ_step rfl rfl (fun K hK=> ?_);go_simp;refine hK _ ?_;clear hK K)
             refine wpQ_nil ⟨?_,?_⟩
             · refine chk_cons ?_ (chk_cons ?_ (chk_cons ?_ chk_nil))<;>(refine yieldF_of rfl rfl rfl rfl ?_;go_simp;try omega)
             refine wpRest_act rfl ?_
             go_wp2
             refine onN_mk (wpQ_nil ⟨chk_nil,wpRest_nil ?_⟩)
             go_wp2
             go_roundw
             case rel=>
              refine⟨k+1,by omega,by go_num,((((hst2.setCell _ _).setCell _ _).alloc _).drew),?_,?_⟩
              · rw [HSN.out];refine⟨?_,?_,?_⟩<;>dsimp only<;>omega
              · rw [HSN.out]
                dsimp only
                refine(put_run HVR.out (n1:=min lo' x1) (n2:=max hi' x2) ?_ ?_).perm (by unfold SetAt;ac_rfl)
                all_goals first | omega | (split<;>omega)
             case measure=>simp [intOf];omega)
   · have hkl:k=rs.length:=by omega
     subst hkl;rw [List.take_length] at hinv hsm;have hadd:addRuns rs lo hi=(addFold rs lo hi).1++ [(addFold rs lo hi).2.1]++(addFold rs lo hi).2.2:=rfl;have hlen:=addFold_len rs lo hi;generalize addFold rs lo hi=st at*;obtain⟨B,⟨lo',hi'⟩,A⟩:=st;dsimp only at hadd hinv hlen
     have hr:Sat ((RunBx R lo' hi').star ((CntBx (R+1) n).star ((Row 204 2 u10 B.length (runCells B)).star ((Row 204 2 u11 A.length (runCells A)).star ((SetAt p (.slice a0 rs.length c0) rs).star ((Pr.pts D (.deferred (some []))).star F)))))) wr:=hinv.perm (by ac_rfl);have r1:wr.cell? ⟨R,0,none⟩=some (.int .i64 lo'):=by rw [cell_of_heap hr.pts_heap];rfl
     have r2:wr.cell? ⟨R,1,none⟩=some (.int .i64 hi'):=by rw [cell_of_heap hr.pts_heap];rfl
     have z1:=hr.lt;have hz:=hr.right.right;obtain⟨av,cv,e1,_,_⟩:=Row.read hz;obtain⟨aw,cw,e2,_,_⟩:=Row.read (hz.perm (Pr.left_comm _ _ _));have HH:=hQ hr;have HA:=hQ hadd;clear hr hinv hz hadd;subst e1;subst e2
     have hcall:∃h0,Sat ((Pr.own h0).star ((RunBx R lo' hi').star ((CntBx (R+1) n).star ((SetAt p (.slice a0 rs.length c0) rs).star ((Pr.pts D (.deferred (some []))).star F)))))
      ((wr.alloc (.cells #[.int .i64 lo',.int .i64 hi'] 204)).alloc (.cells #[.slice av B.length cv,.slice (some ⟨wr.heap.size,0,none⟩) 1 1,.slice aw A.length cw] 200))∧
      RowIn h0 1 (.slice (some ⟨wr.heap.size+1,0,none⟩) 3 3) 3 [.slice av B.length cv,.slice (some ⟨wr.heap.size,0,none⟩) 1 1,.slice aw A.length cw]∧
      RowIn h0 2 (.slice (some ⟨wr.heap.size,0,none⟩) 1 1) 1 [.int .i64 lo',.int .i64 hi']∧RowIn h0 2 (.slice av B.length cv) B.length (runCells B)∧RowIn h0 2 (.slice aw A.length cw) A.length (runCells A):=by
      have h2:=(HH.out.alloc (.cells #[.int .i64 lo',.int .i64 hi'] 204)).alloc (.cells #[.slice av B.length cv,.slice (some ⟨wr.heap.size,0,none⟩) 1 1,.slice aw A.length cw] 200);rw [World.size_alloc] at h2
      have h3:=h2.perm (show _=((Pr.pts (wr.heap.size+1) (.cells #[.slice av B.length cv,.slice (some ⟨wr.heap.size,0,none⟩) 1 1,.slice aw A.length cw] 200)).star ((Pr.pts wr.heap.size (.cells #[.int .i64 lo',.int .i64 hi'] 204)).star ((Row 204 2 (.slice av B.length cv) B.length (runCells B)).star (Row 204 2 (.slice aw A.length cw) A.length (runCells A))))).star
       ((RunBx R lo' hi').star ((CntBx (R+1) n).star ((SetAt p (.slice a0 rs.length c0) rs).star ((Pr.pts D (.deferred (some []))).star F)))) from by ac_rfl)
      obtain⟨h0,hA,hS⟩:=Sat.toOwn h3;obtain⟨x2,y2,p2,q2,s2,t2⟩:=star_sub hA;obtain⟨x3,y3,p3,q3,s3,t3⟩:=star_sub q2;obtain⟨x4,y4,p4,q4,s4,t4⟩:=star_sub q3;refine⟨h0,hS,(pts_rowIn p2 rfl rfl (by simp only [maxLen];omega)).sub s2,(pts_rowIn p3 rfl rfl (by simp only [maxLen];omega)).sub (s3.trans t2),(Row.rowIn p4).sub (s4.trans (t3.trans t2)),(Row.rowIn q4).sub (t4.trans (t3.trans t2))⟩
     obtain⟨h0,hS,g1,g2,g3,g4⟩:=hcall
     have one:∀(l:List (Int × Int)),∀u∈runCells l,u.oneCell'=true:=fun l u hu=>by
      unfold runCells at hu;obtain⟨x,_,hx⟩:=List.mem_flatMap.1 hu;simp only [List.mem_cons,List.not_mem_nil,or_false] at hx;rcases hx with rfl | rfl<;>rfl
     have hcat:=concat_any h0 (.slice (some ⟨wr.heap.size+1,0,none⟩) 3 3) [(.slice av B.length cv,B.length,runCells B),(.slice (some ⟨wr.heap.size,0,none⟩) 1 1,1,runCells [(lo',hi')]),(.slice aw A.length cw,A.length,runCells A)] g1
      (by
        intro x hx
        simp only [List.mem_cons,List.not_mem_nil,or_false] at hx
        rcases hx with rfl | rfl | rfl
        · exact⟨g3,one _⟩
        · exact⟨g2,one _⟩
        · exact⟨g4,one _⟩) (by simp [total];omega) (by simp) _ _ hS
     have HCAT:=hQ hcat;clear hcat hS g1 g2 g3 g4 one;go_wp2_with fail
     refine HCAT.out.mono ?_;rintro e w' ⟨v',rfl,hs',hst'⟩;obtain⟨ax,cx,rfl,_,_⟩:=Row.read hs'
     have hq:Sat ((Pr.pts p (.cells #[.slice a0 rs.length c0] 202)).star ((CntBx (R+1) n).star ((Pr.pts D (.deferred (some []))).star ((Row 204 2 (.slice ax (total [(.slice av B.length cv,B.length,runCells B),(.slice (some ⟨wr.heap.size,0,none⟩) 1 1,1,runCells [(lo',hi')]),(.slice aw A.length cw,A.length,runCells A)]) cx)
      (total [(.slice av B.length cv,B.length,runCells B),(.slice (some ⟨wr.heap.size,0,none⟩) 1 1,1,runCells [(lo',hi')]),(.slice aw A.length cw,A.length,runCells A)])
      (flat [(.slice av B.length cv,B.length,runCells B),(.slice (some ⟨wr.heap.size,0,none⟩) 1 1,1,runCells [(lo',hi')]),(.slice aw A.length cw,A.length,runCells A)])).star (F.star ((Row 204 2 (.slice a0 rs.length c0) rs.length (runCells rs)).star ((Pr.own h0).star (RunBx R lo' hi')))))))) w':=hs'.perm (by unfold SetAt;ac_rfl)
     have etot:total [(.slice av B.length cv,B.length,runCells B),(.slice (some ⟨wr.heap.size,0,none⟩) 1 1,1,runCells [(lo',hi')]),(.slice aw A.length cw,A.length,runCells A)]=(addRuns rs lo hi).length:=by rw [HA.out];simp [total];omega
     have eflat:flat [(.slice av B.length cv,B.length,runCells B),(.slice (some ⟨wr.heap.size,0,none⟩) 1 1,1,runCells [(lo',hi')]),(.slice aw A.length cw,A.length,runCells A)]=runCells (addRuns rs lo hi):=by rw [HA.out,runCells_append,runCells_append];simp [flat]
     rw [etot,eflat] at hq;rw [etot];have r3:w'.cell? ⟨p,0,none⟩=some (.slice a0 rs.length c0):=by rw [cell_of_heap hq.pts_heap];rfl
     have r4:=frozen_of_heap hq.pts_heap 0;have r5:w'.cell? ⟨R+1,0,none⟩=some (.int .u64 n):=by rw [cell_of_heap hq.right.pts_heap];rfl
     have hpr:p≠R+1:=hq.pts_ne;have HQ:Hid (Sat ((Pr.pts p (.cells #[.slice ax (addRuns rs lo hi).length cx] 202)).star _) _):=hq.setCell (i:=0) (.slice ax (addRuns rs lo hi).length cx);clear hs' hq etot eflat HCAT r1 r2;generalize hnn:(addRuns rs lo hi).length=nn at*;have HNN:=hQ hnn;clear hnn;go_wp2
     have q1:Sat ((Pr.pts D (.deferred (some []))).star (((SetAt p (.slice ax nn cx) (addRuns rs lo hi)).star F).star ((CntBx (R+1) n).star ((Row 204 2 (.slice a0 rs.length c0) rs.length (runCells rs)).star ((Pr.own h0).star (RunBx R lo' hi')))))) (w'.setCell ⟨p,0,none⟩ (.slice ax nn cx)):=HQ.out.perm (by unfold SetAt;rw [HNN.out];ac_rfl)
     refine marks_ret1 (D:=D) rfl q1.pts_heap ⟨_,results_tmp rfl _ _ _,_,.slice ax nn cx,rfl,(q1.putObj (.deferred none)).right.left,?_⟩;exact((((hst2.alloc _).alloc _).trans hst').setCell _ _).putObj _ _
 case stop=>
  intro D c pre W2 _ hst hs;exact(Sat.pure.1 (hs.perm (Pr.star_assoc _ _ _))).1.elim
end Go.Proofs.YtkfjilnmnbeokaaGreat.Y2
namespace Go.Proofs.YtkfjilnmnbeokaaGreat.Z2
open ChangeShapes WideShapes ChangeAt RowKit Sl Go.Shelf E2 V2 X2 Y2
attribute [local go_sem] Oper.semAt_some
def remOne(lo hi:Int)(x:Int × Int):List (Int × Int):=
 if x.2<lo∨hi<x.1 then [x] else(if x.1<lo then [(x.1,lo-1)] else [])++(if hi<x.2 then [(hi+1,x.2)] else [])
def remRuns(rs:List (Int × Int))(lo hi:Int):List (Int × Int):=rs.flatMap (remOne lo hi)
theorem remOne_len(lo hi:Int)(x:Int × Int):(remOne lo hi x).length≤2:=by
 unfold remOne;split
 · simp
 · split<;>split<;>simp
theorem remRuns_snoc(rs:List (Int × Int))(lo hi:Int)(k:Nat)(h:k<rs.length):remRuns (rs.take (k+1)) lo hi=remRuns (rs.take k) lo hi++remOne lo hi rs[k]:=by
 unfold remRuns;rw [List.take_succ_eq_append_getElem h,List.flatMap_append];simp
theorem remRuns_len(rs:List (Int × Int))(lo hi:Int):(remRuns rs lo hi).length≤rs.length*2:=by
 unfold remRuns;induction rs with
 | nil=>simp
 | cons x rs ih=>have:=remOne_len lo hi x;simp only [List.flatMap_cons,List.length_append,List.length_cons];omega
theorem one2(a b:Int):∀u∈ [Value.int .i64 a,.int .i64 b],u.oneCell'=true:=fun u hu=>by
 simp only [List.mem_cons,List.not_mem_nil,or_false] at hu;rcases hu with rfl | rfl<;>rfl
theorem remove_any(p:Nat)(v:Value)(rs:List (Int × Int))(lo hi:Int)(hs:∀x∈rs,Small x)(hlh:Small (lo,hi))(hl:rs.length≤65536)(F:Pr)(w:World)(hF:Sat ((SetAt p v rs).star F) w):
 Calls Tryz.prog 179 #[.pointer (some ⟨p,0,none⟩),.int .i64 lo,.int .i64 hi] w fun e w'=>
  ∃(n:Int) (v':Value),e= .returned (.int .i64 n)∧Sat ((SetAt p v' (remRuns rs lo hi)).star F) w'∧Stays w w':=by
 obtain⟨s1,s2,s3⟩:=hlh;dsimp only at s1 s2 s3;have HL:=hQ hF;clear hF;refine calls_of_wp_marks (n:=9) Tryz.func179 rfl ?_;simp only [Tryz.ntmps179,List.size_toArray,List.length_cons,List.length_nil,Nat.reduceAdd,Nat.reduceSub,Array.replicate_succ,Array.replicate_zero,List.push_toArray,List.append_toArray,List.nil_append,List.cons_append]
 go_wp2_with (go_at_call 177;refine(within_any _ _ _ _).mono ?_;rintro e w' ⟨rfl,rfl⟩)
 have HS:Sat (((SomeCnt w.heap.size).star F).star (WithinOwn p (w.heap.size+1) (w.heap.size+1+1) v rs lo hi))
  (((w.alloc (.cells #[.int .u64 0] 206)).alloc (.cells #[.pointer (some ⟨p,0,none⟩)] 114)).alloc (.cells #[.int .i64 lo,.int .i64 hi] 204)):=by
  have h0:=((HL.out.alloc (.cells #[.int .u64 0] 206)).alloc (.cells #[.pointer (some ⟨p,0,none⟩)] 114)).alloc (.cells #[.int .i64 lo,.int .i64 hi] 204);simp only [World.size_alloc] at h0;have h1:Sat ((RunBx (w.heap.size+1+1) lo hi).star ((PtrBx (w.heap.size+1) p).star ((CntBx w.heap.size 0).star ((SetAt p v rs).star F)))) _:=h0;unfold WithinOwn;simp only [Pr.ex_star,Sat.ex0]
  exact⟨0,h1.perm (by ac_rfl)⟩
 have HR:Stays w (((w.alloc (.cells #[.int .u64 0] 206)).alloc (.cells #[.pointer (some ⟨p,0,none⟩)] 114)).alloc (.cells #[.int .i64 lo,.int .i64 hi] 204)):=(((Stays.refl w).alloc _).alloc _).alloc _;obtain⟨W0,hW0⟩:∃W0,(((w.alloc (.cells #[.int .u64 0] 206)).alloc (.cells #[.pointer (some ⟨p,0,none⟩)] 114)).alloc (.cells #[.int .i64 lo,.int .i64 hi] 204))=W0:=⟨_,rfl⟩;rw [hW0] at HS HR ⊢
 clear hW0 HL;obtain⟨R,hR⟩:∃R,w.heap.size=R:=⟨_,rfl⟩;rw [hR] at HS ⊢;clear hR;have HSM:=hQ hs;clear hs;have HS:=hQ HS;have HR:=hQ HR
 refine wp_rangeFunc_sl 9 (gf:=183) rfl (enters_of Tryz.func183 (by kernel_rfl) rfl) (within1 p (R+1) (R+1+1) v rs lo hi (by omega)) (fun _=>rfl)
  (fun _=>(SomeCnt R).star F) (fun _ _=>Pr.pure False) HS.out ?round ?done ?stop
 case round=>
  intro l' pre x W1 F1 _ hs;obtain⟨x1,x2⟩:=x;have HS1:=hQ hs;clear hs;simp only [encRun];gi_wp2
  have hsA:Sat ((RunBx W1.heap.size x1 x2).star ((((SomeCnt R).star F).star (WithinOwn p (R+1) (R+1+1) v rs lo hi)).star F1)) _:=HS1.out.alloc (.cells #[.int .i64 x1,.int .i64 x2] 204);refine⟨(RunBx W1.heap.size x1 x2).star (((SomeCnt R).star F).star (WithinOwn p (R+1) (R+1+1) v rs lo hi)),(Stays.refl _).alloc _,hsA.perm (by ac_rfl),?_⟩;clear hsA HS1;generalize W1.heap.size=B;intro F2 W2 _ hs2
  simp only [Pr.ex_star,Pr.star_ex,Sat.ex0] at hs2;obtain⟨n,hs2⟩:=hs2;have h1:Sat ((CntBx R n).star ((RunBx B x1 x2).star (F.star ((WithinOwn p (R+1) (R+1+1) v rs lo hi).star F2)))) W2:=hs2.perm (by ac_rfl);have r1:W2.cell? ⟨R,0,none⟩=some (.int .u64 n):=by rw [cell_of_heap h1.pts_heap];rfl
  have r2:W2.cell? ⟨B,0,none⟩=some (.int .i64 x1):=by rw [cell_of_heap h1.right.pts_heap];rfl
  have r3:W2.cell? ⟨B,1,none⟩=some (.int .i64 x2):=by rw [cell_of_heap h1.right.pts_heap];rfl
  have r4:=frozen_of_heap h1.pts_heap 0;have z1:=h1.lt;have H1:=hQ h1;clear h1 hs2;gi_wp2_with (refine⟨trivial,?_⟩;gi_at_call 164;refine(CallsIn.inRound _ (callsIn_wide.2 (with_any _ _ _ _))).mono ?_;rintro e w' ⟨⟨m,rfl⟩,rfl⟩)
  have h2:Sat ((CntBx R m).star _) (W2.setCell ⟨R,0,none⟩ (.int .u64 m)):=H1.out.setCell (i:=0) (.int .u64 m);have h3:=(h2.alloc (.cells #[.int .i64 x1,.int .i64 x2] 204)).right;refine⟨((Stays.refl _).setCell _ _).alloc _,?_⟩;simp only [Pr.ex_star,Sat.ex0];exact⟨m,(h3.perm (Pr.left_comm _ _ _)).right.perm (by ac_rfl)⟩
 case stop=>
  intro D c pre W2 _ hst hs;exact(Sat.pure.1 (hs.perm (Pr.star_assoc _ _ _))).1.elim
 case done=>
  intro D xs W2 _ hst hs;simp only [Pr.ex_star,Sat.ex0] at hs;obtain⟨n,hs⟩:=hs;have h1:Sat ((RunBx (R+1+1) lo hi).star ((PtrBx (R+1) p).star ((SetAt p v rs).star ((Pr.pts D (.deferred (some []))).star ((CntBx R n).star F))))) W2:=hs.perm (by unfold WithinOwn;ac_rfl);have h2:=h1.right.right;clear hs h1
  have h3:Sat ((Pr.pts p (.cells #[v] 202)).star ((Row 204 2 v rs.length (runCells rs)).star ((Pr.pts D (.deferred (some []))).star ((CntBx R n).star F)))) W2:=h2.perm (by unfold SetAt;ac_rfl);have r1:W2.cell? ⟨p,0,none⟩=some v:=by rw [cell_of_heap h3.pts_heap];rfl
  obtain⟨a0,c0,rfl,_,_⟩:=Row.read h3.right;have HI:=hQ (info_parts infoRun);have H3:=hQ h3;have HST:=hQ (HR.out.trans hst);clear h2 h3 hst HS HR;go_wp2
  go_loopw [9,29] (fun vb i wr=> ∃(k:Nat),k≤rs.length∧i= .int .i64 k∧Stays w wr∧
   Sat ((Row 204 2 vb (remRuns (rs.take k) lo hi).length (runCells (remRuns (rs.take k) lo hi))).star ((SetAt p (.slice a0 rs.length c0) rs).star ((Pr.pts D (.deferred (some []))).star ((CntBx R n).star F)))) wr) (fun _ i _=>rs.length-(intOf i).toNat)
  case atStart=>
   refine⟨0,Nat.zero_le _,rfl,HST.out,?_⟩;show Sat ((Row _ 2 (.slice none 0 0) 0 []).star _) _
   rw [Row.nil,Pr.emp_star];exact H3.out.perm (by unfold SetAt;ac_rfl)
  case round=>
   obtain⟨k,hk,rfl,hst2,hinv⟩:=hrel;by_cases hlt:k<rs.length
   · have hx:=HSM.out _ (List.getElem_mem hlt)
     have hsn:=remRuns_snoc rs lo hi k hlt;have hlen:=remRuns_len (rs.take k) lo hi;have hlk:(rs.take k).length≤k:=List.length_take_le _ _;have hk1:=(runCells_at rs k hlt).1;have hk2:=(runCells_at rs k hlt).2;generalize remRuns (rs.take k) lo hi=L at*;generalize rs[k]=x at*;obtain⟨x1,x2⟩:=x;obtain⟨hx1,hx2,hx3⟩:=hx;dsimp only at hx1 hx2 hx3 hk1 hk2
     have hr:Sat ((Row 204 2 (.slice a0 rs.length c0) rs.length (runCells rs)).star ((Pr.pts p (.cells #[.slice a0 rs.length c0] 202)).star ((Row 204 2 u9 L.length (runCells L)).star ((Pr.pts D (.deferred (some []))).star ((CntBx R n).star F))))) wr:=hinv.perm (by unfold SetAt;ac_rfl);obtain⟨a1,c1,e1,_,hrow⟩:=Row.read hr;cases e1;obtain⟨b,rfl,hc⟩:=hrow (by omega)
     have q1:=(hc (k*2) (by omega)).1.trans hk1;have q2:=(hc (k*2+1) (by omega)).1.trans hk2;have HSN:=hQ hsn;have HV:=hQ hinv;clear hsn hinv hr hc hrow hk1 hk2;obtain⟨i0,hi',hz0,hz1,hz2⟩:=HI.out
     have mk:∀(y1 y2:Int),Sat ((Row 204 2 u9 L.length (runCells L)).star ((Pr.pts wr.heap.size (.cells #[.int .i64 x1,.int .i64 x2] 204)).star ((SetAt p (.slice (some ⟨b,0,none⟩) rs.length c0) rs).star ((Pr.pts D (.deferred (some []))).star ((CntBx R n).star F)))))
      ((wr.alloc (.cells #[.int .i64 x1,.int .i64 x2] 204)).alloc (.cells #[.int .i64 y1,.int .i64 y2] 204))∧
      ∀j u,[Value.int .i64 y1,.int .i64 y2][j]? =some u→((wr.alloc (.cells #[.int .i64 x1,.int .i64 x2] 204)).alloc (.cells #[.int .i64 y1,.int .i64 y2] 204)).cell? ((⟨wr.heap.size+1,0,none⟩:Addr).add j)=some u:=by
      intro y1 y2;refine⟨((HV.out.alloc (.cells #[.int .i64 x1,.int .i64 x2] 204)).alloc (.cells #[.int .i64 y1,.int .i64 y2] 204)).right.perm (Pr.left_comm _ _ _),?_⟩;have:=cell_two_new (wr.alloc (.cells #[.int .i64 x1,.int .i64 x2] 204)) (.int .i64 y1) (.int .i64 y2) 204
      rwa [World.size_alloc] at this
     have MK:=hQ mk;have hll:L.length≤131072:=by omega
     clear mk HI
     have out:∀(vv:Value) (ys:List (Int × Int)) (ws:World) (m:Nat) (cs:List Value),remOne lo hi (x1,x2)=ys→L.length+ys.length=m→runCells L++runCells ys=cs→
      Sat ((Row 204 2 vv m cs).star ((Pr.pts wr.heap.size (.cells #[.int .i64 x1,.int .i64 x2] 204)).star ((SetAt p (.slice (some ⟨b,0,none⟩) rs.length c0) rs).star ((Pr.pts D (.deferred (some []))).star ((CntBx R n).star F))))) ws→
      Sat ((Row 204 2 vv (remRuns (rs.take (k+1)) lo hi).length (runCells (remRuns (rs.take (k+1)) lo hi))).star ((SetAt p (.slice (some ⟨b,0,none⟩) rs.length c0) rs).star ((Pr.pts D (.deferred (some []))).star ((CntBx R n).star F)))) ws:=by
      intro vv ys ws m cs e1 e2 e3 h;rw [HSN.out,e1,runCells_append,List.length_append,e2,e3];exact(h.perm (Pr.left_comm _ _ _)).right
     have OUT:=hQ out;clear out HSN;by_cases c1:x2<lo
     · have e:remOne lo hi (x1,x2)= [(x1,x2)]:=by unfold remOne;rw [if_pos (Or.inl c1)]
       have HE:=hQ e;clear e
       go_wp2_with (at_builtin;refine wpList_append_sl rfl _ _ _ rfl 204 i0 (.agg #[.int .i64 0,.int .i64 0]) 2 16 Tryz.underlying200 hi' hz0 hz1 hz2 rfl _ _ _ rfl (MK.out (x1) (x2)).1 ⟨wr.heap.size+1,0,none⟩ 1 1 [.int .i64 (x1),.int .i64 (x2)] rfl rfl (MK.out (x1) (x2)).2 (one2 _ _) (by simp only [maxLen];omega) (by omega) ?_;intro v' w1 hsat hgr _;have HSAT:=hQ hsat;have kx1:w1.cell? ⟨wr.heap.size,0,none⟩=some (.int .i64 x1):=(by rw [cell_of_heap (HSAT.out.right.pts_heap)];rfl);have kx2:w1.cell? ⟨wr.heap.size,1,none⟩=some (.int .i64 x2):=(by rw [cell_of_heap (HSAT.out.right.pts_heap)];rfl);clear hsat MK)
       go_roundw
       case rel=>exact⟨k+1,by omega,by go_num,(((hst2.alloc _).alloc _).of_grown hgr),OUT.out _ _ _ _ _ HE.out rfl rfl HSAT.out⟩
       case measure=>simp [intOf];omega
     · by_cases c2:hi<x1
       · have e:remOne lo hi (x1,x2)= [(x1,x2)]:=by unfold remOne;rw [if_pos (Or.inr c2)]
         have HE:=hQ e;clear e
         go_wp2_with (at_builtin;refine wpList_append_sl rfl _ _ _ rfl 204 i0 (.agg #[.int .i64 0,.int .i64 0]) 2 16 Tryz.underlying200 hi' hz0 hz1 hz2 rfl _ _ _ rfl (MK.out (x1) (x2)).1 ⟨wr.heap.size+1,0,none⟩ 1 1 [.int .i64 (x1),.int .i64 (x2)] rfl rfl (MK.out (x1) (x2)).2 (one2 _ _) (by simp only [maxLen];omega) (by omega) ?_;intro v' w1 hsat hgr _;have HSAT:=hQ hsat;have kx1:w1.cell? ⟨wr.heap.size,0,none⟩=some (.int .i64 x1):=(by rw [cell_of_heap (HSAT.out.right.pts_heap)];rfl);have kx2:w1.cell? ⟨wr.heap.size,1,none⟩=some (.int .i64 x2):=(by rw [cell_of_heap (HSAT.out.right.pts_heap)];rfl);clear hsat MK)
         go_roundw
         case rel=>exact⟨k+1,by omega,by go_num,(((hst2.alloc _).alloc _).of_grown hgr),OUT.out _ _ _ _ _ HE.out rfl rfl HSAT.out⟩
         case measure=>simp [intOf];omega
       · have e0:remOne lo hi (x1,x2)=(if x1<lo then [(x1,lo-1)] else [])++(if hi<x2 then [(hi+1,x2)] else []):=by unfold remOne;rw [if_neg (by dsimp only;omega)]
         by_cases c3:x1<lo
         · by_cases c4:hi<x2
           · have e:remOne lo hi (x1,x2)= [(x1,lo-1),(hi+1,x2)]:=by rw [e0,if_pos c3,if_pos c4];rfl
             have HE:=hQ e;clear e e0
             go_wp2_with (first | (at_builtin;refine wpList_append_sl rfl _ _ _ rfl 204 i0 (.agg #[.int .i64 0,.int .i64 0]) 2 16 Tryz.underlying200 hi' hz0 hz1 hz2 rfl _ _ _ rfl (MK.out (x1) (lo-1)).1 ⟨wr.heap.size+1,0,none⟩ 1 1 [.int .i64 (x1),.int .i64 (lo-1)] rfl rfl (MK.out (x1) (lo-1)).2 (one2 _ _) (by simp only [maxLen];omega) (by omega) ?_;intro v' w1 hsat hgr _;have HSAT:=hQ hsat;have kx1:w1.cell? ⟨wr.heap.size,0,none⟩=some (.int .i64 x1):=(by rw [cell_of_heap (HSAT.out.right.pts_heap)];rfl);have kx2:w1.cell? ⟨wr.heap.size,1,none⟩=some (.int .i64 x2):=(by rw [cell_of_heap (HSAT.out.right.pts_heap)];rfl);clear hsat MK) | (at_builtin;refine wpList_append_sl rfl _ _ _ rfl 204 i0 (.agg #[.int .i64 0,.int .i64 0]) 2 16 Tryz.underlying200 hi' hz0 hz1 hz2 rfl _ _ _ rfl (HSAT.out.alloc _).right ⟨w1.heap.size,0,none⟩ 1 1 [.int .i64 (hi+1),.int .i64 x2] rfl rfl (cell_two_new _ _ _ _) (one2 _ _) (by simp only [maxLen];omega) (by omega) ?_;intro v2 w2 hsat2 hgr2 _;have HSAT2:=hQ hsat2;clear hsat2))
             go_roundw
             case rel=>exact⟨k+1,by omega,by go_num,(((((hst2.alloc _).alloc _).of_grown hgr).alloc _).of_grown hgr2),OUT.out _ _ _ _ _ HE.out (by simp) (by rw [show [(x1,lo-1),(hi+1,x2)]= [(x1,lo-1)]++ [(hi+1,x2)] from rfl,runCells_append, ← List.append_assoc];rfl) HSAT2.out⟩
             case measure=>simp [intOf];omega
           · have e:remOne lo hi (x1,x2)= [(x1,lo-1)]:=by rw [e0,if_pos c3,if_neg c4];rfl
             have HE:=hQ e;clear e e0
             go_wp2_with (at_builtin;refine wpList_append_sl rfl _ _ _ rfl 204 i0 (.agg #[.int .i64 0,.int .i64 0]) 2 16 Tryz.underlying200 hi' hz0 hz1 hz2 rfl _ _ _ rfl (MK.out (x1) (lo-1)).1 ⟨wr.heap.size+1,0,none⟩ 1 1 [.int .i64 (x1),.int .i64 (lo-1)] rfl rfl (MK.out (x1) (lo-1)).2 (one2 _ _) (by simp only [maxLen];omega) (by omega) ?_;intro v' w1 hsat hgr _;have HSAT:=hQ hsat;have kx1:w1.cell? ⟨wr.heap.size,0,none⟩=some (.int .i64 x1):=(by rw [cell_of_heap (HSAT.out.right.pts_heap)];rfl);have kx2:w1.cell? ⟨wr.heap.size,1,none⟩=some (.int .i64 x2):=(by rw [cell_of_heap (HSAT.out.right.pts_heap)];rfl);clear hsat MK)
             go_roundw
             case rel=>exact⟨k+1,by omega,by go_num,(((hst2.alloc _).alloc _).of_grown hgr),OUT.out _ _ _ _ _ HE.out rfl rfl HSAT.out⟩
             case measure=>simp [intOf];omega
         · by_cases c4:hi<x2
           · have e:remOne lo hi (x1,x2)= [(hi+1,x2)]:=by rw [e0,if_neg c3,if_pos c4];rfl
             have HE:=hQ e;clear e e0
             go_wp2_with (at_builtin;refine wpList_append_sl rfl _ _ _ rfl 204 i0 (.agg #[.int .i64 0,.int .i64 0]) 2 16 Tryz.underlying200 hi' hz0 hz1 hz2 rfl _ _ _ rfl (MK.out (hi+1) (x2)).1 ⟨wr.heap.size+1,0,none⟩ 1 1 [.int .i64 (hi+1),.int .i64 (x2)] rfl rfl (MK.out (hi+1) (x2)).2 (one2 _ _) (by simp only [maxLen];omega) (by omega) ?_;intro v' w1 hsat hgr _;have HSAT:=hQ hsat;have kx1:w1.cell? ⟨wr.heap.size,0,none⟩=some (.int .i64 x1):=(by rw [cell_of_heap (HSAT.out.right.pts_heap)];rfl);have kx2:w1.cell? ⟨wr.heap.size,1,none⟩=some (.int .i64 x2):=(by rw [cell_of_heap (HSAT.out.right.pts_heap)];rfl);clear hsat MK)
             go_roundw
             case rel=>exact⟨k+1,by omega,by go_num,(((hst2.alloc _).alloc _).of_grown hgr),OUT.out _ _ _ _ _ HE.out rfl rfl HSAT.out⟩
             case measure=>simp [intOf];omega
           · have e:remOne lo hi (x1,x2)= []:=by rw [e0,if_neg c3,if_neg c4];rfl
             have HE:=hQ e;clear e e0;go_wp2;go_roundw
             case rel=>exact⟨k+1,by omega,by go_num,hst2.alloc _,OUT.out _ _ _ _ _ HE.out rfl (by simp [runCells]) ((HV.out.alloc _).perm (Pr.left_comm _ _ _))⟩
             case measure=>simp [intOf];omega
   · have hkl:k=rs.length:=by omega
     subst hkl;rw [List.take_length] at hinv;have hq:Sat ((Pr.pts p (.cells #[.slice a0 rs.length c0] 202)).star ((CntBx R n).star ((Pr.pts D (.deferred (some []))).star ((Row 204 2 u9 (remRuns rs lo hi).length (runCells (remRuns rs lo hi))).star (F.star (Row 204 2 (.slice a0 rs.length c0) rs.length (runCells rs))))))) wr:=hinv.perm (by unfold SetAt;ac_rfl)
     obtain⟨av,cv,e1,_,_⟩:=Row.read hq.right.right.right;have r3:wr.cell? ⟨p,0,none⟩=some (.slice a0 rs.length c0):=by rw [cell_of_heap hq.pts_heap];rfl
     have r4:=frozen_of_heap hq.pts_heap 0;have r5:wr.cell? ⟨R,0,none⟩=some (.int .u64 n):=by rw [cell_of_heap hq.right.pts_heap];rfl
     have hpr:p≠R:=hq.pts_ne;subst e1;have HQ:Hid (Sat ((Pr.pts p (.cells #[.slice av (remRuns rs lo hi).length cv] 202)).star _) _):=hq.setCell (i:=0) (.slice av (remRuns rs lo hi).length cv);clear hq hinv;generalize hnn:(remRuns rs lo hi).length=nn at*;have HNN:=hQ hnn;clear hnn;go_wp2
     have q1:Sat ((Pr.pts D (.deferred (some []))).star (((SetAt p (.slice av nn cv) (remRuns rs lo hi)).star F).star ((CntBx R n).star (Row 204 2 (.slice a0 rs.length c0) rs.length (runCells rs))))) (wr.setCell ⟨p,0,none⟩ (.slice av nn cv)):=HQ.out.perm (by unfold SetAt;rw [HNN.out];ac_rfl)
     refine marks_ret1 (D:=D) rfl q1.pts_heap ⟨_,results_tmp rfl _ _ _,_,.slice av nn cv,rfl,(q1.putObj (.deferred none)).right.left,?_⟩;exact(hst2.setCell _ _).putObj _ _
end Go.Proofs.YtkfjilnmnbeokaaGreat.Z2
