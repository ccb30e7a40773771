/- The library's Grow and Concat at rows of runs. By walks; the conditions stand as hypotheses. -/
import Derived.Test.YtiegeadmgpanoaaGreatDoorWalkChecksM05
import Derived.Test.YtiegeadmgpanoaaGreatDoorWalkChecksM04
import Derived.Test.YtiegeadmgpanoaaGreatDoorWalkChecksM01
import Derived.Test.YtiegeadmgpanoaaGreatDoorWalkChecksM02
set_option maxRecDepth 100000
set_option maxHeartbeats 16000000
namespace Go.Proofs.YtiegeadmgpanoaaGreatDoor.Y2
open ChangeShapes WideShapes ChangeAt RowKit Sl E2
theorem infoRun:(Tryz.prog.info? 199).map (fun i=>(i.zero,i.size,i.bytes))=some (some (.agg #[.int .i64 0,.int .i64 0]),2,16):=by kernel_rfl
theorem zeros_run(n:Nat)(h0:0<n)(hn:n≤4294967296)(wx:World):∃(cap:Nat) (cells:List Value),n≤cap∧cap≤maxLen∧cells.length=cap*2∧
 (Builtin.append_ #[195,3] 195 #[.slice none 0 0,.int .i64 n]).run Tryz.prog wx= .ok (.slice (some ⟨wx.heap.size,0,none⟩) n cap) (wx.drew.alloc (.cells cells.toArray 199)):=by
 obtain⟨i0,hi,hz0,hz1,hz2⟩:=info_parts infoRun;have hr:=Lib.run_append_nil_zeros (P:=Tryz.prog) wx 195 3 195 199 i0 (.agg #[.int .i64 0,.int .i64 0]) .i64 .i64 Tryz.underlying195 Tryz.underlying3 hi hz0 n h0 (by omega) (by omega) (by rw [hz2];omega);have hg:=grownCap_ge wx n 0 199
 refine⟨grownCap wx n 0 199,(Builtin.zeroCells #[.int .i64 0,.int .i64 0] n++Builtin.zeroCells #[.int .i64 0,.int .i64 0] (grownCap wx n 0 199-n)).toList,hg,grownCap_le_maxLen wx n 0 _ (by simp only [maxLen];omega),?_,hr⟩;rw [Array.length_toList,Array.size_append,size_zeros,size_zeros];show n*2+ _*2=_
 omega
theorem grow_after {cap:Nat}{cells:List Value}{F:Pr}{w:World}(hF:Sat F w)(h1:cap≤maxLen)(h2:cells.length=cap*2):
 Sat ((Row 199 2 (.slice (some ⟨w.heap.size,0,none⟩) 0 cap) 0 []).star F) (w.drew.alloc (.cells cells.toArray 199)):=
 Row.mk' (sp:=cells) (by simp) (by simpa using h2) (Nat.zero_le _) h1 (by simpa using (hF.drew).alloc (.cells cells.toArray 199))
theorem grow_nil(n:Nat)(hn:n≤4294967296)(F:Pr)(w:World)(hF:Sat F w):
 Calls Tryz.prog 154 #[.slice none 0 0,.int .i64 n] w fun e w'=>
  ∃v,e= .returned v∧Sat ((Row 199 2 v 0 []).star F) w'∧Stays w w':=by
 by_cases h0:0<n
 · obtain⟨cap,cells,h1,h2,h3,h4⟩:=zeros_run n h0 hn w
   have HR:=hQ h4;have HF:=hQ (grow_after hF h2 h3);clear h4 hF h3;go_enter Tryz.func154,Tryz.ntmps154
   go_wp2_with (at_builtin;refine Lib.wpList_append_run _ rfl _ _ _ _ rfl _ _ rfl rfl _ _ HR.out ?_)
   go_ret;exact⟨_,rfl,HF.out,((Stays.refl w).drew).alloc _⟩
 · have:n=0:=by omega
   subst this;go_enter Tryz.func154,Tryz.ntmps154
   go_wp2;go_ret;exact⟨.slice none 0 0,rfl,by rw [Row.nil,Pr.emp_star];exact hF,Stays.refl w⟩
def total(ps:List (Value × Nat × List Value)):Nat:=(ps.map fun x=>x.2.1).sum
def flat(ps:List (Value × Nat × List Value)):List Value:=ps.flatMap fun x=>x.2.2
theorem total_snoc(ps:List (Value × Nat × List Value))(k:Nat)(h:k<ps.length):total (ps.take (k+1))=total (ps.take k)+ps[k].2.1:=by
 unfold total;rw [List.take_succ_eq_append_getElem h,List.map_append,List.sum_append];simp
theorem flat_snoc(ps:List (Value × Nat × List Value))(k:Nat)(h:k<ps.length):flat (ps.take (k+1))=flat (ps.take k)++ps[k].2.2:=by
 unfold flat;rw [List.take_succ_eq_append_getElem h,List.flatMap_append];simp
theorem total_le(ps:List (Value × Nat × List Value))(k:Nat):total (ps.take k)≤total ps:=by
 unfold total;have:=List.take_append_drop k ps
 have h2:(ps.map fun x=>x.2.1).sum=((ps.take k).map fun x=>x.2.1).sum+((ps.drop k).map fun x=>x.2.1).sum:=by
  rw [← List.sum_append, ← List.map_append,this]
 omega
theorem concat_any(h:Hp)(sv:Value)(ps:List (Value × Nat × List Value))(hs:RowIn h 1 sv ps.length (ps.map fun x=>x.1))
 (hps:∀x∈ps,RowIn h 2 x.1 x.2.1 x.2.2∧∀u∈x.2.2,u.oneCell'=true) (hb:total ps≤4294967296) (hlen:ps.length≤65536) (F:Pr) (w:World) (hF:Sat ((Pr.own h).star F) w):
 Calls Tryz.prog 137 #[sv] w fun e w'=>
  ∃v,e= .returned v∧Sat ((Row 199 2 v (total ps) (flat ps)).star ((Pr.own h).star F)) w'∧Stays w w':=by
 obtain⟨_,a,c,rfl,_,_,hcell⟩:=hs
 have cells:∀(k:Nat) (hk:k<ps.length) (wx:World),h.le wx→∃b off a' n' c',a=some ⟨b,off,none⟩∧ps[k].1= .slice a' n' c'∧n'=ps[k].2.1∧wx.cell? ⟨b,off+k,none⟩=some (.slice a' n' c'):=by
  intro k hk wx hle;obtain⟨b,off,e1,hc⟩:=hcell (by omega);obtain⟨_,a',c',e2,_⟩:=(hps _ (List.getElem_mem hk)).1;refine⟨b,off,a',_,c',e1,e2,rfl,?_⟩;refine Hp.cell_le hle ((hc k (by omega)).trans ?_);simp [hk,e2]
 have HC:=hQ cells;have HL:=hQ hF;have HPS:=hQ hps;have hle:=hF.own;clear cells hF hcell hps;go_enter Tryz.func137,Tryz.ntmps137
 go_wp2;go_loop [3,11] (fun s i=> ∃k:Nat,k≤ps.length∧i= .int .i64 k∧s= .int .i64 (total (ps.take k):Nat)) (fun _ i=>ps.length-(intOf i).toNat)
 case atStart=>exact⟨0,Nat.zero_le _,rfl,rfl⟩
 case round=>
  obtain⟨k,hk,rfl,rfl⟩:=hrel;have ht:=total_le ps k;by_cases hlt:k<ps.length
  · obtain⟨b,off,a',n',c',rfl,e2,e3,e4⟩:=HC.out k hlt w hle
    have hs1:=total_snoc ps k hlt;have ht1:=total_le ps (k+1);rw [← e3] at hs1;have HS1:=hQ hs1;have hn':total (ps.take k)+n'≤4294967296:=by omega
    clear hs1 ht1 e2 e3;generalize total (ps.take k)=tk at*;go_wp2;go_round
    case rel=>exact⟨k+1,by omega,by go_num,by rw [HS1.out];go_num⟩
    case measure=>simp [intOf];omega
  · have hkl:k=ps.length:=by omega
    subst hkl;rw [List.take_length] at*;go_wp2_with (go_at_call 154;refine(grow_nil _ hb _ _ HL.out).mono ?_;rintro e w' ⟨v0,rfl,hg,hst⟩)
    have HG:=hQ hg;clear hg;go_loopw [6,27] (fun v i wr=> ∃k:Nat,k≤ps.length∧i= .int .i64 k∧Stays w wr∧Sat ((Row 199 2 v (total (ps.take k)) (flat (ps.take k))).star ((Pr.own h).star F)) wr) (fun _ i _=>ps.length-(intOf i).toNat)
    case atStart=>exact⟨0,Nat.zero_le _,rfl,hst,HG.out⟩
    case round=>
     obtain⟨k,hk,rfl,hst2,hrow⟩:=hrel;by_cases hlt:k<ps.length
     · have hle2:=hrow.right.own
       obtain⟨b,off,a',n',c',rfl,e2,e3,e4⟩:=HC.out k hlt _ hle2;have hx:=HPS.out _ (List.getElem_mem hlt);rw [e2, ← e3] at hx;have hs1:=total_snoc ps k hlt;have hs2:=flat_snoc ps k hlt;have ht1:=total_le ps (k+1);rw [← e3] at hs1;have HS1:=hQ hs1;have HS2:=hQ hs2;have hn':total (ps.take k)+n'≤4294967296:=by omega
       have HX:=hQ hx;have HROW:=hQ hrow;have HLE:=hQ hle2;have HI:=hQ (info_parts infoRun);clear hs1 hs2 ht1 e2 e3 hx hrow hle2 hst hle;generalize total (ps.take k)=tk at*;generalize ps[k].2.2=news at*;obtain⟨i0,hi,hz0,hz1,hz2⟩:=HI.out
       go_wp2_with (at_builtin;refine wpList_append_row rfl _ _ _ rfl 199 i0 (.agg #[.int .i64 0,.int .i64 0]) 2 16 Tryz.underlying195 hi hz0 hz1 hz2 rfl _ _ _ rfl HROW.out h HLE.out _ _ _ rfl HX.out.1 HX.out.2 (by simp only [maxLen];omega) (by omega) ?_;intro v' w1 hsat hgr _;have HSAT:=hQ hsat;clear hsat)
       go_roundw
       case rel=>exact⟨k+1,by omega,by go_num,hst2.of_grown hgr,by rw [HS1.out,HS2.out];exact HSAT.out⟩
       case measure=>simp [intOf];omega
     · have hkl:k=ps.length:=by omega
       subst hkl;rw [List.take_length] at hrow;have HROW:=hQ hrow;clear hrow;go_wp2;go_ret;exact⟨_,rfl,HROW.out,hst2⟩
end Go.Proofs.YtiegeadmgpanoaaGreatDoor.Y2
namespace Go.Proofs.YtiegeadmgpanoaaGreatDoor.Z2
open ChangeShapes WideShapes ChangeAt RowKit Sl Go.Shelf E2 X2 Y2
attribute [local go_sem] Oper.semAt_some
abbrev AddSt:=List (Int × Int) × (Int × Int) × List (Int × Int)
def addStep(s:AddSt)(x:Int × Int):AddSt:=
 if x.2+1<s.2.1.1 then(s.1++ [x],s.2.1,s.2.2)
 else if s.2.1.2<x.1-1 then(s.1,s.2.1,s.2.2++ [x])
 else(s.1,(min s.2.1.1 x.1,max s.2.1.2 x.2),s.2.2)
def addFold(rs:List (Int × Int))(lo hi:Int):AddSt:=rs.foldl addStep ([],(lo,hi),[])
def addRuns(rs:List (Int × Int))(lo hi:Int):List (Int × Int):=(addFold rs lo hi).1++ [(addFold rs lo hi).2.1]++(addFold rs lo hi).2.2
def Small(x:Int × Int):Prop:=0≤x.1∧x.1≤x.2∧x.2≤4294967296
theorem addFold_len(rs:List (Int × Int))(lo hi:Int):(addFold rs lo hi).1.length+(addFold rs lo hi).2.2.length≤rs.length:=by
 unfold addFold;suffices h:∀(s:AddSt),(rs.foldl addStep s).1.length+(rs.foldl addStep s).2.2.length≤rs.length+(s.1.length+s.2.2.length) by simpa using h ([],(lo,hi),[])
 induction rs with
 | nil=>intro s;simp
 | cons x rs ih=>
   intro s;have:=ih (addStep s x)
   simp only [List.foldl_cons,List.length_cons]
   have h2:(addStep s x).1.length+(addStep s x).2.2.length≤1+(s.1.length+s.2.2.length):=by
    unfold addStep;split
    · simp;omega
    · split<;>simp<;>omega
   omega
theorem addFold_snoc(rs:List (Int × Int))(lo hi:Int)(k:Nat)(h:k<rs.length):addFold (rs.take (k+1)) lo hi=addStep (addFold (rs.take k) lo hi) rs[k]:=by
 unfold addFold;rw [List.take_succ_eq_append_getElem h,List.foldl_append];rfl
theorem put_run {R:Nat}{lo hi m1 m2 n1 n2:Int}{F:Pr}{w:World}{o:Obj}(h:Sat ((RunBx R lo hi).star F) w)(e1:m1=n1)(e2:m2=n2):
 Sat ((RunBx R n1 n2).star F) ((((w.setCell ⟨R,0,none⟩ (.int .i64 m1)).setCell ⟨R,1,none⟩ (.int .i64 m2)).alloc o).drew):=by
 subst e1;subst e2;have h1:Sat ((RunBx R m1 hi).star F) (w.setCell ⟨R,0,none⟩ (.int .i64 m1)):=h.setCell (i:=0) _;have h2:Sat ((RunBx R m1 m2).star F) _:=h1.setCell (i:=1) (.int .i64 m2);exact(h2.alloc o).right.drew
abbrev CntBx(b:Nat)(n:Int):Pr:=Pr.pts b (.cells #[.int .u64 n] 201)
abbrev SomeCnt(b:Nat):Pr:=Pr.ex fun n:Int=>CntBx b n
theorem add_any(p:Nat)(v:Value)(rs:List (Int × Int))(lo hi:Int)(hs:∀x∈rs,Small x)(hlh:Small (lo,hi))(hl:rs.length≤65536)(F:Pr)(w:World)(hF:Sat ((SetAt p v rs).star F) w):
 Calls Tryz.prog 108 #[.pointer (some ⟨p,0,none⟩),.int .i64 lo,.int .i64 hi] w fun e w'=>
  ∃(n:Int) (v':Value),e= .returned (.int .i64 n)∧Sat ((SetAt p v' (addRuns rs lo hi)).star F) w'∧Stays w w':=by
 obtain⟨s1,s2,s3⟩:=hlh;dsimp only at s1 s2 s3;have HL:=hQ hF;clear hF;refine calls_of_wp_marks (n:=9) Tryz.func108 rfl ?_;simp only [Tryz.ntmps108,List.size_toArray,List.length_cons,List.length_nil,Nat.reduceAdd,Nat.reduceSub,Array.replicate_succ,Array.replicate_zero,List.push_toArray,List.append_toArray,List.nil_append,List.cons_append]
 go_wp2_with (go_at_call 135;refine(gaps_any _ _ _ _).mono ?_;rintro e w' ⟨rfl,rfl⟩)
 have HS:Sat ((((SomeCnt (w.heap.size+1)).star ((RunBx w.heap.size lo hi).star F))).star (GapsOwn p (w.heap.size+1+1) (w.heap.size+1+1+1) v rs))
  ((((w.alloc (.cells #[.int .i64 lo,.int .i64 hi] 199)).alloc (.cells #[.int .u64 0] 201)).alloc (.cells #[.pointer (some ⟨p,0,none⟩)] 155)).alloc (.cells #[.int .i64 lo,.int .i64 hi] 199)):=by
  have h0:=(((HL.out.alloc (.cells #[.int .i64 lo,.int .i64 hi] 199)).alloc (.cells #[.int .u64 0] 201)).alloc (.cells #[.pointer (some ⟨p,0,none⟩)] 155)).alloc (.cells #[.int .i64 lo,.int .i64 hi] 199);simp only [World.size_alloc] at h0
  have h1:Sat ((RunBx (w.heap.size+1+1+1) lo hi).star ((PtrBx (w.heap.size+1+1) p).star ((CntBx (w.heap.size+1) 0).star ((RunBx w.heap.size lo hi).star ((SetAt p v rs).star F))))) _:=h0;unfold GapsOwn;simp only [Pr.ex_star,Pr.star_ex,Sat.ex0];exact⟨(lo,hi),0,h1.perm (by dsimp only;ac_rfl)⟩
 have HR:Stays w ((((w.alloc (.cells #[.int .i64 lo,.int .i64 hi] 199)).alloc (.cells #[.int .u64 0] 201)).alloc (.cells #[.pointer (some ⟨p,0,none⟩)] 155)).alloc (.cells #[.int .i64 lo,.int .i64 hi] 199)):=((((Stays.refl w).alloc _).alloc _).alloc _).alloc _
 obtain⟨W0,hW0⟩:∃W0,((((w.alloc (.cells #[.int .i64 lo,.int .i64 hi] 199)).alloc (.cells #[.int .u64 0] 201)).alloc (.cells #[.pointer (some ⟨p,0,none⟩)] 155)).alloc (.cells #[.int .i64 lo,.int .i64 hi] 199))=W0:=⟨_,rfl⟩;rw [hW0] at HS HR ⊢;clear hW0 HL;obtain⟨R,hR⟩:∃R,w.heap.size=R:=⟨_,rfl⟩;rw [hR] at HS ⊢;clear hR;have HSM:=hQ hs;clear hs;have HS:=hQ HS;have HR:=hQ HR
 refine wp_rangeFunc_sl 9 (gf:=152) rfl (enters_of Tryz.func152 (by kernel_rfl) rfl) (gaps1 p (R+1+1) (R+1+1+1) v rs (by omega)) (fun _=>rfl)
  (fun _=>(SomeCnt (R+1)).star ((RunBx R lo hi).star F)) (fun _ _=>Pr.pure False) HS.out ?round ?done ?stop
 case round=>
  intro l' pre x W1 F1 _ hs;obtain⟨x1,x2⟩:=x;have HS1:=hQ hs;clear hs;simp only [encRun];gi_wp2
  have hsA:Sat ((RunBx W1.heap.size x1 x2).star ((((SomeCnt (R+1)).star ((RunBx R lo hi).star F)).star (GapsOwn p (R+1+1) (R+1+1+1) v rs)).star F1)) _:=HS1.out.alloc (.cells #[.int .i64 x1,.int .i64 x2] 199);refine⟨(RunBx W1.heap.size x1 x2).star (((SomeCnt (R+1)).star ((RunBx R lo hi).star F)).star (GapsOwn p (R+1+1) (R+1+1+1) v rs)),(Stays.refl _).alloc _,hsA.perm (by ac_rfl),?_⟩;clear hsA HS1
  generalize W1.heap.size=B;intro F2 W2 _ hs2;simp only [Pr.ex_star,Pr.star_ex,Sat.ex0] at hs2;obtain⟨n,hs2⟩:=hs2;have h1:Sat ((CntBx (R+1) n).star ((RunBx B x1 x2).star (((RunBx R lo hi).star F).star ((GapsOwn p (R+1+1) (R+1+1+1) v rs).star F2)))) W2:=hs2.perm (by ac_rfl);have r1:W2.cell? ⟨R+1,0,none⟩=some (.int .u64 n):=by rw [cell_of_heap h1.pts_heap];rfl
  have r2:W2.cell? ⟨B,0,none⟩=some (.int .i64 x1):=by rw [cell_of_heap h1.right.pts_heap];rfl
  have r3:W2.cell? ⟨B,1,none⟩=some (.int .i64 x2):=by rw [cell_of_heap h1.right.pts_heap];rfl
  have r4:=frozen_of_heap h1.pts_heap 0;have z1:=h1.lt;have H1:=hQ h1;clear h1 hs2;gi_wp2_with (refine⟨trivial,?_⟩;gi_at_call 136;refine(CallsIn.inRound _ (callsIn_wide.2 (with_any _ _ _ _))).mono ?_;rintro e w' ⟨⟨m,rfl⟩,rfl⟩)
  have h2:Sat ((CntBx (R+1) m).star _) (W2.setCell ⟨R+1,0,none⟩ (.int .u64 m)):=H1.out.setCell (i:=0) (.int .u64 m);have h3:=(h2.alloc (.cells #[.int .i64 x1,.int .i64 x2] 199)).right;refine⟨((Stays.refl _).setCell _ _).alloc _,?_⟩;simp only [Pr.ex_star,Sat.ex0];exact⟨m,(h3.perm (Pr.left_comm _ _ _)).right.perm (by ac_rfl)⟩
 case done=>
  intro D xs W2 _ hst hs;unfold GapsOwn at hs;simp only [Pr.ex_star,Pr.star_ex,Sat.ex0] at hs;obtain⟨⟨a,b⟩,n,hs⟩:=hs;have h1:Sat ((RunBx (R+1+1+1) a b).star ((PtrBx (R+1+1) p).star ((SetAt p v rs).star ((RunBx R lo hi).star ((Pr.pts D (.deferred (some []))).star ((CntBx (R+1) n).star F)))))) W2:=hs.perm (by dsimp only;ac_rfl);have h2:=h1.right.right;clear hs h1
  have h3:Sat ((Pr.pts p (.cells #[v] 197)).star ((Row 199 2 v rs.length (runCells rs)).star ((RunBx R lo hi).star ((Pr.pts D (.deferred (some []))).star ((CntBx (R+1) n).star F))))) W2:=h2.perm (by unfold SetAt;ac_rfl);have r1:W2.cell? ⟨p,0,none⟩=some v:=by rw [cell_of_heap h3.pts_heap];rfl
  obtain⟨a0,c0,rfl,_,_⟩:=Row.read h3.right;have HI:=hQ (info_parts infoRun);have H3:=hQ h3;have HST:=hQ (HR.out.trans hst);clear h2 h3 hst HS HR;go_wp2
  go_loopw [10,11,32] (fun vb va i wr=> ∃(k:Nat),k≤rs.length∧i= .int .i64 k∧Stays w wr∧Small (addFold (rs.take k) lo hi).2.1∧
   Sat ((Row 199 2 vb (addFold (rs.take k) lo hi).1.length (runCells (addFold (rs.take k) lo hi).1)).star ((Row 199 2 va (addFold (rs.take k) lo hi).2.2.length (runCells (addFold (rs.take k) lo hi).2.2)).star
    ((RunBx R (addFold (rs.take k) lo hi).2.1.1 (addFold (rs.take k) lo hi).2.1.2).star ((SetAt p (.slice a0 rs.length c0) rs).star ((Pr.pts D (.deferred (some []))).star ((CntBx (R+1) n).star F)))))) wr) (fun _ _ i _=>rs.length-(intOf i).toNat)
  case atStart=>
   refine⟨0,Nat.zero_le _,rfl,HST.out,⟨s1,s2,s3⟩,?_⟩;show Sat ((Row _ 2 (.slice none 0 0) 0 []).star ((Row _ 2 (.slice none 0 0) 0 []).star _)) _
   rw [Row.nil,Pr.emp_star,Pr.emp_star];exact H3.out.perm (by unfold SetAt;ac_rfl)
  case round=>
   obtain⟨k,hk,rfl,hst2,hsm,hinv⟩:=hrel;by_cases hlt:k<rs.length
   · have hx:=HSM.out _ (List.getElem_mem hlt)
     have hsn:=addFold_snoc rs lo hi k hlt;have hlen:=addFold_len (rs.take k) lo hi;have hlk:(rs.take k).length≤k:=List.length_take_le _ _;have hk1:=(runCells_at rs k hlt).1;have hk2:=(runCells_at rs k hlt).2;generalize addFold (rs.take k) lo hi=st at*;generalize rs[k]=x at*;obtain⟨B,⟨lo',hi'⟩,A⟩:=st;obtain⟨x1,x2⟩:=x;obtain⟨hx1,hx2,hx3⟩:=hx;obtain⟨hm1,hm2,hm3⟩:=hsm
     dsimp only at hx1 hx2 hx3 hm1 hm2 hm3 hlen hk1 hk2 hinv
     have hr:Sat ((RunBx R lo' hi').star ((Row 199 2 (.slice a0 rs.length c0) rs.length (runCells rs)).star ((Pr.pts p (.cells #[.slice a0 rs.length c0] 197)).star ((Row 199 2 u10 B.length (runCells B)).star ((Row 199 2 u11 A.length (runCells A)).star ((Pr.pts D (.deferred (some []))).star ((CntBx (R+1) n).star F))))))) wr:=hinv.perm (by unfold SetAt;ac_rfl)
     obtain⟨a1,c1,e1,_,hrow⟩:=Row.read hr.right;cases e1;obtain⟨b,rfl,hc⟩:=hrow (by omega);have q1:=(hc (k*2) (by omega)).1.trans hk1;have q2:=(hc (k*2+1) (by omega)).1.trans hk2;have r1:wr.cell? ⟨R,0,none⟩=some (.int .i64 lo'):=by rw [cell_of_heap hr.pts_heap];rfl
     have r2:wr.cell? ⟨R,1,none⟩=some (.int .i64 hi'):=by rw [cell_of_heap hr.pts_heap];rfl
     have r3:=frozen_of_heap hr.pts_heap 0;have r4:=frozen_of_heap hr.pts_heap 1;have z1:=hr.lt;have HSN:=hQ hsn;have HV:=hQ hinv;have HVR:=hQ hr;clear hsn hinv hr hc hrow hk1 hk2;obtain⟨i0,hi,hz0,hz1,hz2⟩:=HI.out
     have HN:Hid (∀j u,[Value.int .i64 x1,.int .i64 x2][j]? =some u→((wr.alloc (.cells #[.int .i64 x1,.int .i64 x2] 199)).alloc (.cells #[.int .i64 x1,.int .i64 x2] 199)).cell? ((⟨wr.heap.size+1,0,none⟩:Addr).add j)=some u):=by
      have:=cell_two_new (wr.alloc (.cells #[.int .i64 x1,.int .i64 x2] 199)) (.int .i64 x1) (.int .i64 x2) 199
      rwa [World.size_alloc] at this
     have HO:Hid (∀u∈ [Value.int .i64 x1,.int .i64 x2],u.oneCell'=true):=fun u hu=>by
      simp only [List.mem_cons,List.not_mem_nil,or_false] at hu;rcases hu with rfl | rfl<;>rfl
     by_cases c1:x2+1<lo'
     · have e:addStep (B,(lo',hi'),A) (x1,x2)=(B++ [(x1,x2)],(lo',hi'),A):=by simp only [addStep];rw [if_pos c1]
       rw [e] at HSN;have HVA:=hQ ((HV.out.alloc (.cells #[.int .i64 x1,.int .i64 x2] 199)).right.alloc (.cells #[.int .i64 x1,.int .i64 x2] 199)).right;clear e
       go_wp2_with (at_builtin;refine wpList_append_sl rfl _ _ _ rfl 199 i0 (.agg #[.int .i64 0,.int .i64 0]) 2 16 Tryz.underlying195 hi hz0 hz1 hz2 rfl _ _ _ rfl HVA.out ⟨wr.heap.size+1,0,none⟩ 1 1 [.int .i64 x1,.int .i64 x2] rfl rfl HN.out HO.out (by simp only [maxLen];omega) (by omega) ?_;intro v' w1 hsat hgr _;have HSAT:=hQ hsat;clear hsat)
       go_roundw
       case rel=>
        refine⟨k+1,by omega,by go_num,(((hst2.alloc _).alloc _).of_grown hgr),?_,?_⟩
        · rw [HSN.out];exact⟨hm1,hm2,hm3⟩
        · rw [HSN.out]
          dsimp only;rw [List.length_append,runCells_append];exact HSAT.out
       case measure=>simp [intOf];omega
     · by_cases c2:hi'<x1-1
       · have e:addStep (B,(lo',hi'),A) (x1,x2)=(B,(lo',hi'),A++ [(x1,x2)]):=by simp only [addStep];rw [if_neg c1,if_pos c2]
         rw [e] at HSN;have HVA:=hQ (((HV.out.alloc (.cells #[.int .i64 x1,.int .i64 x2] 199)).right.alloc (.cells #[.int .i64 x1,.int .i64 x2] 199)).right.perm (Pr.left_comm _ _ _));have d1:¬x2<lo':=by omega
         clear e;go_wp2_with (at_builtin;refine wpList_append_sl rfl _ _ _ rfl 199 i0 (.agg #[.int .i64 0,.int .i64 0]) 2 16 Tryz.underlying195 hi hz0 hz1 hz2 rfl _ _ _ rfl HVA.out ⟨wr.heap.size+1,0,none⟩ 1 1 [.int .i64 x1,.int .i64 x2] rfl rfl HN.out HO.out (by simp only [maxLen];omega) (by omega) ?_;intro v' w1 hsat hgr _;have HSAT:=hQ hsat;clear hsat)
         go_roundw
         case rel=>
          refine⟨k+1,by omega,by go_num,(((hst2.alloc _).alloc _).of_grown hgr),?_,?_⟩
          · rw [HSN.out];exact⟨hm1,hm2,hm3⟩
          · rw [HSN.out]
            dsimp only;rw [List.length_append,runCells_append];exact HSAT.out.perm (Pr.left_comm _ _ _)
         case measure=>simp [intOf];omega
       · have e:addStep (B,(lo',hi'),A) (x1,x2)=(B,(min lo' x1,max hi' x2),A):=by simp only [addStep];rw [if_neg c1,if_neg c2]
         rw [e] at HSN;clear e HN HO;by_cases d1:x2<lo'<;>by_cases d2:hi'<x1<;>by_cases m1:lo'≤x1<;>by_cases m2:x2≤hi'
         all_goals first
          | (exfalso;omega)
          | (go_wp2
             refine wS 96 [0,1,2,3,4,5,6,7,8,9,10] [(11,[12],[7,8,9]),(13,[],[])] ?_
             iterate 11 (refine wpQ_step rfl rfl (fun K hK=> ?_);go_simp;refine hK _ ?_;clear hK K)
             refine wpQ_nil ?_
             refine wpRest_act rfl ?_
             go_wp2
             refine onN_mk ?_
             iterate 1 (refine wpQ_step rfl rfl (fun K hK=> ?_);go_simp;refine hK _ ?_;clear hK K)
             refine wpQ_nil ⟨?_,?_⟩
             · refine chk_cons ?_ (chk_cons ?_ (chk_cons ?_ chk_nil))<;>(refine yieldF_of rfl rfl rfl rfl ?_;go_simp;try omega)
             refine wpRest_act rfl ?_
             go_wp2
             refine onN_mk (wpQ_nil ⟨chk_nil,wpRest_nil ?_⟩)
             go_wp2
             go_roundw
             case rel=>
              refine⟨k+1,by omega,by go_num,((((hst2.setCell _ _).setCell _ _).alloc _).drew),?_,?_⟩
              · rw [HSN.out];refine⟨?_,?_,?_⟩<;>dsimp only<;>omega
              · rw [HSN.out]
                dsimp only
                refine(put_run HVR.out (n1:=min lo' x1) (n2:=max hi' x2) ?_ ?_).perm (by unfold SetAt;ac_rfl)
                all_goals first | omega | (split<;>omega)
             case measure=>simp [intOf];omega)
   · have hkl:k=rs.length:=by omega
     subst hkl;rw [List.take_length] at hinv hsm;have hadd:addRuns rs lo hi=(addFold rs lo hi).1++ [(addFold rs lo hi).2.1]++(addFold rs lo hi).2.2:=rfl;have hlen:=addFold_len rs lo hi;generalize addFold rs lo hi=st at*;obtain⟨B,⟨lo',hi'⟩,A⟩:=st;dsimp only at hadd hinv hlen
     have hr:Sat ((RunBx R lo' hi').star ((CntBx (R+1) n).star ((Row 199 2 u10 B.length (runCells B)).star ((Row 199 2 u11 A.length (runCells A)).star ((SetAt p (.slice a0 rs.length c0) rs).star ((Pr.pts D (.deferred (some []))).star F)))))) wr:=hinv.perm (by ac_rfl);have r1:wr.cell? ⟨R,0,none⟩=some (.int .i64 lo'):=by rw [cell_of_heap hr.pts_heap];rfl
     have r2:wr.cell? ⟨R,1,none⟩=some (.int .i64 hi'):=by rw [cell_of_heap hr.pts_heap];rfl
     have z1:=hr.lt;have hz:=hr.right.right;obtain⟨av,cv,e1,_,_⟩:=Row.read hz;obtain⟨aw,cw,e2,_,_⟩:=Row.read (hz.perm (Pr.left_comm _ _ _));have HH:=hQ hr;have HA:=hQ hadd;clear hr hinv hz hadd;subst e1;subst e2
     have hcall:∃h0,Sat ((Pr.own h0).star ((RunBx R lo' hi').star ((CntBx (R+1) n).star ((SetAt p (.slice a0 rs.length c0) rs).star ((Pr.pts D (.deferred (some []))).star F)))))
      ((wr.alloc (.cells #[.int .i64 lo',.int .i64 hi'] 199)).alloc (.cells #[.slice av B.length cv,.slice (some ⟨wr.heap.size,0,none⟩) 1 1,.slice aw A.length cw] 195))∧
      RowIn h0 1 (.slice (some ⟨wr.heap.size+1,0,none⟩) 3 3) 3 [.slice av B.length cv,.slice (some ⟨wr.heap.size,0,none⟩) 1 1,.slice aw A.length cw]∧
      RowIn h0 2 (.slice (some ⟨wr.heap.size,0,none⟩) 1 1) 1 [.int .i64 lo',.int .i64 hi']∧RowIn h0 2 (.slice av B.length cv) B.length (runCells B)∧RowIn h0 2 (.slice aw A.length cw) A.length (runCells A):=by
      have h2:=(HH.out.alloc (.cells #[.int .i64 lo',.int .i64 hi'] 199)).alloc (.cells #[.slice av B.length cv,.slice (some ⟨wr.heap.size,0,none⟩) 1 1,.slice aw A.length cw] 195);rw [World.size_alloc] at h2
      have h3:=h2.perm (show _=((Pr.pts (wr.heap.size+1) (.cells #[.slice av B.length cv,.slice (some ⟨wr.heap.size,0,none⟩) 1 1,.slice aw A.length cw] 195)).star ((Pr.pts wr.heap.size (.cells #[.int .i64 lo',.int .i64 hi'] 199)).star ((Row 199 2 (.slice av B.length cv) B.length (runCells B)).star (Row 199 2 (.slice aw A.length cw) A.length (runCells A))))).star
       ((RunBx R lo' hi').star ((CntBx (R+1) n).star ((SetAt p (.slice a0 rs.length c0) rs).star ((Pr.pts D (.deferred (some []))).star F)))) from by ac_rfl)
      obtain⟨h0,hA,hS⟩:=Sat.toOwn h3;obtain⟨x2,y2,p2,q2,s2,t2⟩:=star_sub hA;obtain⟨x3,y3,p3,q3,s3,t3⟩:=star_sub q2;obtain⟨x4,y4,p4,q4,s4,t4⟩:=star_sub q3;refine⟨h0,hS,(pts_rowIn p2 rfl rfl (by simp only [maxLen];omega)).sub s2,(pts_rowIn p3 rfl rfl (by simp only [maxLen];omega)).sub (s3.trans t2),(Row.rowIn p4).sub (s4.trans (t3.trans t2)),(Row.rowIn q4).sub (t4.trans (t3.trans t2))⟩
     obtain⟨h0,hS,g1,g2,g3,g4⟩:=hcall
     have one:∀(l:List (Int × Int)),∀u∈runCells l,u.oneCell'=true:=fun l u hu=>by
      unfold runCells at hu;obtain⟨x,_,hx⟩:=List.mem_flatMap.1 hu;simp only [List.mem_cons,List.not_mem_nil,or_false] at hx;rcases hx with rfl | rfl<;>rfl
     have hcat:=concat_any h0 (.slice (some ⟨wr.heap.size+1,0,none⟩) 3 3) [(.slice av B.length cv,B.length,runCells B),(.slice (some ⟨wr.heap.size,0,none⟩) 1 1,1,runCells [(lo',hi')]),(.slice aw A.length cw,A.length,runCells A)] g1
      (by
        intro x hx
        simp only [List.mem_cons,List.not_mem_nil,or_false] at hx
        rcases hx with rfl | rfl | rfl
        · exact⟨g3,one _⟩
        · exact⟨g2,one _⟩
        · exact⟨g4,one _⟩) (by simp [total];omega) (by simp) _ _ hS
     have HCAT:=hQ hcat;clear hcat hS g1 g2 g3 g4 one;go_wp2_with fail
     refine HCAT.out.mono ?_;rintro e w' ⟨v',rfl,hs',hst'⟩;obtain⟨ax,cx,rfl,_,_⟩:=Row.read hs'
     have hq:Sat ((Pr.pts p (.cells #[.slice a0 rs.length c0] 197)).star ((CntBx (R+1) n).star ((Pr.pts D (.deferred (some []))).star ((Row 199 2 (.slice ax (total [(.slice av B.length cv,B.length,runCells B),(.slice (some ⟨wr.heap.size,0,none⟩) 1 1,1,runCells [(lo',hi')]),(.slice aw A.length cw,A.length,runCells A)]) cx)
      (total [(.slice av B.length cv,B.length,runCells B),(.slice (some ⟨wr.heap.size,0,none⟩) 1 1,1,runCells [(lo',hi')]),(.slice aw A.length cw,A.length,runCells A)])
      (flat [(.slice av B.length cv,B.length,runCells B),(.slice (some ⟨wr.heap.size,0,none⟩) 1 1,1,runCells [(lo',hi')]),(.slice aw A.length cw,A.length,runCells A)])).star (F.star ((Row 199 2 (.slice a0 rs.length c0) rs.length (runCells rs)).star ((Pr.own h0).star (RunBx R lo' hi')))))))) w':=hs'.perm (by unfold SetAt;ac_rfl)
     have etot:total [(.slice av B.length cv,B.length,runCells B),(.slice (some ⟨wr.heap.size,0,none⟩) 1 1,1,runCells [(lo',hi')]),(.slice aw A.length cw,A.length,runCells A)]=(addRuns rs lo hi).length:=by rw [HA.out];simp [total];omega
     have eflat:flat [(.slice av B.length cv,B.length,runCells B),(.slice (some ⟨wr.heap.size,0,none⟩) 1 1,1,runCells [(lo',hi')]),(.slice aw A.length cw,A.length,runCells A)]=runCells (addRuns rs lo hi):=by rw [HA.out,runCells_append,runCells_append];simp [flat]
     rw [etot,eflat] at hq;rw [etot];have r3:w'.cell? ⟨p,0,none⟩=some (.slice a0 rs.length c0):=by rw [cell_of_heap hq.pts_heap];rfl
     have r4:=frozen_of_heap hq.pts_heap 0;have r5:w'.cell? ⟨R+1,0,none⟩=some (.int .u64 n):=by rw [cell_of_heap hq.right.pts_heap];rfl
     have hpr:p≠R+1:=hq.pts_ne;have HQ:Hid (Sat ((Pr.pts p (.cells #[.slice ax (addRuns rs lo hi).length cx] 197)).star _) _):=hq.setCell (i:=0) (.slice ax (addRuns rs lo hi).length cx);clear hs' hq etot eflat HCAT r1 r2;generalize hnn:(addRuns rs lo hi).length=nn at*;have HNN:=hQ hnn;clear hnn;go_wp2
     have q1:Sat ((Pr.pts D (.deferred (some []))).star (((SetAt p (.slice ax nn cx) (addRuns rs lo hi)).star F).star ((CntBx (R+1) n).star ((Row 199 2 (.slice a0 rs.length c0) rs.length (runCells rs)).star ((Pr.own h0).star (RunBx R lo' hi')))))) (w'.setCell ⟨p,0,none⟩ (.slice ax nn cx)):=HQ.out.perm (by unfold SetAt;rw [HNN.out];ac_rfl)
     refine marks_ret1 (D:=D) rfl q1.pts_heap ⟨_,results_tmp rfl _ _ _,_,.slice ax nn cx,rfl,(q1.putObj (.deferred none)).right.left,?_⟩;exact((((hst2.alloc _).alloc _).trans hst').setCell _ _).putObj _ _
 case stop=>
  intro D c pre W2 _ hst hs;exact(Sat.pure.1 (hs.perm (Pr.star_assoc _ _ _))).1.elim
end Go.Proofs.YtiegeadmgpanoaaGreatDoor.Z2
namespace Go.Proofs.YtiegeadmgpanoaaGreatDoor.D3
open ChangeShapes WideShapes ChangeAt RowKit Sl Go.Shelf E2 X2 Y2 Z2
attribute [local go_sem] Oper.semAt_some
def remOne(lo hi:Int)(x:Int × Int):List (Int × Int):=
 if x.2<lo∨hi<x.1 then [x] else(if x.1<lo then [(x.1,lo-1)] else [])++(if hi<x.2 then [(hi+1,x.2)] else [])
def remRuns(rs:List (Int × Int))(lo hi:Int):List (Int × Int):=rs.flatMap (remOne lo hi)
end Go.Proofs.YtiegeadmgpanoaaGreatDoor.D3
namespace Go.Cop
open Go.Proofs.YtiegeadmgpanoaaGreatDoor.Z2 Go.Proofs.YtiegeadmgpanoaaGreatDoor.D3
abbrev Rs:=List (Int × Int)
def Canon(rs:Rs):Prop:=rs.Pairwise (fun x y=>x.2+1<y.1)∧∀x∈rs,x.1≤x.2
def InRuns(rs:Rs)(n:Int):Prop:= ∃x∈rs,x.1≤n∧n≤x.2
theorem inRuns_append {a b:Rs}{n:Int}:InRuns (a++b) n↔InRuns a n∨InRuns b n:=by
 unfold InRuns;constructor
 · rintro⟨x,hx,h⟩
   rcases List.mem_append.1 hx with h1 | h1
   · exact .inl ⟨x,h1,h⟩
   · exact .inr ⟨x,h1,h⟩
 · rintro(⟨x,hx,h⟩ | ⟨x,hx,h⟩)
   · exact⟨x,List.mem_append_left _ hx,h⟩
   · exact⟨x,List.mem_append_right _ hx,h⟩
theorem inRuns_cons {x:Int × Int}{b:Rs}{n:Int}:InRuns (x :: b) n↔(x.1≤n∧n≤x.2)∨InRuns b n:=by
 unfold InRuns;simp
theorem inRuns_nil {n:Int}:¬InRuns [] n:=by unfold InRuns;simp
structure AddInv(st:AddSt)(rest:Rs):Prop where
 le:st.2.1.1≤st.2.1.2
 below:Canon st.1
 belowLo:∀x∈st.1,x.2+1<st.2.1.1
 above:Canon st.2.2
 aboveHi:∀x∈st.2.2,st.2.1.2+1<x.1
 restB:∀x∈st.1,∀y∈rest,x.2+1<y.1
 restA:∀x∈st.2.2,∀y∈rest,x.2+1<y.1
theorem canon_snoc {a:Rs}{y:Int × Int}(h:Canon a)(hy:y.1≤y.2)(hb:∀x∈a,x.2+1<y.1):Canon (a++ [y]):=by
 refine⟨List.pairwise_append.2 ⟨h.1,List.pairwise_singleton _ _,fun x hx z hz=> ?_⟩,fun x hx=> ?_⟩
 · rw [List.mem_singleton.1 hz];exact hb x hx
 · rcases List.mem_append.1 hx with h1 | h1
   · exact h.2 x h1
   · rw [List.mem_singleton.1 h1];exact hy
theorem addInv_step {st:AddSt}{y:Int × Int}{rest:Rs}(h:AddInv st (y :: rest))(hy:y.1≤y.2)(hr:∀z∈rest,y.2+1<z.1):
 AddInv (addStep st y) rest∧∀n,(InRuns (addStep st y).1 n∨((addStep st y).2.1.1≤n∧n≤(addStep st y).2.1.2)∨InRuns (addStep st y).2.2 n)↔
  (InRuns st.1 n∨(st.2.1.1≤n∧n≤st.2.1.2)∨InRuns st.2.2 n)∨(y.1≤n∧n≤y.2):=by
 obtain⟨B,⟨lo,hi⟩,A⟩:=st;obtain⟨h1,h2,h3,h4,h5,h6,h7⟩:=h;dsimp only at*
 have hA:A≠ []→hi+1<y.1:=fun hne=>by
  obtain⟨x,hx⟩:=List.exists_mem_of_ne_nil _ hne;have a1:=h5 x hx;have a2:=h4.2 x hx;have a3:=h7 x hx y List.mem_cons_self;omega
 unfold addStep;dsimp only;split
 · rename_i c
   refine⟨⟨h1,canon_snoc h2 hy (fun x hx=>h6 x hx y List.mem_cons_self),fun x hx=> ?_,h4,h5,fun x hx z hz=> ?_,fun x hx z hz=>h7 x hx z (List.mem_cons_of_mem _ hz)⟩,fun n=> ?_⟩
   · rcases List.mem_append.1 hx with h | h
     · exact h3 x h
     · rw [List.mem_singleton.1 h];exact c
   · rcases List.mem_append.1 hx with h | h
     · exact h6 x h z (List.mem_cons_of_mem _ hz)
     · rw [List.mem_singleton.1 h];exact hr z hz
   · rw [inRuns_append,inRuns_cons]
     simp only [inRuns_nil,or_false];constructor
     · rintro((h | h) | h | h)
       · exact .inl (.inl h)
       · exact .inr h
       · exact .inl (.inr (.inl h))
       · exact .inl (.inr (.inr h))
     · rintro((h | h | h) | h)
       · exact .inl (.inl h)
       · exact .inr (.inl h)
       · exact .inr (.inr h)
       · exact .inl (.inr h)
 · split
   · rename_i c c'
     refine⟨⟨h1,h2,h3,canon_snoc h4 hy (fun x hx=>h7 x hx y List.mem_cons_self),fun x hx=> ?_,fun x hx z hz=>h6 x hx z (List.mem_cons_of_mem _ hz),fun x hx z hz=> ?_⟩,fun n=> ?_⟩
     · rcases List.mem_append.1 hx with h | h
       · exact h5 x h
       · rw [List.mem_singleton.1 h];dsimp only;omega
     · rcases List.mem_append.1 hx with h | h
       · exact h7 x h z (List.mem_cons_of_mem _ hz)
       · rw [List.mem_singleton.1 h];exact hr z hz
     · rw [inRuns_append,inRuns_cons]
       simp only [inRuns_nil,or_false];constructor
       · rintro(h | h | h | h)
         · exact .inl (.inl h)
         · exact .inl (.inr (.inl h))
         · exact .inl (.inr (.inr h))
         · exact .inr h
       · rintro((h | h | h) | h)
         · exact .inl h
         · exact .inr (.inl h)
         · exact .inr (.inr (.inl h))
         · exact .inr (.inr (.inr h))
   · rename_i c c'
     have hnil:A= []:=by
      cases hA':A with
      | nil=>rfl
      | cons a A'=>have:=hA (by rw [hA'];simp);omega
     subst hnil;refine⟨⟨by dsimp only;omega,h2,fun x hx=> ?_,h4,(fun x hx=>by cases hx),fun x hx z hz=>h6 x hx z (List.mem_cons_of_mem _ hz),(fun x hx=>by cases hx)⟩,fun n=> ?_⟩
     · have a1:=h3 x hx
       have a2:=h6 x hx y List.mem_cons_self;dsimp only;omega
     · dsimp only
       simp only [inRuns_nil,or_false];by_cases hB:InRuns B n
       · simp [hB]
       · simp only [hB,false_or]
         omega
theorem addInv_fold(rs:Rs):∀(st:AddSt),AddInv st rs→Canon rs→AddInv (rs.foldl addStep st) []∧∀n,(InRuns (rs.foldl addStep st).1 n∨((rs.foldl addStep st).2.1.1≤n∧n≤(rs.foldl addStep st).2.1.2)∨InRuns (rs.foldl addStep st).2.2 n)↔
 (InRuns st.1 n∨(st.2.1.1≤n∧n≤st.2.1.2)∨InRuns st.2.2 n)∨InRuns rs n:=by
 induction rs with
 | nil=>intro st h _;exact⟨h,fun n=>by simp [inRuns_nil]⟩
 | cons y rs ih=>
   intro st h hc;obtain⟨hp,hle⟩:=hc;have hp':=List.pairwise_cons.1 hp;obtain⟨h1,h2⟩:=addInv_step h (hle y List.mem_cons_self) hp'.1;obtain⟨h3,h4⟩:=ih _ h1 ⟨hp'.2,fun x hx=>hle x (List.mem_cons_of_mem _ hx)⟩;refine⟨h3,fun n=> ?_⟩;rw [List.foldl_cons,h4,h2,inRuns_cons,or_assoc]
theorem canon_nil:Canon []:=⟨List.Pairwise.nil,(fun x hx=>by cases hx)⟩
theorem addRuns_law(rs:Rs)(lo hi:Int)(h:Canon rs)(hl:lo≤hi):Canon (addRuns rs lo hi)∧∀n,InRuns (addRuns rs lo hi) n↔(lo≤n∧n≤hi)∨InRuns rs n:=by
 obtain⟨hi',hm⟩:=addInv_fold rs ([],(lo,hi),[]) ⟨hl,canon_nil,(fun x hx=>by cases hx),canon_nil,(fun x hx=>by cases hx),(fun x hx=>by cases hx),(fun x hx=>by cases hx)⟩ h;unfold addRuns addFold;generalize rs.foldl addStep ([],(lo,hi),[])=st at*;obtain⟨B,⟨lo',hi1⟩,A⟩:=st;obtain⟨h1,h2,h3,h4,h5,h6,h7⟩:=hi';dsimp only at*;constructor
 · have hc:=canon_snoc (y:=(lo',hi1)) h2 h1 h3
   refine⟨List.pairwise_append.2 ⟨hc.1,h4.1,fun x hx y hy=> ?_⟩,fun x hx=> ?_⟩
   · rcases List.mem_append.1 hx with h | h
     · have a1:=h3 x h
       have a2:=h5 y hy;omega
     · rw [List.mem_singleton.1 h];exact h5 y hy
   · rcases List.mem_append.1 hx with h | h
     · exact hc.2 x h
     · exact h4.2 x h
 · intro n
   have:=hm n
   rw [inRuns_append,inRuns_append,inRuns_cons];simp only [inRuns_nil,or_false,false_or] at this ⊢;rw [← this,or_assoc]
theorem canon_len:∀(rs:Rs) (a b:Int),Canon rs→(∀n,InRuns rs n→a≤n∧n≤b)→(rs.length:Int)≤max 0 (b-a+1):=by
 intro rs;induction rs with
 | nil=>intro a b _ _;simp;omega
 | cons x rs ih=>
   rintro a b ⟨hp,hle⟩ hr;have hp':=List.pairwise_cons.1 hp;have hx:=hle x List.mem_cons_self;have h1:=hr x.1 ⟨x,List.mem_cons_self,Int.le_refl _,hx⟩
   have h2:=ih (x.1+1) b ⟨hp'.2,fun y hy=>hle y (List.mem_cons_of_mem _ hy)⟩ (fun n hn=>by
    obtain⟨y,hy,k1,k2⟩:=hn
    have:=hp'.1 y hy
    have:=hr n ⟨y,List.mem_cons_of_mem _ hy,k1,k2⟩
    omega)
   simp only [List.length_cons];omega
theorem canon_in {rs:Rs}{a b:Int}(h:Canon rs)(hr:∀n,InRuns rs n→a≤n∧n≤b):∀x∈rs,a≤x.1∧x.1≤x.2∧x.2≤b:=fun x hx=>by
 have h1:=h.2 x hx;exact⟨(hr x.1 ⟨x,hx,Int.le_refl _,h1⟩).1,h1,(hr x.2 ⟨x,hx,h1,Int.le_refl _⟩).2⟩
end Go.Cop
namespace Go.Proofs.YtiegeadmgpanoaaGreatDoor.E3
open ChangeShapes WideShapes ChangeAt RowKit Sl E2
def lowVal:List (Int × Int)→Value
 | []=> .tuple #[.int .i64 0,.bool false]
 | x :: _=> .tuple #[.int .i64 x.1,.bool true]
theorem new_nil(F:Pr)(w:World)(hF:Sat F w):
 Calls Tryz.prog 107 #[.slice none 0 0] w fun e w'=>
  ∃p,e= .returned (.pointer (some ⟨p,0,none⟩))∧Sat ((SetAt p (.slice none 0 0) []).star F) w'∧Stays w w':=by
 have h2:Sat ((SetAt w.heap.size (.slice none 0 0) []).star F) (w.alloc (.cells #[.slice none 0 0] 197)):=by
  have:=hF.alloc (.cells #[.slice none 0 0] 197)
  unfold SetAt;show Sat (((Pr.pts _ _).star (Row _ 2 (.slice none 0 0) 0 [])).star F) _
  rw [Row.nil,Pr.star_emp];exact this
 have H2:=hQ h2;clear h2 hF;go_enter Tryz.func107,Tryz.ntmps107
 go_wp2;go_loop [5,10] (fun _ i=>i= .int .i64 0) (fun _ _=>0)
 case atStart=>rfl
 case round=>
  subst hrel;go_wp2;go_ret;exact⟨_,rfl,H2.out,(Stays.refl w).alloc _⟩
end Go.Proofs.YtiegeadmgpanoaaGreatDoor.E3
namespace Go.Proofs.YtiegeadmgpanoaaGreatDoor.F3
open ChangeShapes WideShapes ChangeAt RowKit Sl Cop D2 E2 Z2 D3 E3
theorem Row.set {T b n cap i:Nat}{xs:List Value}{F:Pr}{w:World}(h:Sat ((Row T 1 (.slice (some ⟨b,0,none⟩) n cap) n xs).star F) w)(hi:i<n)(u:Value):
 Sat ((Row T 1 (.slice (some ⟨b,0,none⟩) n cap) n (xs.set i u)).star F) (w.setCell ⟨b,i,none⟩ u):=by
 obtain⟨hl,(⟨e,_,_⟩ | ⟨b',cap',sp,e,h1,h2,h3,h4⟩)⟩:=Row.open' h
 · cases e
 · cases e
   have h5:=h4.setCell (i:=i) u
   have e2:((xs++sp).toArray.setIfInBounds i u)=(xs.set i u++sp).toArray:=by
    rw [List.setIfInBounds_toArray,List.set_append_left _ _ (by omega)]
   rw [e2] at h5;exact Row.mk' (by simpa using hl) (by simpa using h1) h2 h3 h5
def SetOf(p:Nat)(S:Int→Prop):Pr:=Pr.ex fun x:Value × Rs=>(Pr.pure (Canon x.2∧∀n,InRuns x.2 n↔S n)).star (SetAt p x.1 x.2)
theorem setOf_iff {p:Nat}{S:Int→Prop}{F:Pr}{w:World}:Sat ((SetOf p S).star F) w↔∃v rs,Canon rs∧(∀n,InRuns rs n↔S n)∧Sat ((SetAt p v rs).star F) w:=by
 unfold SetOf;rw [Sat.ex];constructor
 · rintro⟨⟨v,rs⟩,h⟩
   rw [Pr.star_assoc] at h;obtain⟨⟨h1,h2⟩,h3⟩:=Sat.pure.1 h;exact⟨v,rs,h1,h2,h3⟩
 · rintro⟨v,rs,h1,h2,h3⟩
   refine⟨(v,rs),?_⟩;rw [Pr.star_assoc];exact Sat.pure.2 ⟨⟨h1,h2⟩,h3⟩
theorem setOf_congr {p:Nat}{S S':Int→Prop}(h:∀n,S n↔S' n):SetOf p S=SetOf p S':=by
 have:S=S':=funext fun n=>propext (h n)
 rw [this]
theorem small_of {rs:Rs}{S:Int→Prop}(hc:Canon rs)(hm:∀n,InRuns rs n↔S n)(hS:∀m,S m→1≤m∧m≤65536):(∀x∈rs,Small x)∧rs.length≤65536:=by
 have h1:∀n,InRuns rs n→1≤n∧n≤65536:=fun n hn=>hS n ((hm n).1 hn)
 refine⟨fun x hx=> ?_,?_⟩
 · have:=canon_in hc h1 x hx
   exact⟨by omega,this.2.1,by omega⟩
 · have:=canon_len rs 1 65536 hc h1
   omega
theorem set_add(p:Nat)(S:Int→Prop)(n:Int)(hn:1≤n∧n≤65536)(hS:∀m,S m→1≤m∧m≤65536)(F:Pr)(w:World)(h:Sat ((SetOf p S).star F) w):
 Calls Tryz.prog 108 #[.pointer (some ⟨p,0,none⟩),.int .i64 n,.int .i64 n] w fun e w'=>
  ∃m:Int,e= .returned (.int .i64 m)∧Sat ((SetOf p fun x=>x=n∨S x).star F) w'∧Stays w w':=by
 obtain⟨v,rs,h1,h2,h3⟩:=setOf_iff.1 h;obtain⟨s1,s2⟩:=small_of h1 h2 hS;refine(add_any p v rs n n s1 ⟨by omega,Int.le_refl _,by dsimp only;omega⟩ s2 F w h3).mono ?_;rintro e w' ⟨m,v',rfl,h4,h5⟩;obtain⟨l1,l2⟩:=addRuns_law rs n n h1 (Int.le_refl _);refine⟨m,rfl,setOf_iff.2 ⟨v',_,l1,fun x=> ?_,h4⟩,h5⟩;rw [l2,h2];constructor
 · rintro(h | h)
   · exact .inl (by omega)
   · exact .inr h
 · rintro(rfl | h)
   · exact .inl ⟨Int.le_refl _,Int.le_refl _⟩
   · exact .inr h
abbrev IntsRow(v:Value)(l:List Int):Pr:=Row 3 1 v l.length (l.map (Value.int .i64))
abbrev BoolsRow(v:Value)(l:List Bool):Pr:=Row 4 1 v l.length (l.map Value.bool)
def ActIn(h:Hp)(p:Nat)(a:Int × Int)(f:Value):Prop:=
 ∃bp bn bb,f= .func (.func 139) #[] #[.pointer (some ⟨bp,0,none⟩),.pointer (some ⟨bn,0,none⟩),.pointer (some ⟨bb,0,none⟩)]∧
  h.cell bp 0=some (.pointer (some ⟨p,0,none⟩))∧h.cell bn 0=some (.int .i64 a.1)∧h.cell bb 0=some (.int .i64 a.2)
theorem ActIn.sub {a b:Hp}(hs:a.sub b){p:Nat}{x:Int × Int}{f:Value}(h:ActIn a p x f):ActIn b p x f:=by
 obtain⟨bp,bn,bb,e,h1,h2,h3⟩:=h;exact⟨bp,bn,bb,e,Hp.cell_sub hs h1,Hp.cell_sub hs h2,Hp.cell_sub hs h3⟩
def ActsIn(h:Hp)(p:Nat)(acts:List (Int × Int))(fs:List Value):Prop:=fs.length=acts.length∧∀i (hi:i<acts.length) (hf:i<fs.length),ActIn h p acts[i] fs[i]
def ActsA(p:Nat)(av:Value)(acts:List (Int × Int)):Pr:=
 Pr.ex fun x:List Value × Hp=>(Pr.pure (ActsIn x.2 p acts x.1)).star ((Row 208 1 av acts.length x.1).star (Pr.own x.2))
def poolCells(s:PoolS)(cv lv:Value)(fb:Nat)(av:Value):Array Value:=
 #[.int .i64 s.refs,cv,lv,.pointer (some ⟨fb,0,none⟩),.int .i64 0,.int .i64 (s.tally 1),.int .i64 (s.tally 2),.int .i64 (s.tally 3),.int .i64 (s.tally 4),av,.int .i64 s.floor]
def PoolAt(p:Nat)(s:PoolS)(cv lv:Value)(fb:Nat)(av:Value):Pr:=
 (Pr.pts p (.cells (poolCells s cv lv fb av) 159)).star ((IntsRow cv s.counts).star ((BoolsRow lv s.last).star ((SetOf fb fun n=>s.state n=1).star (ActsA p av s.acts))))
def PoolA(p:Nat)(s:PoolS):Pr:=Pr.ex fun x:Value × Value × Nat × Value=>(Pr.pure (PoolOk s)).star (PoolAt p s x.1 x.2.1 x.2.2.1 x.2.2.2)
theorem poolA_iff {p:Nat}{s:PoolS}{F:Pr}{w:World}:Sat ((PoolA p s).star F) w↔PoolOk s∧∃cv lv fb av,Sat ((PoolAt p s cv lv fb av).star F) w:=by
 unfold PoolA;rw [Sat.ex];constructor
 · rintro⟨⟨cv,lv,fb,av⟩,h⟩
   rw [Pr.star_assoc] at h;obtain⟨h1,h3⟩:=Sat.pure.1 h;exact⟨h1,cv,lv,fb,av,h3⟩
 · rintro⟨h1,cv,lv,fb,av,h3⟩
   refine⟨(cv,lv,fb,av),?_⟩;rw [Pr.star_assoc];exact Sat.pure.2 ⟨h1,h3⟩
theorem ints_read {v:Value}{l:List Int}{F:Pr}{w:World}(h:Sat ((IntsRow v l).star F) w)(h0:0<l.length):
 ∃b c,v= .slice (some ⟨b,0,none⟩) l.length c∧∀i,i<l.length→w.cell? ⟨b,i,none⟩=some (.int .i64 (l.getD i 0))∧w.frozen? ⟨b,i,none⟩=false:=by
 obtain⟨a,c,hv,hl,hc0⟩:=Row.read h;obtain⟨b,ha,hc⟩:=hc0 h0;clear hc0;subst ha;subst hv;refine⟨b,c,rfl,fun i hi=>⟨?_,(hc i (by omega)).2⟩⟩;rw [(hc i (by omega)).1];simp [hi]
theorem bools_read {v:Value}{l:List Bool}{F:Pr}{w:World}(h:Sat ((BoolsRow v l).star F) w)(h0:0<l.length):
 ∃b c,v= .slice (some ⟨b,0,none⟩) l.length c∧∀i,i<l.length→w.cell? ⟨b,i,none⟩=some (.bool (l.getD i false))∧w.frozen? ⟨b,i,none⟩=false:=by
 obtain⟨a,c,hv,hl,hc0⟩:=Row.read h;obtain⟨b,ha,hc⟩:=hc0 h0;clear hc0;subst ha;subst hv;refine⟨b,c,rfl,fun i hi=>⟨?_,(hc i (by omega)).2⟩⟩;rw [(hc i (by omega)).1];simp [hi]
theorem pool_rd {p:Nat}{s:PoolS}{cs:Array Value}{cv lv:Value}{F:Pr}{w:World}(h1:s.last.length=s.counts.length)(h2:1≤s.counts.length)(h3:s.counts.length≤65536)
 (e0:cs[0]? =some (.int .i64 s.refs)) (e1:cs[1]? =some cv) (e2:cs[2]? =some lv)
 (h:Sat ((Pr.pts p (.cells cs 159)).star ((IntsRow cv s.counts).star ((BoolsRow lv s.last).star F))) w):PoolRd w p s:=by
 obtain⟨b,c,rfl,hc⟩:=ints_read h.right (by omega);obtain⟨b',c',rfl,hc'⟩:=bools_read h.right.right (by omega);rw [h1] at e2;refine⟨h3,h1,by rw [cell_of_heap h.pts_heap];exact e0,⟨b,c,by rw [cell_of_heap h.pts_heap];exact e1,fun i hi=>(hc i hi).1⟩,⟨b',c',by rw [cell_of_heap h.pts_heap];exact e2,fun i hi=>(hc' i (by omega)).1⟩⟩
end Go.Proofs.YtiegeadmgpanoaaGreatDoor.F3
namespace Go.Proofs.YtiegeadmgpanoaaGreatDoor.G3
open ChangeShapes WideShapes ChangeAt RowKit Sl Cop D2 F3
abbrev PAddr(p:Nat):Value:= .pointer (some ⟨p,0,none⟩)
theorem Row.ne {T k b n cap p:Nat}{o:Obj}{xs:List Value}{F:Pr}{w:World}(h:Sat ((Pr.pts p o).star ((Row T k (.slice (some ⟨b,0,none⟩) n cap) n xs).star F)) w)(_h0:0<n):p≠b:=by
 obtain⟨_,(⟨e,_,_⟩ | ⟨b',cap',sp,e,_,_,_,h4⟩)⟩:=Row.open' (h.perm (Pr.left_comm _ _ _))
 · cases e
 · cases e
   exact(h4.perm (Pr.left_comm _ _ _)).pts_ne
end Go.Proofs.YtiegeadmgpanoaaGreatDoor.G3
namespace Go.Proofs.YtiegeadmgpanoaaGreatDoor.J3
open ChangeShapes WideShapes ChangeAt RowKit Sl Cop D2 F3 G3
end Go.Proofs.YtiegeadmgpanoaaGreatDoor.J3
namespace Go.Cop
def PoolS.did(s:PoolS)(n b:Int):PoolS:= { s.turn n b with acts:=s.acts++ [(n,b)] }
theorem did_count {s:PoolS}{n b m:Int}(h:s.there n):(s.did n b).count m=if m=n then s.count n+b else s.count m:=turn_count h
theorem did_state {s:PoolS}{n b m:Int}(h:s.there n):(s.did n b).state m=if m=n then stateOf (s.count n+b) (s.lasts n) else s.state m:=turn_state h
theorem there_of_state {s:PoolS}{n:Int}(h:s.state n≠0):s.there n:=by
 unfold PoolS.state at h;by_cases ht:s.there n
 · exact ht
 · rw [if_neg ht] at h;exact absurd rfl h
theorem count_of_free {s:PoolS}(ok:PoolOk s){n:Int}(h:s.state n=1):s.count n=0:=by
 have h1:=(count_bd ok n).1;rw [state_there (there_of_state (by omega))] at h;unfold stateOf at h;by_cases hc:0<s.count n
 · rw [if_pos hc] at h;split at h<;>omega
 · omega
end Go.Cop
namespace Go.Proofs.YtiegeadmgpanoaaGreatDoor.K3
open ChangeShapes WideShapes ChangeAt RowKit Sl Cop D2 F3 G3 J3
theorem poolA_rd {p:Nat}{s:PoolS}{F:Pr}{w:World}(h:Sat ((PoolA p s).star F) w):PoolOk s∧PoolRd w p s∧
 w.cell? ⟨p,10,none⟩=some (.int .i64 s.floor)∧(∃a c,w.cell? ⟨p,9,none⟩=some (.slice a s.acts.length c))∧
 (∃fb,w.cell? ⟨p,3,none⟩=some (.pointer (some ⟨fb,0,none⟩))∧∃G,Sat ((SetOf fb fun m=>s.state m=1).star G) w):=by
 obtain⟨ok,cv,lv,fb,av,hA⟩:=poolA_iff.1 h;have hA1:Sat ((Pr.pts p (.cells (poolCells s cv lv fb av) 159)).star ((IntsRow cv s.counts).star ((BoolsRow lv s.last).star ((SetOf fb fun m=>s.state m=1).star ((ActsA p av s.acts).star F))))) w:=hA.perm (by unfold PoolAt;ac_rfl);have hs:=hA1.right.right.right;have ha:=hs.right;unfold ActsA at ha;obtain⟨⟨fs,hx⟩,h2⟩:=Sat.ex.1 ha;rw [Pr.star_assoc] at h2
 obtain⟨_,h3⟩:=Sat.pure.1 h2;dsimp only at h3;rw [Pr.star_assoc] at h3;obtain⟨a,c,hav,_,_⟩:=Row.read h3;subst hav;refine⟨ok,pool_rd ok.len ok.n1 ok.n2 rfl rfl rfl hA1,by rw [cell_of_heap hA1.pts_heap];rfl,⟨a,c,by rw [cell_of_heap hA1.pts_heap];rfl⟩,fb,by rw [cell_of_heap hA1.pts_heap];rfl,_,hs⟩
theorem count_A(p:Nat)(s:PoolS)(n:Int)(F:Pr)(w:World)(hF:Sat ((PoolA p s).star F) w):
 Calls Tryz.prog 76 #[.pointer (some ⟨p,0,none⟩),.int .i64 n] w fun e w'=>e= .returned (.int .i64 (s.count n))∧w=w':=
 count_any p n w s (poolA_rd hF).2.1
end Go.Proofs.YtiegeadmgpanoaaGreatDoor.K3
