/- The set of runs: the iterator over what its runs have of a run. By a walk; the conditions stand as hypotheses. -/
import Derived.Test.YtpfafhklppondaaGreatRows
import Derived.Test.YtpfafhklppondaaGreatVaultCountsM02
import Derived.ProofKit
import Derived.OpenShut
import Derived.WalkSpells
import Derived.WalkLawsBesides
import Derived.Lib.Hide
import Derived.Test.YtpfafhklppondaaGreatVaultCountsM01
set_option maxRecDepth 100000
set_option maxHeartbeats 16000000
namespace Go.Proofs.YtpfafhklppondaaGreat.N2
open ChangeShapes WideShapes ChangeAt RowKit Sl Go.Shelf
attribute [local go_sem] Oper.semAt_some
def runCells(rs:List (Int × Int)):List Value:=rs.flatMap fun r=> [.int .i64 r.1,.int .i64 r.2]
theorem runCells_at(rs:List (Int × Int))(k:Nat)(h:k<rs.length):
 (runCells rs)[k*2]? =some (.int .i64 rs[k].1)∧(runCells rs)[k*2+1]? =some (.int .i64 rs[k].2):=by
 induction rs generalizing k with
 | nil=>simp at h
 | cons r rs ih=>
   cases k with
   | zero=>simp [runCells]
   | succ k=>
     have:=ih k (by simpa using h)
     have e1:(k+1)*2=k*2+2:=by omega
     rw [e1];simp only [runCells,List.flatMap_cons,List.cons_append,List.nil_append,List.getElem?_cons_succ,List.getElem_cons_succ];exact this
theorem runCells_append(a b:List (Int × Int)):runCells (a++b)=runCells a++runCells b:=by simp [runCells]
def I64(x:Int):Prop:= -9223372036854775808≤x∧x≤9223372036854775807
def SetAt(p:Nat)(v:Value)(rs:List (Int × Int)):Pr:=
 (Pr.pts p (.cells #[v] 170)).star (Row 172 2 v rs.length (runCells rs))
def cutRun(lo hi:Int)(x:Int × Int):Option (Int × Int):=if max x.1 lo≤min x.2 hi then some (max x.1 lo,min x.2 hi) else none
def cutRuns(rs:List (Int × Int))(lo hi:Int):List (Int × Int):=rs.filterMap (cutRun lo hi)
theorem cut_list {lo hi:Int}{x m:Int × Int}(h1:max x.1 lo=m.1)(h2:min x.2 hi=m.2)(h3:m.1≤m.2):(cutRun lo hi x).toList= [m]:=by
 unfold cutRun;rw [h1,h2,if_pos h3];rfl
def encRun(x:Int × Int):Array Value:= #[.agg #[.int .i64 x.1,.int .i64 x.2]]
abbrev PtrBx(b p:Nat):Pr:=Pr.pts b (.cells #[.pointer (some ⟨p,0,none⟩)] 108)
abbrev RunBx(b:Nat)(lo hi:Int):Pr:=Pr.pts b (.cells #[.int .i64 lo,.int .i64 hi] 172)
def WithinOwn(p bs br:Nat)(v:Value)(rs:List (Int × Int))(lo hi:Int):Pr:=
 (PtrBx bs p).star ((RunBx br lo hi).star (SetAt p v rs))
theorem within1(p bs br:Nat)(v:Value)(rs:List (Int × Int))(lo hi:Int)(hl:rs.length≤4294967296):
 IterSl Tryz.prog 172 #[.pointer (some ⟨bs,0,none⟩),.pointer (some ⟨br,0,none⟩)] encRun (cutRuns rs lo hi) (WithinOwn p bs br v rs lo hi):=by
 intro l J Jx W hY h0;refine(callsIn_wide (n:=3)).1 ?_;refine callsIn_of_wp Tryz.func172 rfl trivial ?_ rfl;simp only [Tryz.ntmps172,List.size_toArray,List.length_cons,List.length_nil,Nat.reduceAdd,Nat.reduceSub,Array.replicate_succ,Array.replicate_zero,List.push_toArray,List.append_toArray,List.nil_append,List.cons_append]
 have facts:∀(A:Pr) (wr:World),Sat (A.star (WithinOwn p bs br v rs lo hi)) wr→
  wr.cell? ⟨bs,0,none⟩=some (.pointer (some ⟨p,0,none⟩))∧wr.cell? ⟨br,0,none⟩=some (.int .i64 lo)∧wr.cell? ⟨br,1,none⟩=some (.int .i64 hi)∧
  wr.cell? ⟨p,0,none⟩=some v∧bs<wr.heap.size∧br<wr.heap.size∧p<wr.heap.size∧
  Sat ((Row 172 2 v rs.length (runCells rs)).star Pr.emp) wr:=by
  intro A wr h;unfold WithinOwn SetAt at h;have h1:Sat ((PtrBx bs p).star (A.star ((RunBx br lo hi).star ((Pr.pts p (.cells #[v] 170)).star (Row 172 2 v rs.length (runCells rs)))))) wr:=h.perm (by ac_rfl);have h2:Sat ((RunBx br lo hi).star (A.star ((Pr.pts p (.cells #[v] 170)).star (Row 172 2 v rs.length (runCells rs))))) wr:=h1.right.perm (by ac_rfl)
  have h3:Sat ((Pr.pts p (.cells #[v] 170)).star ((Row 172 2 v rs.length (runCells rs)).star A)) wr:=h2.right.perm (by ac_rfl);refine⟨by rw [cell_of_heap h1.pts_heap];rfl,by rw [cell_of_heap h2.pts_heap];rfl,by rw [cell_of_heap h2.pts_heap];rfl,by rw [cell_of_heap h3.pts_heap];rfl,h1.lt,h2.lt,h3.lt,?_⟩;rw [Pr.star_emp];exact h3.right.left
 obtain⟨a0,c0,rfl,hxl,hrow0⟩:=Row.read (facts _ _ h0).2.2.2.2.2.2.2;have F0:=facts _ _ h0;obtain⟨q1,_,_,q4,_⟩:=F0;have HF:=hQ facts;have HY:=hQ hY;have H0:=hQ h0;clear facts hY h0 hrow0 hxl;gi_wp2
 gi_loopw [11] (fun i wr=> ∃k:Nat,k≤rs.length∧i= .int .i64 k∧Stays W wr∧Sat ((J (cutRuns (rs.take k) lo hi)).star (WithinOwn p bs br (.slice a0 rs.length c0) rs lo hi)) wr) (fun i _=>rs.length-(intOf i).toNat)
 case atStart=>exact⟨0,Nat.zero_le _,rfl,Stays.refl _,H0.out⟩
 case round=>
  obtain⟨k,hk,rfl,hR,hs⟩:=hrel;by_cases hlt:k<rs.length
  · obtain⟨q1,q2,q3,q4,z1,z2,z3,hr⟩:=HF.out _ _ hs
    obtain⟨a1,c1,e1,_,hrow⟩:=Row.read hr;cases e1;obtain⟨b,rfl,hc⟩:=hrow (by omega);have hk1:=(runCells_at rs k hlt).1;have hk2:=(runCells_at rs k hlt).2;have c1:=(hc (k*2) (by omega)).1.trans hk1;have c2:=(hc (k*2+1) (by omega)).1.trans hk2;have zb:=World.block_lt_of_cell? _ _ c1
    have hcat:cutRuns (rs.take (k+1)) lo hi=cutRuns (rs.take k) lo hi++(cutRun lo hi rs[k]).toList:=by
     unfold cutRuns;rw [List.take_succ_eq_append_getElem hlt,List.filterMap_append];cases h:cutRun lo hi rs[k]<;>simp [h]
    have hpre:cutRuns (rs.take (k+1)) lo hi<+:cutRuns rs lo hi:=by
     unfold cutRuns;exact(List.take_prefix _ _).filterMap _
    rw [hcat] at hpre;have HC:=hQ hcat;have HP:=hQ hpre;clear hcat hpre;have HS:=hQ hs;clear hc hk1 hk2 hs hr hrow;generalize rs[k]=x at*;obtain⟨x1,x2⟩:=x;dsimp only at c1 c2;gi_wp2
    gi_region
    all_goals gi_wp2
    all_goals first
     | (refine⟨fun _ h=>(by cases h),?_⟩
        gi_wp2
        go_roundw
        case rel=>
         refine⟨k+1,by omega,by go_num,((hR.alloc _).drew),?_⟩
         have hn:cutRun lo hi (x1,x2)=none:=by simp only [cutRun];rw [if_neg (by omega)]
         rw [HC.out,hn]
         simpa using (HS.out.alloc _).right.drew
        case measure=>simp [intOf];omega)
     | (refine at_yield (HY.out Pr.emp (cutRuns (rs.take k) lo hi) (_,_) _ ?_ (((HS.out.alloc _).right.drew).perm (Pr.star_emp _).symm)) ?_
        · rw [← cut_list (lo:=lo) (hi:=hi) (x:=(x1,x2)) (by simp only [];omega) (by simp only [];omega) (by simp only [];omega)]
          exact HP.out
        · rintro e w' ⟨hR',(⟨rfl,hs'⟩ | ⟨rfl,hs'⟩)⟩<;>rw [Pr.star_emp] at hs'
          · refine⟨_,rfl,?_⟩
            rw [← cut_list (lo:=lo) (hi:=hi) (x:=(x1,x2)) (by simp only [];omega) (by simp only [];omega) (by simp only [];omega), ← HC.out] at hs'
            have HS':=hQ hs'
            clear hs'
            gi_wp2
            go_roundw
            case rel=>exact⟨k+1,by omega,by go_num,((hR.alloc _).drew).trans hR',HS'.out⟩
            case measure=>simp [intOf];omega
          · refine⟨_,rfl,?_⟩
            rw [← cut_list (lo:=lo) (hi:=hi) (x:=(x1,x2)) (by simp only [];omega) (by simp only [];omega) (by simp only [];omega)] at hs'
            have HS':=hQ hs'
            clear hs'
            gi_wp2
            refine bodyPost_ret (results_none rfl _ _ _) rfl ?_
            exact⟨⟨_,rfl⟩,((hR.alloc _).drew).trans hR',.inr ⟨_,HP.out,HS'.out⟩⟩)
  · gi_wp2
    go_end0
    have:k=rs.length:=by omega
    subst this;refine⟨⟨_,rfl⟩,hR,.inl ⟨_,rfl,?_⟩⟩;simpa using hs
end Go.Proofs.YtpfafhklppondaaGreat.N2
