/- The vault: Undo of pages made; the conditions stand as hypotheses. -/
import Derived.Test.YtpfafhklppondaaGreatVaultCountsM16
import Derived.Lib.SmallJoins
import Derived.Test.YtpfafhklppondaaGreatVaultCountsM13
import Derived.Test.YtpfafhklppondaaGreatVaultCountsM01
import Derived.Deep.Slices
import Derived.WideKeyArgs
import Derived.Test.YtpfafhklppondaaGreatVaultCountsM07
import Derived.Test.YtpfafhklppondaaGreatVaultCountsM14
import Derived.SizedLaws
set_option maxRecDepth 100000
set_option maxHeartbeats 16000000
namespace Go.Cop
def Bare(s:VaultS):Prop:= ∀n,s.pool.state n=1→s.on n=none
theorem Bare.make {s:VaultS}(h:Bare s){n:Int}(hn:s.pool.state n=1)(h0:s.pool.count n=0)(g:PageV):Bare (s.make n g):=by
 intro m hm;have hs:=did_state (s:=s.pool) (b:=1) (m:=m) (there_of_state (by omega:s.pool.state n≠0));have hm':(s.pool.did n 1).state m=1:=hm;rw [hm'] at hs;by_cases hmn:m=n
 · rw [if_pos hmn,h0] at hs
   unfold stateOf at hs;simp at hs
   split at hs<;>omega
 · rw [if_neg hmn] at hs
   show (if m=n then some g else s.on m)=none
   rw [if_neg hmn];exact h m hs.symm
end Go.Cop
namespace Go.Proofs.YtpfafhklppondaaGreat.P5
open ChangeShapes WideShapes ChangeAt RowKit Sl Cop M2 P3 X3 G4 Q2 X2 J4 L4 V4 Y4 B5 D5 F5 J5 E5
end Go.Proofs.YtpfafhklppondaaGreat.P5
namespace Go.Proofs.YtpfafhklppondaaGreat.Q5
open ChangeShapes WideShapes ChangeAt RowKit Sl Cop M2 P3 X3 G4 Q2 X2 J4 L4 V4 Y4 B5 D5 E5 K5
def pagesOf(n:Int):Int:=if n≤32 then 0 else(n-1) / 480+1
def longV:List Int:=(List.replicate 500 0).set 499 7
end Go.Proofs.YtpfafhklppondaaGreat.Q5
namespace Go.Cop
end Go.Cop
namespace Go.Proofs.YtpfafhklppondaaGreat.V5
open ChangeShapes WideShapes ChangeAt RowKit Sl Cop M2 P3 X3 G4 Q2 X2 J4 L4 V4 Y4 B5 D5 L5 P5 E5
abbrev zeroItem:Value:= .agg #[.slice none 0 0,.slice none 0 0,.int .i64 0,.int .i64 0]
end Go.Proofs.YtpfafhklppondaaGreat.V5
namespace Go.Cop
def VaultS.settled(s:VaultS):VaultS:= { pool:=s.pool.settled,on:=fun m=>if s.pool.state m=2 then none else s.on m,acts:= [],floor:=s.floor+s.acts.length }
end Go.Cop
namespace Go.Proofs.YtpfafhklppondaaGreat.W5
open ChangeShapes WideShapes ChangeAt RowKit Sl Cop Go.Shelf M2 P3 X3 Y3 G4 Q2 X2 J4 L4 V4 Y4 D5 E5 X4
attribute [local go_sem] Oper.semAt_some
def gone(f:Int→Option Value)(l:List Int):Int→Option Value:=fun m=>if m∈l then none else f m
theorem gone_nil(f:Int→Option Value):gone f []=f:=by funext m;simp [gone]
theorem gone_snoc(f:Int→Option Value)(l:List Int)(y:Int):gone f (l++ [y])=fun m=>if m=y then none else gone f l m:=by
 funext m
 simp only [gone,List.mem_append,List.mem_singleton];by_cases h:m=y
 · rw [if_pos (Or.inr h),if_pos h]
 · rw [if_neg h]
   by_cases h2:m∈l
   · rw [if_pos (Or.inl h2),if_pos h2]
   · rw [if_neg (fun h3=>h3.elim h2 h),if_neg h2]
theorem vsettle_any(v:Nat)(s:VaultS)(F:Pr)(w:World)(hF:Sat ((VaultA v s).star F) w):
 Calls Tryz.prog 43 #[.pointer (some ⟨v,0,none⟩)] w fun e w'=>e= .returned (.tuple #[])∧Sat ((VaultA v s.settled).star F) w'∧Stays w w':=by
 have h1:=hF.alloc (.cells #[.pointer (some ⟨v,0,none⟩)] 24);have h2:=h1.perm (B:=(VaultA v s).star ((Pr.pts w.heap.size (.cells #[.pointer (some ⟨v,0,none⟩)] 24)).star F)) (by ac_rfl);obtain⟨okp,fb0,fb1⟩:=vault_ok h2;have M:=hQ (vmark_A v s _ _ h2.drew);have H2:=hQ h2;have OKP:=hQ okp;have HST:=hQ ((Stays.refl w).alloc (.cells #[.pointer (some ⟨v,0,none⟩)] 24));clear h1 h2 hF okp
 refine calls_of_wp_marks (n:=9) Tryz.func43 rfl ?_;simp only [Tryz.ntmps43,List.size_toArray,List.length_cons,List.length_nil,Nat.reduceAdd,Nat.reduceSub,Array.replicate_succ,Array.replicate_zero,List.push_toArray,List.append_toArray,List.nil_append,List.cons_append];go_wp2_with fail
 refine wS 27 [0,1,2] [(3,[4,5],[0,1]),(6,[7,8],[1,4]),(9,[],[7])] ?_;refine wpQ_all _ rfl rfl ?_;simp only [pick,pQ];iterate 3 (go_big_quiet_step (fail))
 refine wpQuiet_nil ?_;refine wpRest_act rfl ?_;go_wp2_with fail
 refine M.out.mono ?_;rintro e w1 ⟨rfl,ho⟩;obtain⟨x,ok,hx⟩:=vaultA_iff.1 (H2.out.drew.only ho)
 have h4:Sat ((Pr.pts v (.cells #[.pointer (some ⟨x.p,0,none⟩),.map (some x.mb),x.av,.int .i64 s.floor] 62)).star ((Pr.pts w.heap.size (.cells #[.pointer (some ⟨v,0,none⟩)] 24)).star ((PoolA x.p s.pool).star ((MapA Tryz.prog 3 x.mb x.f).star ((Row 153 2 x.av s.acts.length (actCells x.axs)).star ((Pr.own x.h).star F)))))) w1:=hx.perm (by unfold VaultAt;ac_rfl)
 have r0:w1.cell? ⟨w.heap.size,0,none⟩=some (.pointer (some ⟨v,0,none⟩)):=by rw [cell_of_heap h4.right.pts_heap];rfl
 have c2:w1.cell? ⟨v,2,none⟩=some x.av:=by rw [cell_of_heap h4.pts_heap];rfl
 have c3:w1.cell? ⟨v,3,none⟩=some (.int .i64 s.floor):=by rw [cell_of_heap h4.pts_heap];rfl
 have f2:=frozen_of_heap h4.pts_heap 2;have f3:=frozen_of_heap h4.pts_heap 3;have zb:=h4.right.lt;have zv:=h4.lt
 have hs5:Sat ((Pr.pts v (.cells #[.pointer (some ⟨x.p,0,none⟩),.map (some x.mb),.slice none 0 0,.int .i64 (s.floor+s.acts.length)] 62)).star ((Pr.pts w.heap.size (.cells #[.pointer (some ⟨v,0,none⟩)] 24)).star ((PoolA x.p s.pool).star ((MapA Tryz.prog 3 x.mb x.f).star ((Row 153 2 x.av s.acts.length (actCells x.axs)).star ((Pr.own x.h).star F)))))) _:=(h4.setCell (i:=3) (.int .i64 (s.floor+s.acts.length))).setCell (i:=2) (.slice none 0 0)
 have HS5:=hQ hs5;have HST1:=hQ (((HST.out.drew.trans ho.st).setCell ⟨v,3,none⟩ (.int .i64 (s.floor+s.acts.length))).setCell ⟨v,2,none⟩ (.slice none 0 0));have HOK:=hQ ok;clear h4 hx hs5 ok ho M H2 HST;go_wp2;refine onN_mk ?_;refine wpQ_all _ rfl rfl ?_;simp only [pick,pQ];iterate 2 (go_big_quiet_step (fail))
 refine wpQuiet_nil ⟨?_,?_⟩
 · exact cQ
 refine wpRest_act rfl ?_;go_wp2;refine onN_mk ?_;refine wpQ_all _ rfl rfl ?_;simp only [pick,pQ];iterate 2 (go_big_quiet_step (fail))
 refine wpQuiet_nil ⟨?_,?_⟩
 · exact cQ
 refine wpRest_act rfl ?_;go_wp2;refine onN_mk ?_;refine wpQ_nil ⟨?_,?_⟩
 · exact cQ
 refine wpRest_nil ?_;have T1:=HST1.out;have T2:=HS5.out;clear HST1 HS5 r0 c2 c3 f2 f3 zb zv;generalize (w1.setCell ⟨v,3,none⟩ (.int .i64 (s.floor+s.acts.length))).setCell ⟨v,2,none⟩ (.slice none 0 0)=w2 at*;have r0:w2.cell? ⟨w.heap.size,0,none⟩=some (.pointer (some ⟨v,0,none⟩)):=by rw [cell_of_heap T2.right.pts_heap];rfl
 have r1:w2.cell? ⟨v,0,none⟩=some (.pointer (some ⟨x.p,0,none⟩)):=by rw [cell_of_heap T2.pts_heap];rfl
 have zb:=T2.right.lt;have zv:=T2.lt
 have PG:=hQ (ppages_any x.p s.pool 2 _ _ (T2.perm (B:=((PoolA x.p s.pool).star ((Pr.pts v (.cells #[.pointer (some ⟨x.p,0,none⟩),.map (some x.mb),.slice none 0 0,.int .i64 (s.floor+s.acts.length)] 62)).star ((Pr.pts w.heap.size (.cells #[.pointer (some ⟨v,0,none⟩)] 24)).star ((MapA Tryz.prog 3 x.mb x.f).star ((Row 153 2 x.av s.acts.length (actCells x.axs)).star ((Pr.own x.h).star F))))))) (by ac_rfl)))
 have HST2:=hQ T1;clear T1 T2;go_wp2_with fail
 refine PG.out.mono ?_;rintro e w3 ⟨st3,lb,lv,rfl,hs6⟩;have HS6:=hQ hs6;have HST3:=hQ (HST2.out.trans st3);clear hs6 st3 PG HST2 r0 r1 zb zv;go_wp2
 refine wp_rangeFunc_sl 9 (gf:=153) rfl (enters_of Tryz.func153 (by kernel_rfl) rfl) (pages1 lb lv (pagesIn s.pool 2) (Nat.le_trans (pagesTo_len _ _ _) OKP.out.n2)) (fun _=>rfl)
  (fun pre=>((Pr.pts w.heap.size (.cells #[.pointer (some ⟨v,0,none⟩)] 24)).star ((Pr.pts v (.cells #[.pointer (some ⟨x.p,0,none⟩),.map (some x.mb),.slice none 0 0,.int .i64 (s.floor+s.acts.length)] 62)).star ((PoolA x.p s.pool).star ((MapA Tryz.prog 3 x.mb (gone x.f pre)).star ((Row 153 2 x.av s.acts.length (actCells x.axs)).star ((Pr.own x.h).star F))))))) (fun _ _=>Pr.pure False) ?start ?round ?done ?stop
 case start=>
  rw [gone_nil];exact HS6.out.perm (by unfold PagesOwn;ac_rfl)
 case round=>
  intro l' pre y W1 F1 hpre hs;have hmem:y∈pagesIn s.pool 2:=hpre.subset (List.mem_append_right _ (List.mem_singleton_self y));have hth:=(pages_mem.1 hmem).1;have hno:1≤y∧y≤65536:=⟨hth.1,by have:=hth.2;have:=OKP.out.n2;omega⟩;have HS1:=hQ hs;clear hs hmem hth hpre;simp only [encI];gi_wp2
  refine⟨((Pr.pts w.heap.size (.cells #[.pointer (some ⟨v,0,none⟩)] 24)).star ((Pr.pts v (.cells #[.pointer (some ⟨x.p,0,none⟩),.map (some x.mb),.slice none 0 0,.int .i64 (s.floor+s.acts.length)] 62)).star ((PoolA x.p s.pool).star ((MapA Tryz.prog 3 x.mb (gone x.f pre)).star ((Row 153 2 x.av s.acts.length (actCells x.axs)).star ((Pr.own x.h).star F)))))).star (PagesOwn lb lv (pagesIn s.pool 2)),Stays.refl _,HS1.out,?_⟩
  clear HS1;intro F2 W2 _ hs2
  have h1:Sat ((MapA Tryz.prog 3 x.mb (gone x.f pre)).star ((Pr.pts w.heap.size (.cells #[.pointer (some ⟨v,0,none⟩)] 24)).star ((Pr.pts v (.cells #[.pointer (some ⟨x.p,0,none⟩),.map (some x.mb),.slice none 0 0,.int .i64 (s.floor+s.acts.length)] 62)).star ((PoolA x.p s.pool).star ((Row 153 2 x.av s.acts.length (actCells x.axs)).star ((Pr.own x.h).star (F.star ((PagesOwn lb lv (pagesIn s.pool 2)).star F2)))))))) W2:=hs2.perm (by ac_rfl)
  have gV:W2.cell? ⟨w.heap.size,0,none⟩=some (.pointer (some ⟨v,0,none⟩)):=by rw [cell_of_heap h1.right.pts_heap];rfl
  have gm:W2.cell? ⟨v,1,none⟩=some (.map (some x.mb)):=by rw [cell_of_heap h1.right.right.pts_heap];rfl
  have zV:=h1.right.lt;have zv:=h1.right.right.lt;have H1:=hQ h1;clear h1 hs2
  gi_wp2_with (
   refine wpListIn_del rfl _ _ _ rfl Tryz.underlying3 Tryz.underlying59 y hno rfl rfl H1.out ?_
   intro w4 hs4 hg4
   have HS4:=hQ hs4
   have HG4:=hQ hg4
   clear hs4 hg4)
  refine⟨(Stays.refl W2).of_grown HG4.out,?_⟩;dsimp only;rw [gone_snoc];exact HS4.out.perm (by ac_rfl)
 case done=>
  intro D xs W2 hxs hst hs;subst hxs
  have h10:Sat ((Pr.pts D (.deferred (some []))).star ((Pr.pts w.heap.size (.cells #[.pointer (some ⟨v,0,none⟩)] 24)).star ((Pr.pts v (.cells #[.pointer (some ⟨x.p,0,none⟩),.map (some x.mb),.slice none 0 0,.int .i64 (s.floor+s.acts.length)] 62)).star ((PoolA x.p s.pool).star ((MapA Tryz.prog 3 x.mb (gone x.f (pagesIn s.pool 2))).star ((Row 153 2 x.av s.acts.length (actCells x.axs)).star ((Pr.own x.h).star (F.star (PagesOwn lb lv (pagesIn s.pool 2)))))))))) W2:=hs.perm (by ac_rfl)
  have r0:W2.cell? ⟨w.heap.size,0,none⟩=some (.pointer (some ⟨v,0,none⟩)):=by rw [cell_of_heap h10.right.pts_heap];rfl
  have r1:W2.cell? ⟨v,0,none⟩=some (.pointer (some ⟨x.p,0,none⟩)):=by rw [cell_of_heap h10.right.right.pts_heap];rfl
  have zb:=h10.right.lt;have zv:=h10.right.right.lt
  have PS:=hQ (psettle_any x.p s.pool _ _ (h10.perm (B:=((PoolA x.p s.pool).star ((Pr.pts D (.deferred (some []))).star ((Pr.pts w.heap.size (.cells #[.pointer (some ⟨v,0,none⟩)] 24)).star ((Pr.pts v (.cells #[.pointer (some ⟨x.p,0,none⟩),.map (some x.mb),.slice none 0 0,.int .i64 (s.floor+s.acts.length)] 62)).star ((MapA Tryz.prog 3 x.mb (gone x.f (pagesIn s.pool 2))).star ((Row 153 2 x.av s.acts.length (actCells x.axs)).star ((Pr.own x.h).star (F.star (PagesOwn lb lv (pagesIn s.pool 2))))))))))) (by ac_rfl)))
  have HST4:=hQ (HST3.out.trans hst);clear hs h10 hst;go_wp2_with fail
  refine PS.out.mono ?_;rintro e w5 ⟨rfl,hs7,st5⟩
  have h11:Sat ((Pr.pts D (.deferred (some []))).star ((Pr.pts w.heap.size (.cells #[.pointer (some ⟨v,0,none⟩)] 24)).star ((Row 153 2 x.av s.acts.length (actCells x.axs)).star ((PagesOwn lb lv (pagesIn s.pool 2)).star ((Pr.pts v (.cells #[.pointer (some ⟨x.p,0,none⟩),.map (some x.mb),.slice none 0 0,.int .i64 (s.floor+s.acts.length)] 62)).star ((PoolA x.p s.pool.settled).star ((MapA Tryz.prog 3 x.mb (gone x.f (pagesIn s.pool 2))).star ((Pr.own x.h).star F)))))))) w5:=hs7.perm (by ac_rfl)
  have H11:=hQ h11;have HST5:=hQ (HST4.out.trans st5);clear hs7 h11 st5 PS;go_wp2;refine marks_end1 (D:=D) rfl H11.out.pts_heap ⟨_,results_none rfl _ _ _,rfl,?_,HST5.out.putObj _ _⟩;have h12:=(H11.out.putObj (.deferred none)).right.right.right.right;refine vaultA_iff.2 ⟨{ x with f:=gone x.f (pagesIn s.pool 2),av:= .slice none 0 0,axs:= [] },⟨?_,⟨rfl,fun i h1=>absurd h1 (by simp)⟩,?_,?_⟩,?_⟩
  · intro m
    have h13:=HOK.out.on m;show (match (if s.pool.state m=2 then none else s.on m) with | none=>gone x.f (pagesIn s.pool 2) m=none | some g=> ∃v,gone x.f (pagesIn s.pool 2) m=some v∧PageIn x.h v g)
    unfold gone;by_cases hm:s.pool.state m=2
    · rw [if_pos hm,if_pos (pages_mem.2 ⟨there_of_state (by omega),hm⟩)]
    · rw [if_neg hm,if_neg (fun h=>hm (pages_mem.1 h).2)]
      exact h13
  · show (0:Int)≤s.floor+s.acts.length
    omega
  · show s.floor+s.acts.length+((0:Nat):Int)≤ _
    omega
  · refine h12.perm ?_
    unfold VaultAt;show _=(Pr.star (Pr.pts v (.cells #[.pointer (some ⟨x.p,0,none⟩),.map (some x.mb),.slice none 0 0,.int .i64 (s.floor+s.acts.length)] 62)) ((PoolA x.p s.pool.settled).star ((MapA Tryz.prog 3 x.mb (gone x.f (pagesIn s.pool 2))).star ((Row 153 2 (.slice none 0 0) 0 []).star (Pr.own x.h))))).star F
    rw [Row.nil,Pr.emp_star];ac_rfl
 case stop=>
  intro D c pre W2 _ hst hs;exact(Sat.pure.1 (hs.perm (Pr.star_assoc _ _ _))).1.elim
end Go.Proofs.YtpfafhklppondaaGreat.W5
namespace Go.Proofs.YtpfafhklppondaaGreat.X5
open ChangeShapes WideShapes ChangeAt RowKit Sl
def heapOf(w:World):Hp:=fun k=>w.heap[k]?
theorem sat_heap(w:World):Sat (Pr.own (heapOf w)) w:=⟨heapOf w,rfl,fun _ _ e=>e⟩
theorem heap_of_sat {w w':World}(h:Sat (Pr.own (heapOf w)) w'):∀k,k<w.heap.size→w'.heap[k]? =w.heap[k]? :=by
 obtain⟨x,rfl,hl⟩:=h;intro k hk;have e:heapOf w k=some w.heap[k]:=Array.getElem?_eq_getElem hk;rw [hl k _ e];exact e.symm
theorem kept_of {w w':World}(hs:Stays w w')(h:∀k,k<w.heap.size→w'.heap[k]? =w.heap[k]?)(may:MemPlace→Prop):w.keptBut w' may:=by
 refine⟨hs.os,hs.output,fun i hi=> ?_⟩;rw [h i hi];cases w.heap[i]? with
 | none=>rfl
 | some o=>cases o<;>simp
end Go.Proofs.YtpfafhklppondaaGreat.X5
namespace Go.Proofs.YtpfafhklppondaaGreat.Y5
open ChangeShapes WideShapes ChangeAt RowKit Sl Cop Deep Q2 X5
theorem laidOut:laidOutB Tryz.prog=true:=by kernel_rfl
theorem heap_cell {w:World}{b i:Nat}{v:Value}(h:w.cell? ⟨b,i,none⟩=some v):(heapOf w).cell b i=some v:=by
 unfold World.cell? at h;unfold Hp.cell heapOf;simp only at h;cases hb:w.heap[b]? with
 | none=>rw [hb] at h;simp at h
 | some o=>
   rw [hb] at h;cases o<;>simp_all
section
variable {H:Type}{enc:TypeId × Value→H}
theorem cells_u8:Tryz.prog.cellsOf 5=1:=by kernel_rfl
theorem stays {W W':World}(hh:∀k,k<W.heap.size→W'.heap[k]? =W.heap[k]?){t:TypeId}(hr:Tryz.prog.readableRec t=true)(ht:t<Tryz.prog.types.size){v:Value}{d:DataW H}{p:List MemPlace}
 (h:DataW.Trod enc Tryz.prog W 0 (fun _=>true) true t v d p) (hp:∀x∈p,x.block<W.heap.size):DataW.Trod enc Tryz.prog W' 0 (fun x=>decide (x<W.heap.size)) true t v d p:=
 WideElems.Trod_stays (P:=Tryz.prog) laidOut hr ht h
  (fun x hx=>by
    have hlt:=hp x hx
    cases x with
    | cell b o=>
      show W'.cell? ⟨b,o,none⟩=W.cell? ⟨b,o,none⟩
      unfold World.cell?
      rw [hh b hlt]
    | map b=>exact hh b hlt)
  (fun x hx=>by simpa using hp x hx)
end
end Go.Proofs.YtpfafhklppondaaGreat.Y5
namespace Go.Proofs.YtpfafhklppondaaGreat.Z5
open ChangeShapes WideShapes ChangeAt RowKit Sl Cop M2 P3 X3 G4 Q2 X2 J4 L4 V4 Y4 B5 D5 E5 V5
end Go.Proofs.YtpfafhklppondaaGreat.Z5
namespace Go.Cop
def kidsB(next:Int):List Int:=if next=0 then [] else [next]
end Go.Cop
namespace Go.Proofs.YtpfafhklppondaaGreat.C6
open ChangeShapes WideShapes ChangeAt RowKit Sl Cop M2 P3 X3 G4 Q2 X2 J4 L4
end Go.Proofs.YtpfafhklppondaaGreat.C6
namespace Go.Cop
def pagesV(V:List Int):Nat:=if V.length≤32 then 0 else chunks V
theorem chain_counts {s:VaultS}{V:List Int}:∀ {k j:Nat} {c:Int} {ns:List Int},ChainAt s V k j c ns→∀n∈ns,s.pool.count n=1:=by
 intro k;induction k with
 | zero=>intro j c ns h;rw [h.2];simp
 | succ k ih=>
   intro j c ns h n hn;obtain⟨c',ns',rfl,_,h3,_,h5⟩:=h;rcases List.mem_cons.1 hn with rfl | hn
   · exact h3
   · exact ih h5 n hn
theorem chain_taken {s s':VaultS}{V:List Int}{k j:Nat}{c:Int}{ns ns':List Int}(h:ChainAt s V k j c ns)(ok:PoolOk s.pool)(ht:Taken s s' ns'):ChainAt s' V k j c ns:=by
 refine chain_keep (fun n hn=> ?_) h;have h1:=chain_counts h n hn;exact ht.same n (fun hm=>by have:=count_of_free ok (ht.free n hm);omega)
end Go.Cop
namespace Go.Proofs.YtpfafhklppondaaGreat.E6
open ChangeShapes WideShapes ChangeAt RowKit Sl Cop M2 P3 X3 G4 Q2 X2 J4 L4 V4 Y4 B5 D5 P5 E5 K5 Q5 V5 Z5 D3
def StoredAt(s:VaultS)(h:Hp)(kv vv:Value)(c:Int)(V:List Int):Prop:=
 IsSl kv∧IsSl vv∧((V.length≤32∧Bytes h vv V)∨((32<V.length∧V.length≤3840)∧vv= .slice none 0 0∧∃ns,ChainAt s V (chunks V) 0 c ns))
theorem StoredAt.sub {s:VaultS}{h h':Hp}{kv vv:Value}{c:Int}{V:List Int}(hs:h.sub h')(x:StoredAt s h kv vv c V):StoredAt s h' kv vv c V:=
 ⟨x.1,x.2.1,x.2.2.imp (fun y=>⟨y.1,y.2.sub hs⟩) id⟩
theorem StoredAt.taken {s s':VaultS}{h:Hp}{kv vv:Value}{c:Int}{V:List Int}{ns:List Int}(ok:PoolOk s.pool)(ht:Taken s s' ns)(x:StoredAt s h kv vv c V):StoredAt s' h kv vv c V:=
 ⟨x.1,x.2.1,x.2.2.imp id (fun⟨y1,y2,m,y3⟩=>⟨y1,y2,m,chain_taken y3 ok ht⟩)⟩
end Go.Proofs.YtpfafhklppondaaGreat.E6
namespace Go.Cop
def VaultS.freed(s:VaultS)(n:Int):VaultS:= { s with pool:=s.pool.did n (-1),on:=fun m=>if m=n then none else s.on m }
end Go.Cop
namespace Go.Proofs.YtpfafhklppondaaGreat.F6
open ChangeShapes WideShapes ChangeAt RowKit Sl Cop M2 P3 X3 G4 Q2 X2 J4 L4 V4 Y4
theorem onIn_del {h:Hp}{f:Int→Option Value}{on:Int→Option PageV}(hO:OnIn h f on)(n:Int):OnIn h (fun m=>if m=n then none else f m) (fun m=>if m=n then none else on m):=by
 intro m;dsimp only;by_cases hm:m=n
 · simp only [hm,if_true]
 · simp only [hm,if_false];exact hO m
theorem was_snoc {h:Hp}{ws:List WasX}{was:List (Int × Option PageV)}(hw:WasIn h ws was){X:WasX}{y:Int × Option PageV}(hr:WasRel h X y):WasIn h (ws++ [X]) (was++ [y]):=by
 refine⟨by simp [hw.1],fun i h1 h2=> ?_⟩;rcases Nat.lt_or_ge i was.length with hlt | hge
 · have hx:i<ws.length:=by rw [hw.1];exact hlt
   rw [List.getElem_append_left hx,List.getElem_append_left hlt];exact hw.2 i hx hlt
 · have h3:i=was.length:=by simp at h2;omega
   subst h3;have hx:ws.length≤was.length:=by rw [hw.1];omega
   rw [List.getElem_append_right hx,List.getElem_append_right hge];simpa using hr
theorem pool_state(p:Nat)(s:PoolS)(n:Int)(F:Pr)(w:World)(hF:Sat ((PoolA p s).star F) w):
 Calls Tryz.prog 40 #[.pointer (some ⟨p,0,none⟩),.int .i64 n] w fun e w'=>e= .returned (.int .i64 (s.state n))∧w=w':=
 state_any p n w s (poolA_rd hF).2.1
theorem free_A(v:Nat)(s:VaultS)(ab:Nat)(mark:Int)(was:List (Int × Option PageV))(n:Int)(hn:1≤n∧n≤65536)(hs:s.pool.state n=1)(hl:was.length≤65536)(F:Pr)(w:World)
 (hF:Sat ((VMA v s ab mark was).star F) w):
 Calls Tryz.prog 151 #[.pointer (some ⟨v,0,none⟩),.pointer (some ⟨ab,0,none⟩),.int .i64 n] w fun e w'=>
  e= .returned (.tuple #[])∧Sat ((VMA v { s with on:=fun m=>if m=n then none else s.on m } ab mark (was++ [(n,s.on n)])).star F) w'∧Stays w w':=by
 obtain⟨x,wv,ws,ok,hws,hF⟩:=vma_iff.1 hF
 have h1:Sat ((PoolA x.p s.pool).star ((Pr.pts v (.cells #[.pointer (some ⟨x.p,0,none⟩),.map (some x.mb),x.av,.int .i64 s.floor] 62)).star
  ((((MapA Tryz.prog 3 x.mb x.f).star ((Row 153 2 x.av s.acts.length (actCells x.axs)).star (Pr.own x.h)))).star (((Pr.pts ab (.cells #[.int .i64 mark,wv] 153)).star (Row 167 7 wv ws.length (ws.flatMap WasX.cells))).star F)))) w:=hF.perm (by unfold VMAt VaultAt;ac_rfl)
 have qv:w.cell? ⟨v,0,none⟩=some (.pointer (some ⟨x.p,0,none⟩)):=by rw [cell_of_heap h1.right.pts_heap];rfl
 have P:=pool_state x.p s.pool n _ w h1;rw [hs] at P;have HP:=hQ P;have N:=hQ (note_at v s x ab mark wv ws n hn ok.on (by rw [hws.1];exact hl) F w hF);clear h1 P hF;go_enter Tryz.func151,Tryz.ntmps151
 go_wp2_with fail
 refine HP.out.mono ?_;rintro e w1 ⟨rfl,rfl⟩;go_wp2_with fail
 refine N.out.mono ?_;rintro e w1 ⟨rfl,⟨wv',X,hX,h4⟩,hst⟩
 have h5:Sat ((MapA Tryz.prog 3 x.mb x.f).star ((Pr.pts v (.cells #[.pointer (some ⟨x.p,0,none⟩),.map (some x.mb),x.av,.int .i64 s.floor] 62)).star
  (((PoolA x.p s.pool).star ((Row 153 2 x.av s.acts.length (actCells x.axs)).star (Pr.own x.h))).star (((Pr.pts ab (.cells #[.int .i64 mark,wv'] 153)).star (Row 167 7 wv' (ws++ [X]).length ((ws++ [X]).flatMap WasX.cells))).star F)))) w1:=h4.perm (by unfold VMAt VaultAt;ac_rfl)
 have q1:w1.cell? ⟨v,1,none⟩=some (.map (some x.mb)):=by rw [cell_of_heap h5.right.pts_heap];rfl
 have H5:=hQ h5;clear h5 h4 qv N HP;go_wp2_with (refine wpList_del rfl _ _ _ rfl Tryz.underlying3 Tryz.underlying59 n hn rfl rfl H5.out ?_;intro w2 hs2 hg2;have HS2:=hQ hs2;have HG2:=hQ hg2;clear hs2 hg2)
 trace_state
 first | refine bodyPost_ret (results_none rfl _ _ _) rfl ?_ | go_end0
 refine⟨rfl,vma_iff.2 ⟨{ x with f:=fun m=>if m=n then none else x.f m },wv',ws++ [X],⟨onIn_del ok.on n,ok.acts,ok.f0,ok.fb⟩,was_snoc hws hX,?_⟩,hst.of_grown HG2.out⟩;exact HS2.out.perm (by unfold VMAt VaultAt;dsimp only;ac_rfl)
end Go.Proofs.YtpfafhklppondaaGreat.F6
namespace Go.Cop
def VaultS.freedAll(s:VaultS):List Int→VaultS
 | []=>s
 | n :: ns=>(s.freed n).freedAll ns
end Go.Cop
namespace Go.Proofs.YtpfafhklppondaaGreat.G6
open ChangeShapes WideShapes ChangeAt RowKit Sl Cop M2 P3 X3 G4 Q2 X2 J4 L4 V4 Y4 C6 F6
end Go.Proofs.YtpfafhklppondaaGreat.G6
namespace Go.Cop
end Go.Cop
namespace Go.Proofs.YtpfafhklppondaaGreat.J6
open ChangeShapes WideShapes ChangeAt RowKit Sl Cop M2 P3 X3 G4 Q2 X2 J4 L4 V4 Y4 B5 C6 F6 G6 E6
def nsOf(s:VaultS)(c:Int)(V:List Int)(ns:List Int):Prop:=(V.length≤32∧ns= [])∨((32<V.length∧V.length≤3840)∧ChainAt s V (chunks V) 0 c ns)
end Go.Proofs.YtpfafhklppondaaGreat.J6
namespace Go.Proofs.YtpfafhklppondaaGreat.K6
open ChangeShapes WideShapes ChangeAt RowKit Sl Cop M2 P3 X3 G4 Q2 X2 J4 L4
abbrev Ints(h:Hp)(v:Value)(l:List Int):Prop:=RowIn h 1 v l.length (l.map (Value.int .i64))
theorem clone_ints(h:Hp)(v:Value)(l:List Int)(F:Pr)(w:World)(hF:Sat F w)(hh:h.le w)(hx:Ints h v l)(hn:l.length≤65536):
 Calls Tryz.prog 61 #[v] w fun e w'=> ∃v',e= .returned v'∧Sat ((IntsRow v' l).star F) w'∧Stays w w':=by
 obtain⟨_,ad,c,rfl,hnc,hcm,hcell⟩:=id hx;have he:∀wx:World,(binOp .eql 29 (.slice ad l.length c) (.slice none 0 0)).run Tryz.prog wx= .ok (.bool ad.isNone) wx:=fun wx=>Lib.run_eql_slice_nil wx _ _ ad _ c 0 0 Tryz.underlying29
 cases ad with
 | none=>
   have hl:l.length=0:=by
    rcases Nat.eq_zero_or_pos l.length with h0 | h0
    · exact h0
    · obtain⟨b,off,e1,_⟩:=hcell (by omega);cases e1
   have hl2:l= []:=List.eq_nil_of_length_eq_zero hl;have HF:=hQ hF;have HL:=hQ hl2;clear hF hx hcell hh hl2 hl;go_enter Tryz.func61,Tryz.ntmps61
   go_wp2;go_ret;refine⟨_,rfl,?_,Stays.refl w⟩;have h1:=HF.out;have h2:=HL.out;subst h2;rw [← Sat.emp, ← Row.nil 3 1] at h1;exact h1
 | some ad=>
   have hnew:Sat ((Row 3 1 (.slice (some ⟨w.heap.size,0,none⟩) 0 0) 0 []).star F) (w.alloc (.cells #[] 3)):=
    Row.mk' (xs:= []) (sp:= []) (by simp) (by simp) (Nat.le_refl _) (by simp) (by simpa using hF.alloc (.cells #[] 3))
   have hle:h.le (w.alloc (.cells #[] 3)):=fun k o e=>(Below.heap_alloc w _ k (Array.getElem?_eq_some_iff.1 (hh k o e)).1).trans (hh k o e)
   have HF:=hQ hnew;have HX:=hQ hx;have HH:=hQ hle;clear hF hx hcell hh hnew hle;go_enter Tryz.func61,Tryz.ntmps61
   obtain⟨i0,hi,hz0,hz1,hz2⟩:=info_parts infoInt;go_wp2_with (at_builtin;refine wpList_append_row rfl _ _ _ rfl 3 i0 (.int .i64 0) 1 8 Tryz.underlying29 hi hz0 hz1 hz2 rfl _ _ _ rfl HF.out h HH.out _ _ _ rfl HX.out (by simp [Value.oneCell']) (by simp only [maxLen];omega) (by omega) ?_;intro v' w1 hsat hgr _;have HSAT:=hQ hsat;clear hsat)
   go_ret;refine⟨_,rfl,?_,((Stays.refl w).alloc _).of_grown hgr⟩;have h1:=HSAT.out;rw [Nat.zero_add,List.nil_append] at h1;exact h1
theorem counts_A(p:Nat)(s:PoolS)(F:Pr)(w:World)(hF:Sat ((PoolA p s).star F) w):
 Calls Tryz.prog 14 #[.pointer (some ⟨p,0,none⟩)] w fun e w'=> ∃v',e= .returned v'∧Sat ((IntsRow v' s.counts).star ((PoolA p s).star F)) w'∧Stays w w':=by
 obtain⟨ok,cv,lv,fb,av,hA⟩:=poolA_iff.1 hF;have hA1:Sat ((Pr.pts p (.cells (poolCells s cv lv fb av) 112)).star ((IntsRow cv s.counts).star ((BoolsRow lv s.last).star ((SetOf fb fun m=>s.state m=1).star ((ActsA p av s.acts).star F))))) w:=hA.perm (by unfold PoolAt;ac_rfl);have q1:w.cell? ⟨p,1,none⟩=some cv:=by rw [cell_of_heap hA1.pts_heap];rfl
 obtain⟨x,⟨a,f,ha,hf,hd,rfl⟩,hl⟩:=hA1.right;have C:=hQ (clone_ints a cv s.counts _ w hF ((Hp.le_un hd).1 hl).1 (Row.rowIn ha) ok.n2);clear hA hA1 hF ha hf hd hl;go_enter Tryz.func14,Tryz.ntmps14
 go_wp2_with fail
 refine C.out.mono ?_;rintro e w1 ⟨v',rfl,h1,hst⟩;have H1:=hQ h1;clear h1;go_wp2;go_ret;exact⟨_,rfl,H1.out,hst⟩
theorem ints_rd {h:Hp}{v:Value}{V:List Int}(hb:Ints h v V):∃a c,v= .slice a V.length c∧∀i,i<V.length→∃b off,a=some ⟨b,off,none⟩∧∀w,h.le w→w.cell? ⟨b,off+i,none⟩=some (.int .i64 (V.getD i 0)):=by
 obtain⟨hl,a,c,e,_,_,hc⟩:=hb;refine⟨a,c,e,fun i hi=> ?_⟩;obtain⟨b,off,e1,e2⟩:=hc (by omega);refine⟨b,off,e1,fun w hw=> ?_⟩;refine Hp.cell_le hw ((e2 i (by omega)).trans ?_);simp [hi]
theorem eqints_same(ha hb:Hp)(va vb:Value)(V:List Int)(h1:Ints ha va V)(h2:Ints hb vb V)(hn:V.length≤65536)(w:World)(l1:ha.le w)(l2:hb.le w):
 Calls Tryz.prog 13 #[va,vb] w fun e w'=>e= .returned (.bool true)∧Only w w':=by
 obtain⟨a,c,rfl,r1⟩:=ints_rd h1;obtain⟨a',c',rfl,r2⟩:=ints_rd h2;have R1:=hQ r1;have R2:=hQ r2;have L1:=hQ l1;have L2:=hQ l2;clear r1 r2 h1 h2 l1 l2;go_enter Tryz.func13,Tryz.ntmps13
 go_wp2;go_loopw [5] (fun i wr=> ∃k:Nat,k≤V.length∧i= .int .i64 k∧Only w wr) (fun i _=>V.length-(intOf i).toNat)
 case atStart=>exact⟨0,Nat.zero_le _,rfl,Only.refl w⟩
 case round=>
  obtain⟨k,hk,rfl,ho⟩:=hrel;rcases Nat.lt_or_ge k V.length with hlt | hge
  · obtain⟨b,off,rfl,c1⟩:=R1.out k hlt
    obtain⟨b',off',rfl,c2⟩:=R2.out k hlt;have q1:=c1 wr (fun k o e=>(ho.heap k (Array.getElem?_eq_some_iff.1 (L1.out k o e)).1).trans (L1.out k o e));have q2:=c2 wr (fun k o e=>(ho.heap k (Array.getElem?_eq_some_iff.1 (L2.out k o e)).1).trans (L2.out k o e));have HO:=hQ ho;clear c1 c2 ho;generalize V.getD k 0=x at*;go_wp2;go_region
    go_wp2;go_roundw
    case rel=>exact⟨k+1,by omega,by go_num,HO.out.drew⟩
    case measure=>simp [intOf];omega
  · have hkl:k=V.length:=by omega
    subst hkl;go_wp2;go_ret;exact⟨rfl,ho⟩
end Go.Proofs.YtpfafhklppondaaGreat.K6
namespace Go.Proofs.YtpfafhklppondaaGreat.L6
open ChangeShapes WideShapes ChangeAt RowKit Sl Cop M2 P3 X3 Q2 X2 J4 L4 K5 D3 K6
theorem copybytes_any(h:Hp)(v:Value)(l:List Int)(F:Pr)(w:World)(hF:Sat ((Pr.own h).star F) w)(hx:Bytes h v l)(hn:l.length≤140737488355328):
 Calls Tryz.prog 69 #[v] w fun e w'=> ∃v',e= .returned v'∧Sat ((BytesRow v' l).star ((Pr.own h).star F)) w'∧Stays w w':=by
 obtain⟨a,c,rfl,r1⟩:=bytes_rd hx;obtain⟨i0,hi,hz0,hz1,hz2⟩:=info_parts infoByte
 have hmk:∀wx:World,(Instr.makeSlice 35 (.int .i64 0) (.int .i64 (l.length:Int))).run Tryz.prog wx= .ok (.slice (some ⟨wx.heap.size,0,none⟩) 0 l.length) (wx.alloc (.cells (madeCells #[.int .u8 0] l.length) 5)):=by
  intro wx;have:=run_make (P:=Tryz.prog) wx 35 5 i0 (.int .u8 0) Tryz.underlying35 hi hz0 .i64 .i64 0 l.length (by omega) (by omega) (by rw [hz2];omega) (by omega)
  rw [hz1,Int.toNat_natCast,Nat.mul_one] at this;exact this
 have h2:=hQ (row_room 5 (.int .u8 0) l.length (by simp only [maxLen];omega) hF);have R1:=hQ r1;clear hF hx r1;go_enter Tryz.func69,Tryz.ntmps69
 go_wp2;go_loopw [3,4] (fun o i wr=> ∃k:Nat,k≤l.length∧i= .int .i64 k∧Stays w wr∧Sat ((BytesRow o (l.take k)).star ((Pr.own h).star F)) wr) (fun _ i _=>l.length-(intOf i).toNat)
 case atStart=>exact⟨0,Nat.zero_le _,rfl,(Stays.refl w).alloc _,h2.out⟩
 case round=>
  obtain⟨k,hk,rfl,hst,hs⟩:=hrel;have hlt':(l.take k).length=k:=by rw [List.length_take];omega
  obtain⟨ao,co,eo,_,_⟩:=Row.read hs;rw [hlt'] at eo;subst eo;rcases Nat.lt_or_ge k l.length with hlt | hge
  · obtain⟨b,off,rfl,c1⟩:=R1.out k hlt
    have q1:=c1 wr hs.right.own
    have hs1:Sat ((Row 5 1 (.slice ao k co) k ((l.take k).map (Value.int .u8))).star ((Pr.own h).star F)) wr:=by
     have:=hs
     unfold BytesRow at this;rw [hlt'] at this;exact this
    have H1:=hQ (hs1.alloc (.cells #[.int .u8 (l.getD k 0)] 5)).right;have hnew:=hQ (new_cells wr [.int .u8 (l.getD k 0)] 5 _ rfl);have HT:=hQ (show l.take (k+1)=l.take k++ [l.getD k 0] by rw [List.take_succ_eq_append_getElem hlt];simp [hlt]);have zb:=World.block_lt_of_cell? _ _ q1;clear hs hs1 c1;generalize l.getD k 0=x at*
    go_wp2_with (at_builtin;refine wpList_append_sl rfl _ _ _ rfl 5 i0 (.int .u8 0) 1 1 Tryz.underlying35 hi hz0 hz1 hz2 rfl _ _ _ rfl H1.out ⟨wr.heap.size,0,none⟩ 1 1 [.int .u8 x] rfl rfl hnew.out (by simp [Value.oneCell']) (by simp only [maxLen];omega) (by omega) ?_;intro v7 w4 hs4 hg4 _;obtain⟨a7',c7',e7',_,_⟩:=Row.read hs4;subst e7';have HS4:=hQ hs4;have HG4:=hQ hg4;clear hs4 hg4)
    refine⟨⟨k+1,by omega,congrArg (Value.int .i64) (by omega),(hst.alloc _).of_grown HG4.out,?_⟩,by simp [intOf];omega⟩;have hl2:(l.take (k+1)).length=k+1:=by rw [List.length_take];omega
    unfold BytesRow;rw [hl2,HT.out,List.map_append];exact HS4.out
  · have hkl:k=l.length:=by omega
    subst hkl;have HS:=hQ hs;clear hs;go_wp2;go_ret;refine⟨_,rfl,?_,hst⟩;have:=HS.out
    rw [List.take_length] at this;exact this
end Go.Proofs.YtpfafhklppondaaGreat.L6
namespace Go.Proofs.YtpfafhklppondaaGreat.M6
open ChangeShapes WideShapes ChangeAt RowKit Sl Cop M2 P3 X3 Y3 G4 Q2 X2 K6
theorem right_any(n r:Int)(w:World):Calls Tryz.prog 91 #[.int .i64 n,.int .i64 r] w fun e w'=>e= .returned (.bool (rangeOk n r))∧w=w':=by
 have fin:∀(b:Bool),b=rangeOk n r→Ending.returned (Value.bool b)=Ending.returned (Value.bool (rangeOk n r)):=fun b e=>by rw [e]
 by_cases h1:1≤n
 · by_cases h2:n≤65536
   · by_cases h3:2≤r
     · go_enter Tryz.func91,Tryz.ntmps91
       go_wp2;go_ret;refine⟨fin _ ?_,rfl⟩;rw [Bool.eq_iff_iff];simp [rangeOk,h1,h2,h3]
     · go_enter Tryz.func91,Tryz.ntmps91
       go_wp2;go_ret;refine⟨fin _ ?_,rfl⟩;rw [Bool.eq_iff_iff];simp [rangeOk];omega
   · go_enter Tryz.func91,Tryz.ntmps91
     go_wp2;go_ret;refine⟨fin _ ?_,rfl⟩;rw [Bool.eq_iff_iff];simp [rangeOk];omega
 · go_enter Tryz.func91,Tryz.ntmps91
   go_wp2;go_ret;refine⟨fin _ ?_,rfl⟩;rw [Bool.eq_iff_iff];simp [rangeOk];omega
theorem rangeOk_iff {n r:Int}:rangeOk n r=true↔(1≤n∧n≤65536∧2≤r∧r<65536):=by unfold rangeOk;exact decide_eq_true_iff
end Go.Proofs.YtpfafhklppondaaGreat.M6
namespace Go.Proofs.YtpfafhklppondaaGreat.N6
open ChangeShapes WideShapes ChangeAt RowKit Sl Cop M2 P3 X3 G4 Q2 X2 J4 L4 V4 Y4 B5 D5 E5 K5 V5 Z5 J6 E6
end Go.Proofs.YtpfafhklppondaaGreat.N6
namespace Go.Proofs.YtpfafhklppondaaGreat.P6
open ChangeShapes WideShapes ChangeAt RowKit Sl Cop Deep Q2 X5 Y5 J4 K6 P4 G5
theorem cells_item:Tryz.prog.cellsOf 49=4:=by kernel_rfl
theorem cells_page:Tryz.prog.cellsOf 37=5:=by kernel_rfl
theorem bytes_u8:Tryz.prog.bytesOf 5=1:=by kernel_rfl
theorem bytes_item:Tryz.prog.bytesOf 49=64:=by kernel_rfl
section
variable {H:Type}{enc:TypeId × Value→H}
def Small(d:DataW H)(t:TypeId):Prop:= ∀m∈d.weights Tryz.prog t,m≤reachBytes
theorem weights_all {e:TypeId}:∀ {l:List (DataW H)} {i:Nat} {d:DataW H},l[i]? =some d→∀m∈d.weights Tryz.prog e,m∈DataW.weightsAll Tryz.prog e l
 | [],_,_,h,_,_=>by simp at h
 | x :: l,0,d,h,m,hm=>by
   simp only [List.getElem?_cons_zero,Option.some.injEq] at h;subst h;simp only [DataW.weightsAll,List.mem_append];exact .inl hm
 | x :: l,i+1,d,h,m,hm=>by
   simp only [List.getElem?_cons_succ] at h;simp only [DataW.weightsAll,List.mem_append];exact .inr (weights_all h m hm)
theorem int_of {W:World}{base n:Nat}{v:Value}{x:DataW H × List MemPlace}(h:DataW.trod enc Tryz.prog W base (fun _=>true) true n 3 [v]=some x):∃z,v= .int .i64 z∧ -9223372036854775808≤z∧z≤9223372036854775807:=by
 cases n with
 | zero=>simp [DataW.trod] at h
 | succ n=>
   unfold DataW.trod at h;rw [Tryz.underlying3] at h;cases v with
   | int k z=>
     simp only at h;split at h
     · rename_i hk
       have e1:IntKind.i64.min= -9223372036854775808:=by decide
       have e2:IntKind.i64.max=9223372036854775807:=by decide
       simp_all [Lit.wf]
     · simp at h
   | _=>simp at h
theorem bytes_sz {W:World}{base n:Nat}{v:Value}{x:DataW H × List MemPlace}(h:DataW.trod enc Tryz.prog W base (fun _=>true) true n 35 [v]=some x):
 ∃l:List Int,Bytes (heapOf W) v l∧U8 l∧(Small x.1 35→l.length≤reachBytes):=by
 rcases open_ints Tryz.underlying35 Tryz.underlying5 cells_u8 h with⟨e,_⟩ | ⟨a,len,cap,zs,e,_,hl,hm,hz,hx,hcell,hwf⟩
 · simp at e
   subst e;exact⟨[],RowIn.nil _ _,fun z hz=>(by cases hz),fun _=>Nat.zero_le _⟩
 · simp at e
   subst e;simp only [if_true] at hz;have hlen:(zs.take len).length=len:=by simp;omega
   refine⟨zs.take len,⟨by simp,some a,cap,by rw [hlen],by omega,hm,fun h0=> ?_⟩,fun z hz'=> ?_,fun hs=> ?_⟩
   · obtain⟨ab,ao,spot⟩:=a
     have hspot:spot=none:=by simpa [Addr.add] using World.cell?_spot (hcell 0 (by omega))
     subst hspot;refine⟨ab,ao,rfl,fun i hi=> ?_⟩;have hc:=hcell i (by omega);rw [Addr.add_lit] at hc;rw [heap_cell hc];have h1:i<zs.length:=by omega
     have h2:i<len:=by omega
     simp [h1,h2]
   · have:=hwf z (List.mem_of_mem_take hz')
     simp only [Lit.wf,Bool.and_eq_true,decide_eq_true_eq] at this;have e1:IntKind.u8.min=0:=by decide
     have e2:IntKind.u8.max=255:=by decide
     rw [e1,e2] at this;exact this
   · subst hx
     have h2:=hs (((lits .u8 (zs.take len)).length+(lits .u8 (zs.drop len)).length)*Tryz.prog.bytesOf 5:Nat) (by
      simp only [DataW.weights,Tryz.underlying35]
      exact List.mem_cons_self)
     rw [bytes_u8] at h2;simp [lits] at h2
     rw [hlen];omega
def ItemCells(h:Hp)(cs:List Value)(y:ItemV):Prop:= ∃kv vv,cs= [kv,vv,.int .i64 y.child,.int .i64 y.size]∧Bytes h kv y.key∧Bytes h vv y.value
def ItemFits(y:ItemV):Prop:=U8 y.key∧U8 y.value∧(-9223372036854775808≤y.child∧y.child≤9223372036854775807)∧(-9223372036854775808≤y.size∧y.size≤9223372036854775807)
def ItemSized(y:ItemV):Prop:=y.key.length≤reachBytes∧y.value.length≤reachBytes
theorem item_of {W:World}{base n:Nat}{cs:List Value}{x:DataW H × List MemPlace}(h:DataW.trod enc Tryz.prog W base (fun _=>true) true n 49 cs=some x):
 ∃y:ItemV,ItemCells (heapOf W) cs y∧ItemFits y∧(Small x.1 49→ItemSized y):=by
 obtain⟨xs,m,rfl,rfl,hl,hlen,hf⟩:=DataW.trod_struct Tryz.underlying49 h;rw [cells_item] at hl;match cs,hl with
 | [c0,c1,c2,c3],_=>
   match xs,hlen with
   | [x0,x1,x2,x3],_=>
     have f0:=hf 0 _ rfl;have f1:=hf 1 _ rfl;have f2:=hf 2 _ rfl;have f3:=hf 3 _ rfl;simp only [List.getElem?_cons_zero,List.getElem?_cons_succ] at f0 f1 f2 f3;obtain⟨K,hk,uk,sk⟩:=bytes_sz f0;obtain⟨V,hv,uv,sv⟩:=bytes_sz f1;obtain⟨c,rfl,hc⟩:=int_of f2;obtain⟨s,rfl,hs⟩:=int_of f3;refine⟨⟨K,V,c,s⟩,⟨c0,c1,rfl,hk,hv⟩,⟨uk,uv,hc,hs⟩,fun hw=>⟨sk fun m hm=>hw m ?_,sv fun m hm=>hw m ?_⟩⟩
     · simp only [DataW.weights,Tryz.underlying49,List.map_cons,List.map_nil,DataW.weightsEach,List.mem_append]
       exact .inl hm
     · simp only [DataW.weights,Tryz.underlying49,List.map_cons,List.map_nil,DataW.weightsEach,List.mem_append]
       exact .inr (.inl hm)
theorem zip_range {α β:Type}(f:Nat→α)(g:Nat→β)(n:Nat):((List.range n).map f).zip ((List.range n).map g)=(List.range n).map fun i=>(f i,g i):=by
 rw [List.zip_map']
theorem rows_of {W:World}{base n:Nat}{t e:TypeId}{k:Nat}(ht:Tryz.prog.underlying t=some (.slice e))(hk:Tryz.prog.cellsOf e=k)(hk0:0<k){v:Value}{x:DataW H × List MemPlace}(h:DataW.trod enc Tryz.prog W base (fun _=>true) true n t [v]=some x):
 ∃(len n':Nat) (C:Nat→List Value) (D:Nat→DataW H) (Pl:Nat→List MemPlace),(∀i,i<len→(C i).length=k∧DataW.trod enc Tryz.prog W base (fun _=>true) true n' e (C i)=some (D i,Pl i))∧
  RowIn (heapOf W) k v len ((List.range len).flatMap C)∧(Small x.1 t→len*Tryz.prog.bytesOf e≤reachBytes∧∀i,i<len→Small (D i) e):=by
 rcases open_slice ht h with⟨e1,e2⟩ | ⟨a,len,cap,m,n',D,Pl,e1,_,hl,hm,hmm,hx,hc⟩
 · simp at e1
   subst e1;exact⟨0,0,fun _=> [],fun _=> .nil,fun _=> [],fun i hi=>absurd hi (by omega),RowIn.nil _ _,fun _=>⟨by simp,fun i hi=>absurd hi (by omega)⟩⟩
 · simp at e1
   subst e1;simp only [if_true] at hmm;subst hmm;rw [hk] at hc;obtain⟨C,hC⟩:=choose_lt (α:=List Value) (n:=m) (p:=fun i cs'=>W.cells? base (a.add (i*k)) k=some cs'∧DataW.trod enc Tryz.prog W base (fun _=>true) true n' e cs'=some (D i,Pl i)) hc
   have hC2:∀i,i<m→(C i).length=k∧∀j,j<k→W.cell? ((a.add (i*k)).add j)=(C i)[j]? :=fun i hi=>by
    obtain⟨_,h2,h3⟩:=World.cells?_some (hC i hi).1;exact⟨h2,h3⟩
   refine⟨len,n',C,D,Pl,fun i hi=>⟨(hC2 i (by omega)).1,(hC i (by omega)).2⟩,⟨?_,some a,m,rfl,hl,hm,fun h0=> ?_⟩,fun hs=>⟨?_,fun i hi w hw=>hs w ?_⟩⟩
   · have e2:∀q,q≤m→((List.range q).flatMap C).length=q*k:=by
      intro q;induction q with
      | zero=>intro _;simp
      | succ q ih=>
        intro hq;rw [List.range_succ,List.flatMap_append,List.length_append,ih (by omega)];simp only [List.flatMap_cons,List.flatMap_nil,List.append_nil,(hC2 q (by omega)).1];rw [Nat.succ_mul]
     exact e2 len hl
   · obtain⟨ab,ao,spot⟩:=a
     have hspot:spot=none:=by
      have h1:=(hC2 0 (by omega)).2 0 hk0;rw [List.getElem?_eq_getElem (by rw [(hC2 0 (by omega)).1];exact hk0)] at h1;have:=World.cell?_spot h1
      simpa [Addr.add] using this
     subst hspot;refine⟨ab,ao,rfl,fun i hi=> ?_⟩
     have e2:∀q,q≤m→∀i,i<q*k→((List.range q).flatMap C)[i]? =(C (i / k))[i % k]? :=by
      intro q;induction q with
      | zero=>intro _ i hi;omega
      | succ q ih=>
        intro hq i hi
        have hlen:((List.range q).flatMap C).length=q*k:=by
         have e3:∀r,r≤m→((List.range r).flatMap C).length=r*k:=by
          intro r;induction r with
          | zero=>intro _;simp
          | succ r ihr=>
            intro hr;rw [List.range_succ,List.flatMap_append,List.length_append,ihr (by omega)];simp only [List.flatMap_cons,List.flatMap_nil,List.append_nil,(hC2 r (by omega)).1];rw [Nat.succ_mul]
         exact e3 q (by omega)
        rw [List.range_succ,List.flatMap_append];rcases Nat.lt_or_ge i (q*k) with h1 | h1
        · rw [List.getElem?_append_left (by rw [hlen];exact h1)]
          exact ih (by omega) i h1
        · rw [List.getElem?_append_right (by rw [hlen];exact h1),hlen]
          have h2:i<q*k+k:=by rw [Nat.succ_mul] at hi;exact hi
          have h3:i / k=q:=by
           have:q≤i / k:=(Nat.le_div_iff_mul_le hk0).2 h1
           have:i / k<q+1:=(Nat.div_lt_iff_lt_mul hk0).2 (by rw [Nat.succ_mul];exact h2)
           omega
          have h4:i % k=i-q*k:=by
           have:=Nat.div_add_mod i k
           rw [h3,Nat.mul_comm] at this;omega
          rw [h3,h4];simp
     rw [e2 len hl i hi];have hik:i / k<len:=(Nat.div_lt_iff_lt_mul hk0).2 hi;have h5:=(hC2 (i / k) (by omega)).2 (i % k) (Nat.mod_lt _ hk0);rw [List.getElem?_eq_getElem (by rw [(hC2 (i / k) (by omega)).1];exact Nat.mod_lt _ hk0)] at h5 ⊢;rw [add_add,Addr.add_lit,show i / k*k+i % k=i by rw [Nat.mul_comm];exact Nat.div_add_mod i k] at h5;exact heap_cell h5
   · subst hx
     have h2:=hs ((((List.range len).map D).length+((List.range (m-len)).map fun j=>D (len+j)).length)*Tryz.prog.bytesOf e:Nat) (by
      simp only [DataW.weights,ht]
      exact List.mem_cons_self)
     simp only [List.length_map,List.length_range] at h2;exact Nat.le_trans (Nat.mul_le_mul_right _ (by omega)) h2
   · subst hx
     simp only [DataW.weights,ht,List.mem_cons,List.mem_append];exact .inr (.inl (weights_all (l:=(List.range len).map D) (i:=i) (by simp [hi]) w hw))
instance:Inhabited ItemV:=⟨⟨[],[],0,0⟩⟩
instance:Inhabited PageV:=⟨⟨0,0,[],[],0⟩⟩
instance:Inhabited NumV:=⟨⟨0,default⟩⟩
theorem items_of {W:World}{base n:Nat}{v:Value}{x:DataW H × List MemPlace}(h:DataW.trod enc Tryz.prog W base (fun _=>true) true n 34 [v]=some x):
 ∃l:List ItemV,ItemsIn (heapOf W) v l∧(∀y∈l,ItemFits y)∧(Small x.1 34→l.length*64≤reachBytes∧∀y∈l,ItemSized y):=by
 obtain⟨len,n',C,D,Pl,hC,hr,hs⟩:=rows_of Tryz.underlying34 cells_item (by omega) h
 obtain⟨Y,hY⟩:=choose_lt (α:=ItemV × Value × Value) (n:=len) (p:=fun i y=>C i= [y.2.1,y.2.2,.int .i64 y.1.child,.int .i64 y.1.size]∧(Bytes (heapOf W) y.2.1 y.1.key∧Bytes (heapOf W) y.2.2 y.1.value)∧ItemFits y.1∧(Small (D i) 49→ItemSized y.1)) (fun i hi=>by
  obtain⟨y,⟨kv,vv,e,h1,h2⟩,h3,h4⟩:=item_of (hC i hi).2
  exact⟨(y,kv,vv),e,⟨h1,h2⟩,h3,h4⟩)
 refine⟨(List.range len).map fun i=>(Y i).1,⟨(List.range len).map fun i=>(Y i).2,by simp,?_,?_⟩,?_,fun hw=>⟨?_,?_⟩⟩
 · rw [zip_range]
   have e1:(List.range len).flatMap C=((List.range len).map fun i=>((Y i).2,(Y i).1)).flatMap fun x=> [x.1.1,x.1.2,.int .i64 x.2.child,.int .i64 x.2.size]:=by
    rw [List.flatMap_map];exact flatMap_congr_range fun i hi=>(hY i hi).1
   rw [← e1];simpa using hr
 · intro i hx hl
   simp at hl
   simp only [List.getElem_map,List.getElem_range];exact(hY i hl).2.1
 · intro y hy
   obtain⟨i,hi,rfl⟩:=List.mem_map.1 hy;exact(hY i (List.mem_range.1 hi)).2.2.1
 · have:=(hs hw).1
   rw [bytes_item] at this;simpa using this
 · intro y hy
   obtain⟨i,hi,rfl⟩:=List.mem_map.1 hy;exact(hY i (List.mem_range.1 hi)).2.2.2 ((hs hw).2 i (List.mem_range.1 hi))
def PageFits(g:PageV):Prop:=(∀y∈g.items,ItemFits y)∧U8 g.data∧(-9223372036854775808≤g.kind∧g.kind≤9223372036854775807)∧(-9223372036854775808≤g.level∧g.level≤9223372036854775807)∧(-9223372036854775808≤g.next∧g.next≤9223372036854775807)
def PageSized(g:PageV):Prop:=g.items.length*64≤reachBytes∧(∀y∈g.items,ItemSized y)∧g.data.length≤reachBytes
def PageCells(h:Hp)(cs:List Value)(g:PageV):Prop:= ∃vi vd,cs= [.int .i64 g.kind,.int .i64 g.level,vi,vd,.int .i64 g.next]∧ItemsIn h vi g.items∧Bytes h vd g.data
theorem page_of {W:World}{base n:Nat}{cs:List Value}{x:DataW H × List MemPlace}(h:DataW.trod enc Tryz.prog W base (fun _=>true) true n 37 cs=some x):
 ∃g:PageV,PageCells (heapOf W) cs g∧PageFits g∧(Small x.1 37→PageSized g):=by
 obtain⟨xs,m,rfl,rfl,hl,hlen,hf⟩:=DataW.trod_struct Tryz.underlying37 h;rw [cells_page] at hl;match cs,hl with
 | [c0,c1,c2,c3,c4],_=>
   match xs,hlen with
   | [x0,x1,x2,x3,x4],_=>
     have f0:=hf 0 _ rfl;have f1:=hf 1 _ rfl;have f2:=hf 2 _ rfl;have f3:=hf 3 _ rfl;have f4:=hf 4 _ rfl;simp only [List.getElem?_cons_zero,List.getElem?_cons_succ] at f0 f1 f2 f3 f4;obtain⟨k,rfl,hk⟩:=int_of f0;obtain⟨l,rfl,hl⟩:=int_of f1;obtain⟨I,hI,fI,sI⟩:=items_of f2;obtain⟨B,hB,uB,sB⟩:=bytes_sz f3;obtain⟨nx,rfl,hn⟩:=int_of f4;refine⟨⟨k,l,I,B,nx⟩,⟨c2,c3,rfl,hI,hB⟩,⟨fI,uB,hk,hl,hn⟩,fun hw=> ?_⟩
     have w2:=sI fun m hm=>hw m (by
      simp only [DataW.weights,Tryz.underlying37,List.map_cons,List.map_nil,DataW.weightsEach,List.mem_append]
      exact .inr (.inr (.inl hm)))
     have w3:=sB fun m hm=>hw m (by
      simp only [DataW.weights,Tryz.underlying37,List.map_cons,List.map_nil,DataW.weightsEach,List.mem_append]
      exact .inr (.inr (.inr (.inl hm))))
     exact⟨w2.1,w2.2,w3⟩
end
end Go.Proofs.YtpfafhklppondaaGreat.P6
