/- The vault: Undo of pages made; the conditions stand as hypotheses. -/
import Derived.Test.YtbobcmimkonnoaaGreatVaultLoadsM16
import Derived.Lib.SmallJoins
import Derived.Test.YtbobcmimkonnoaaGreatVaultLoadsM13
import Derived.Test.YtbobcmimkonnoaaGreatVaultLoadsM04
import Derived.Deep.Slices
import Derived.WideKeyArgs
import Derived.Test.YtbobcmimkonnoaaGreatVaultLoadsM07
import Derived.Test.YtbobcmimkonnoaaGreatVaultLoadsM14
import Derived.Test.YtbobcmimkonnoaaGreatVaultLoadsM01
set_option maxRecDepth 100000
set_option maxHeartbeats 16000000
namespace Go.Cop
def Bare(s:VaultS):Prop:= ∀n,s.pool.state n=1→s.on n=none
theorem Bare.make {s:VaultS}(h:Bare s){n:Int}(hn:s.pool.state n=1)(h0:s.pool.count n=0)(g:PageV):Bare (s.make n g):=by
 intro m hm;have hs:=did_state (s:=s.pool) (b:=1) (m:=m) (there_of_state (by omega:s.pool.state n≠0));have hm':(s.pool.did n 1).state m=1:=hm;rw [hm'] at hs;by_cases hmn:m=n
 · rw [if_pos hmn,h0] at hs
   unfold stateOf at hs;simp at hs
   split at hs<;>omega
 · rw [if_neg hmn] at hs
   show (if m=n then some g else s.on m)=none
   rw [if_neg hmn];exact h m hs.symm
end Go.Cop
namespace Go.Proofs.YtbobcmimkonnoaaGreat.J5
open ChangeShapes WideShapes ChangeAt RowKit Sl Cop D2 M3 Q3 D4 M2 N2 E4 G4 P4 S4 V4 X4 B5 D5 Z4
theorem row_cutk {T k n c m:Nat}{a:Option Addr}{xs:List Value}{F:Pr}{w:World}(h:Sat ((Row T k (.slice a n c) n xs).star F) w)(hm:m≤n):Sat ((Row T k (.slice a m c) m (xs.take (m*k))).star F) w:=by
 refine h.mono fun x hx=> ?_
 have hmk:m*k≤n*k:=Nat.mul_le_mul_right _ hm;obtain⟨hl,(⟨e,hn,hx⟩ | ⟨b,cap,sp,e,h1,h2,h3,h4⟩)⟩:=hx
 · cases e
   have:m=0:=by omega
   subst this;exact⟨by simp,.inl ⟨rfl,rfl,hx⟩⟩
 · cases e
   refine⟨by rw [List.length_take];omega,.inr ⟨b,c,xs.drop (m*k)++sp,rfl,by rw [List.length_take,List.length_append,List.length_drop];omega,by omega,h3,?_⟩⟩;rw [← List.append_assoc,List.take_append_drop];exact h4
theorem actCells_snoc(l:List (Int × Value))(x:Int × Value):actCells (l++ [x])=actCells l++ [.int .i64 x.1,x.2]:=by
 unfold actCells;rw [List.flatMap_append];rfl
theorem actCells_len(l:List (Int × Value)):(actCells l).length=l.length*2:=by
 induction l with
 | nil=>rfl
 | cons a l ih=>simp only [actCells,List.flatMap_cons,List.length_append,List.length_cons] at ih ⊢;simp at ih ⊢;omega
theorem acts_unsnoc {h:Hp}{axs:List (Int × Value)}{acts:List ActV}{a:ActV}(ha:ActsIn2 h axs (acts++ [a])):∃axs' x,axs=axs'++ [x]∧ActsIn2 h axs' acts∧ActRel h x a:=by
 have hl:=ha.1;rw [List.length_append] at hl;have hne:axs≠ []:=fun e=>by rw [e] at hl;simp at hl
 obtain⟨axs',x,rfl⟩:∃axs' x,axs=axs'++ [x]:=⟨axs.dropLast,axs.getLast hne,(List.dropLast_concat_getLast hne).symm⟩;have hl2:axs'.length=acts.length:=by simpa using hl
 refine⟨axs',x,rfl,⟨hl2,fun i h1 h2=> ?_⟩,?_⟩
 · have:=ha.2 i (by simp;omega) (by simp;omega)
   rw [List.getElem_append_left h1,List.getElem_append_left h2] at this;exact this
 · have:=ha.2 acts.length (by simp;omega) (by simp)
   rw [List.getElem_append_right (by omega),List.getElem_append_right (Nat.le_refl _)] at this;simpa [hl2] using this
end Go.Proofs.YtbobcmimkonnoaaGreat.J5
namespace Go.Proofs.YtbobcmimkonnoaaGreat.K5
open ChangeShapes WideShapes ChangeAt RowKit Sl Cop D2 M3 Q3 D4 M2 N2 E4 G4 P4 S4 V4 X4 Z4 E5
def pagesOf(n:Int):Int:=if n≤32 then 0 else(n-1) / 480+1
def longV:List Int:=(List.replicate 500 0).set 499 7
end Go.Proofs.YtbobcmimkonnoaaGreat.K5
namespace Go.Cop
end Go.Cop
namespace Go.Proofs.YtbobcmimkonnoaaGreat.L5
open ChangeShapes WideShapes ChangeAt RowKit Sl Cop D2 M3 Q3 D4 M2 N2 E4 G4 P4 S4 V4 X4 F5 J5 Z4
abbrev zeroItem:Value:= .agg #[.slice none 0 0,.slice none 0 0,.int .i64 0,.int .i64 0]
end Go.Proofs.YtbobcmimkonnoaaGreat.L5
namespace Go.Cop
def VaultS.settled(s:VaultS):VaultS:= { pool:=s.pool.settled,on:=fun m=>if s.pool.state m=2 then none else s.on m,acts:= [],floor:=s.floor+s.acts.length }
end Go.Cop
namespace Go.Proofs.YtbobcmimkonnoaaGreat.M5
open ChangeShapes WideShapes ChangeAt RowKit Sl Cop Go.Shelf D2 M3 Q3 U3 D4 M2 N2 E4 G4 P4 S4 X4 Z4 Q4
attribute [local go_sem] Oper.semAt_some
def gone(f:Int→Option Value)(l:List Int):Int→Option Value:=fun m=>if m∈l then none else f m
theorem gone_nil(f:Int→Option Value):gone f []=f:=by funext m;simp [gone]
theorem gone_snoc(f:Int→Option Value)(l:List Int)(y:Int):gone f (l++ [y])=fun m=>if m=y then none else gone f l m:=by
 funext m
 simp only [gone,List.mem_append,List.mem_singleton];by_cases h:m=y
 · rw [if_pos (Or.inr h),if_pos h]
 · rw [if_neg h]
   by_cases h2:m∈l
   · rw [if_pos (Or.inl h2),if_pos h2]
   · rw [if_neg (fun h3=>h3.elim h2 h),if_neg h2]
theorem vsettle_any(v:Nat)(s:VaultS)(F:Pr)(w:World)(hF:Sat ((VaultA v s).star F) w):
 Calls Tryz.prog 57 #[.pointer (some ⟨v,0,none⟩)] w fun e w'=>e= .returned (.tuple #[])∧Sat ((VaultA v s.settled).star F) w'∧Stays w w':=by
 have h1:=hF.alloc (.cells #[.pointer (some ⟨v,0,none⟩)] 35);have h2:=h1.perm (B:=(VaultA v s).star ((Pr.pts w.heap.size (.cells #[.pointer (some ⟨v,0,none⟩)] 35)).star F)) (by ac_rfl);obtain⟨okp,fb0,fb1⟩:=vault_ok h2;have M:=hQ (vmark_A v s _ _ h2.drew);have H2:=hQ h2;have OKP:=hQ okp;have HST:=hQ ((Stays.refl w).alloc (.cells #[.pointer (some ⟨v,0,none⟩)] 35));clear h1 h2 hF okp
 refine calls_of_wp_marks (n:=9) Tryz.func57 rfl ?_;simp only [Tryz.ntmps57,List.size_toArray,List.length_cons,List.length_nil,Nat.reduceAdd,Nat.reduceSub,Array.replicate_succ,Array.replicate_zero,List.push_toArray,List.append_toArray,List.nil_append,List.cons_append];go_wp2_with fail
 refine wS 27 [0,1,2] [(3,[4,5],[0,1]),(6,[7,8],[1,4]),(9,[],[7])] ?_;refine wpQ_all _ rfl rfl ?_;simp only [pick,pQ];iterate 3 (go_big_quiet_step (fail))
 refine wpQuiet_nil ?_;refine wpRest_act rfl ?_;go_wp2_with fail
 refine M.out.mono ?_;rintro e w1 ⟨rfl,ho⟩;obtain⟨x,ok,hx⟩:=vaultA_iff.1 (H2.out.drew.only ho)
 have h4:Sat ((Pr.pts v (.cells #[.pointer (some ⟨x.p,0,none⟩),.map (some x.mb),x.av,.int .i64 s.floor] 71)).star ((Pr.pts w.heap.size (.cells #[.pointer (some ⟨v,0,none⟩)] 35)).star ((PoolA x.p s.pool).star ((MapA Tryz.prog 3 x.mb x.f).star ((Row 158 2 x.av s.acts.length (actCells x.axs)).star ((Pr.own x.h).star F)))))) w1:=hx.perm (by unfold VaultAt;ac_rfl)
 have r0:w1.cell? ⟨w.heap.size,0,none⟩=some (.pointer (some ⟨v,0,none⟩)):=by rw [cell_of_heap h4.right.pts_heap];rfl
 have c2:w1.cell? ⟨v,2,none⟩=some x.av:=by rw [cell_of_heap h4.pts_heap];rfl
 have c3:w1.cell? ⟨v,3,none⟩=some (.int .i64 s.floor):=by rw [cell_of_heap h4.pts_heap];rfl
 have f2:=frozen_of_heap h4.pts_heap 2;have f3:=frozen_of_heap h4.pts_heap 3;have zb:=h4.right.lt;have zv:=h4.lt
 have hs5:Sat ((Pr.pts v (.cells #[.pointer (some ⟨x.p,0,none⟩),.map (some x.mb),.slice none 0 0,.int .i64 (s.floor+s.acts.length)] 71)).star ((Pr.pts w.heap.size (.cells #[.pointer (some ⟨v,0,none⟩)] 35)).star ((PoolA x.p s.pool).star ((MapA Tryz.prog 3 x.mb x.f).star ((Row 158 2 x.av s.acts.length (actCells x.axs)).star ((Pr.own x.h).star F)))))) _:=(h4.setCell (i:=3) (.int .i64 (s.floor+s.acts.length))).setCell (i:=2) (.slice none 0 0)
 have HS5:=hQ hs5;have HST1:=hQ (((HST.out.drew.trans ho.st).setCell ⟨v,3,none⟩ (.int .i64 (s.floor+s.acts.length))).setCell ⟨v,2,none⟩ (.slice none 0 0));have HOK:=hQ ok;clear h4 hx hs5 ok ho M H2 HST;go_wp2;refine onN_mk ?_;refine wpQ_all _ rfl rfl ?_;simp only [pick,pQ];iterate 2 (go_big_quiet_step (fail))
 refine wpQuiet_nil ⟨?_,?_⟩
 · exact cQ
 refine wpRest_act rfl ?_;go_wp2;refine onN_mk ?_;refine wpQ_all _ rfl rfl ?_;simp only [pick,pQ];iterate 2 (go_big_quiet_step (fail))
 refine wpQuiet_nil ⟨?_,?_⟩
 · exact cQ
 refine wpRest_act rfl ?_;go_wp2;refine onN_mk ?_;refine wpQ_nil ⟨?_,?_⟩
 · exact cQ
 refine wpRest_nil ?_;have T1:=HST1.out;have T2:=HS5.out;clear HST1 HS5 r0 c2 c3 f2 f3 zb zv;generalize (w1.setCell ⟨v,3,none⟩ (.int .i64 (s.floor+s.acts.length))).setCell ⟨v,2,none⟩ (.slice none 0 0)=w2 at*;have r0:w2.cell? ⟨w.heap.size,0,none⟩=some (.pointer (some ⟨v,0,none⟩)):=by rw [cell_of_heap T2.right.pts_heap];rfl
 have r1:w2.cell? ⟨v,0,none⟩=some (.pointer (some ⟨x.p,0,none⟩)):=by rw [cell_of_heap T2.pts_heap];rfl
 have zb:=T2.right.lt;have zv:=T2.lt
 have PG:=hQ (ppages_any x.p s.pool 2 _ _ (T2.perm (B:=((PoolA x.p s.pool).star ((Pr.pts v (.cells #[.pointer (some ⟨x.p,0,none⟩),.map (some x.mb),.slice none 0 0,.int .i64 (s.floor+s.acts.length)] 71)).star ((Pr.pts w.heap.size (.cells #[.pointer (some ⟨v,0,none⟩)] 35)).star ((MapA Tryz.prog 3 x.mb x.f).star ((Row 158 2 x.av s.acts.length (actCells x.axs)).star ((Pr.own x.h).star F))))))) (by ac_rfl)))
 have HST2:=hQ T1;clear T1 T2;go_wp2_with fail
 refine PG.out.mono ?_;rintro e w3 ⟨st3,lb,lv,rfl,hs6⟩;have HS6:=hQ hs6;have HST3:=hQ (HST2.out.trans st3);clear hs6 st3 PG HST2 r0 r1 zb zv;go_wp2
 refine wp_rangeFunc_sl 9 (gf:=158) rfl (enters_of Tryz.func158 (by kernel_rfl) rfl) (pages1 lb lv (pagesIn s.pool 2) (Nat.le_trans (pagesTo_len _ _ _) OKP.out.n2)) (fun _=>rfl)
  (fun pre=>((Pr.pts w.heap.size (.cells #[.pointer (some ⟨v,0,none⟩)] 35)).star ((Pr.pts v (.cells #[.pointer (some ⟨x.p,0,none⟩),.map (some x.mb),.slice none 0 0,.int .i64 (s.floor+s.acts.length)] 71)).star ((PoolA x.p s.pool).star ((MapA Tryz.prog 3 x.mb (gone x.f pre)).star ((Row 158 2 x.av s.acts.length (actCells x.axs)).star ((Pr.own x.h).star F))))))) (fun _ _=>Pr.pure False) ?start ?round ?done ?stop
 case start=>
  rw [gone_nil];exact HS6.out.perm (by unfold PagesOwn;ac_rfl)
 case round=>
  intro l' pre y W1 F1 hpre hs;have hmem:y∈pagesIn s.pool 2:=hpre.subset (List.mem_append_right _ (List.mem_singleton_self y));have hth:=(pages_mem.1 hmem).1;have hno:1≤y∧y≤65536:=⟨hth.1,by have:=hth.2;have:=OKP.out.n2;omega⟩;have HS1:=hQ hs;clear hs hmem hth hpre;simp only [encI];gi_wp2
  refine⟨((Pr.pts w.heap.size (.cells #[.pointer (some ⟨v,0,none⟩)] 35)).star ((Pr.pts v (.cells #[.pointer (some ⟨x.p,0,none⟩),.map (some x.mb),.slice none 0 0,.int .i64 (s.floor+s.acts.length)] 71)).star ((PoolA x.p s.pool).star ((MapA Tryz.prog 3 x.mb (gone x.f pre)).star ((Row 158 2 x.av s.acts.length (actCells x.axs)).star ((Pr.own x.h).star F)))))).star (PagesOwn lb lv (pagesIn s.pool 2)),Stays.refl _,HS1.out,?_⟩
  clear HS1;intro F2 W2 _ hs2
  have h1:Sat ((MapA Tryz.prog 3 x.mb (gone x.f pre)).star ((Pr.pts w.heap.size (.cells #[.pointer (some ⟨v,0,none⟩)] 35)).star ((Pr.pts v (.cells #[.pointer (some ⟨x.p,0,none⟩),.map (some x.mb),.slice none 0 0,.int .i64 (s.floor+s.acts.length)] 71)).star ((PoolA x.p s.pool).star ((Row 158 2 x.av s.acts.length (actCells x.axs)).star ((Pr.own x.h).star (F.star ((PagesOwn lb lv (pagesIn s.pool 2)).star F2)))))))) W2:=hs2.perm (by ac_rfl)
  have gV:W2.cell? ⟨w.heap.size,0,none⟩=some (.pointer (some ⟨v,0,none⟩)):=by rw [cell_of_heap h1.right.pts_heap];rfl
  have gm:W2.cell? ⟨v,1,none⟩=some (.map (some x.mb)):=by rw [cell_of_heap h1.right.right.pts_heap];rfl
  have zV:=h1.right.lt;have zv:=h1.right.right.lt;have H1:=hQ h1;clear h1 hs2
  gi_wp2_with (
   refine wpListIn_del rfl _ _ _ rfl Tryz.underlying3 Tryz.underlying68 y hno rfl rfl H1.out ?_
   intro w4 hs4 hg4
   have HS4:=hQ hs4
   have HG4:=hQ hg4
   clear hs4 hg4)
  refine⟨(Stays.refl W2).of_grown HG4.out,?_⟩;dsimp only;rw [gone_snoc];exact HS4.out.perm (by ac_rfl)
 case done=>
  intro D xs W2 hxs hst hs;subst hxs
  have h10:Sat ((Pr.pts D (.deferred (some []))).star ((Pr.pts w.heap.size (.cells #[.pointer (some ⟨v,0,none⟩)] 35)).star ((Pr.pts v (.cells #[.pointer (some ⟨x.p,0,none⟩),.map (some x.mb),.slice none 0 0,.int .i64 (s.floor+s.acts.length)] 71)).star ((PoolA x.p s.pool).star ((MapA Tryz.prog 3 x.mb (gone x.f (pagesIn s.pool 2))).star ((Row 158 2 x.av s.acts.length (actCells x.axs)).star ((Pr.own x.h).star (F.star (PagesOwn lb lv (pagesIn s.pool 2)))))))))) W2:=hs.perm (by ac_rfl)
  have r0:W2.cell? ⟨w.heap.size,0,none⟩=some (.pointer (some ⟨v,0,none⟩)):=by rw [cell_of_heap h10.right.pts_heap];rfl
  have r1:W2.cell? ⟨v,0,none⟩=some (.pointer (some ⟨x.p,0,none⟩)):=by rw [cell_of_heap h10.right.right.pts_heap];rfl
  have zb:=h10.right.lt;have zv:=h10.right.right.lt
  have PS:=hQ (psettle_any x.p s.pool _ _ (h10.perm (B:=((PoolA x.p s.pool).star ((Pr.pts D (.deferred (some []))).star ((Pr.pts w.heap.size (.cells #[.pointer (some ⟨v,0,none⟩)] 35)).star ((Pr.pts v (.cells #[.pointer (some ⟨x.p,0,none⟩),.map (some x.mb),.slice none 0 0,.int .i64 (s.floor+s.acts.length)] 71)).star ((MapA Tryz.prog 3 x.mb (gone x.f (pagesIn s.pool 2))).star ((Row 158 2 x.av s.acts.length (actCells x.axs)).star ((Pr.own x.h).star (F.star (PagesOwn lb lv (pagesIn s.pool 2))))))))))) (by ac_rfl)))
  have HST4:=hQ (HST3.out.trans hst);clear hs h10 hst;go_wp2_with fail
  refine PS.out.mono ?_;rintro e w5 ⟨rfl,hs7,st5⟩
  have h11:Sat ((Pr.pts D (.deferred (some []))).star ((Pr.pts w.heap.size (.cells #[.pointer (some ⟨v,0,none⟩)] 35)).star ((Row 158 2 x.av s.acts.length (actCells x.axs)).star ((PagesOwn lb lv (pagesIn s.pool 2)).star ((Pr.pts v (.cells #[.pointer (some ⟨x.p,0,none⟩),.map (some x.mb),.slice none 0 0,.int .i64 (s.floor+s.acts.length)] 71)).star ((PoolA x.p s.pool.settled).star ((MapA Tryz.prog 3 x.mb (gone x.f (pagesIn s.pool 2))).star ((Pr.own x.h).star F)))))))) w5:=hs7.perm (by ac_rfl)
  have H11:=hQ h11;have HST5:=hQ (HST4.out.trans st5);clear hs7 h11 st5 PS;go_wp2;refine marks_end1 (D:=D) rfl H11.out.pts_heap ⟨_,results_none rfl _ _ _,rfl,?_,HST5.out.putObj _ _⟩;have h12:=(H11.out.putObj (.deferred none)).right.right.right.right;refine vaultA_iff.2 ⟨{ x with f:=gone x.f (pagesIn s.pool 2),av:= .slice none 0 0,axs:= [] },⟨?_,⟨rfl,fun i h1=>absurd h1 (by simp)⟩,?_,?_⟩,?_⟩
  · intro m
    have h13:=HOK.out.on m;show (match (if s.pool.state m=2 then none else s.on m) with | none=>gone x.f (pagesIn s.pool 2) m=none | some g=> ∃v,gone x.f (pagesIn s.pool 2) m=some v∧PageIn x.h v g)
    unfold gone;by_cases hm:s.pool.state m=2
    · rw [if_pos hm,if_pos (pages_mem.2 ⟨there_of_state (by omega),hm⟩)]
    · rw [if_neg hm,if_neg (fun h=>hm (pages_mem.1 h).2)]
      exact h13
  · show (0:Int)≤s.floor+s.acts.length
    omega
  · show s.floor+s.acts.length+((0:Nat):Int)≤ _
    omega
  · refine h12.perm ?_
    unfold VaultAt;show _=(Pr.star (Pr.pts v (.cells #[.pointer (some ⟨x.p,0,none⟩),.map (some x.mb),.slice none 0 0,.int .i64 (s.floor+s.acts.length)] 71)) ((PoolA x.p s.pool.settled).star ((MapA Tryz.prog 3 x.mb (gone x.f (pagesIn s.pool 2))).star ((Row 158 2 (.slice none 0 0) 0 []).star (Pr.own x.h))))).star F
    rw [Row.nil,Pr.emp_star];ac_rfl
 case stop=>
  intro D c pre W2 _ hst hs;exact(Sat.pure.1 (hs.perm (Pr.star_assoc _ _ _))).1.elim
end Go.Proofs.YtbobcmimkonnoaaGreat.M5
namespace Go.Proofs.YtbobcmimkonnoaaGreat.P5
open ChangeShapes WideShapes ChangeAt RowKit Sl
def heapOf(w:World):Hp:=fun k=>w.heap[k]?
theorem sat_heap(w:World):Sat (Pr.own (heapOf w)) w:=⟨heapOf w,rfl,fun _ _ e=>e⟩
theorem heap_of_sat {w w':World}(h:Sat (Pr.own (heapOf w)) w'):∀k,k<w.heap.size→w'.heap[k]? =w.heap[k]? :=by
 obtain⟨x,rfl,hl⟩:=h;intro k hk;have e:heapOf w k=some w.heap[k]:=Array.getElem?_eq_getElem hk;rw [hl k _ e];exact e.symm
theorem kept_of {w w':World}(hs:Stays w w')(h:∀k,k<w.heap.size→w'.heap[k]? =w.heap[k]?)(may:MemPlace→Prop):w.keptBut w' may:=by
 refine⟨hs.os,hs.output,fun i hi=> ?_⟩;rw [h i hi];cases w.heap[i]? with
 | none=>rfl
 | some o=>cases o<;>simp
end Go.Proofs.YtbobcmimkonnoaaGreat.P5
namespace Go.Proofs.YtbobcmimkonnoaaGreat.Q5
open ChangeShapes WideShapes ChangeAt RowKit Sl Cop Deep M2 P5
theorem laidOut:laidOutB Tryz.prog=true:=by kernel_rfl
theorem heap_cell {w:World}{b i:Nat}{v:Value}(h:w.cell? ⟨b,i,none⟩=some v):(heapOf w).cell b i=some v:=by
 unfold World.cell? at h;unfold Hp.cell heapOf;simp only at h;cases hb:w.heap[b]? with
 | none=>rw [hb] at h;simp at h
 | some o=>
   rw [hb] at h;cases o<;>simp_all
section
variable {H:Type}{enc:TypeId × Value→H}
theorem cells_u8:Tryz.prog.cellsOf 5=1:=by kernel_rfl
theorem stays {W W':World}(hh:∀k,k<W.heap.size→W'.heap[k]? =W.heap[k]?){t:TypeId}(hr:Tryz.prog.readableRec t=true)(ht:t<Tryz.prog.types.size){v:Value}{d:DataW H}{p:List MemPlace}
 (h:DataW.Trod enc Tryz.prog W 0 (fun _=>true) true t v d p) (hp:∀x∈p,x.block<W.heap.size):DataW.Trod enc Tryz.prog W' 0 (fun x=>decide (x<W.heap.size)) true t v d p:=
 WideElems.Trod_stays (P:=Tryz.prog) laidOut hr ht h
  (fun x hx=>by
    have hlt:=hp x hx
    cases x with
    | cell b o=>
      show W'.cell? ⟨b,o,none⟩=W.cell? ⟨b,o,none⟩
      unfold World.cell?
      rw [hh b hlt]
    | map b=>exact hh b hlt)
  (fun x hx=>by simpa using hp x hx)
end
end Go.Proofs.YtbobcmimkonnoaaGreat.Q5
namespace Go.Proofs.YtbobcmimkonnoaaGreat.V5
open ChangeShapes WideShapes ChangeAt RowKit Sl Cop D2 M3 Q3 D4 M2 N2 E4 G4 P4 S4 V4 X4 Z4 L5
end Go.Proofs.YtbobcmimkonnoaaGreat.V5
namespace Go.Cop
def kidsB(next:Int):List Int:=if next=0 then [] else [next]
end Go.Cop
namespace Go.Proofs.YtbobcmimkonnoaaGreat.X5
open ChangeShapes WideShapes ChangeAt RowKit Sl Cop D2 M3 Q3 D4 M2 N2 E4 G4
end Go.Proofs.YtbobcmimkonnoaaGreat.X5
namespace Go.Cop
def pagesV(V:List Int):Nat:=if V.length≤32 then 0 else chunks V
theorem chain_counts {s:VaultS}{V:List Int}:∀ {k j:Nat} {c:Int} {ns:List Int},ChainAt s V k j c ns→∀n∈ns,s.pool.count n=1:=by
 intro k;induction k with
 | zero=>intro j c ns h;rw [h.2];simp
 | succ k ih=>
   intro j c ns h n hn;obtain⟨c',ns',rfl,_,h3,_,h5⟩:=h;rcases List.mem_cons.1 hn with rfl | hn
   · exact h3
   · exact ih h5 n hn
theorem chain_taken {s s':VaultS}{V:List Int}{k j:Nat}{c:Int}{ns ns':List Int}(h:ChainAt s V k j c ns)(ok:PoolOk s.pool)(ht:Taken s s' ns'):ChainAt s' V k j c ns:=by
 refine chain_keep (fun n hn=> ?_) h;have h1:=chain_counts h n hn;exact ht.same n (fun hm=>by have:=count_of_free ok (ht.free n hm);omega)
end Go.Cop
namespace Go.Proofs.YtbobcmimkonnoaaGreat.Y5
open ChangeShapes WideShapes ChangeAt RowKit Sl Cop D2 M3 Q3 D4 M2 N2 E4 G4 P4 S4 V4 X4 J5 Z4 E5 K5 L5 V5 Y2
def StoredAt(s:VaultS)(h:Hp)(kv vv:Value)(c:Int)(V:List Int):Prop:=
 IsSl kv∧IsSl vv∧((V.length≤32∧Bytes h vv V)∨((32<V.length∧V.length≤3840)∧vv= .slice none 0 0∧∃ns,ChainAt s V (chunks V) 0 c ns))
theorem StoredAt.sub {s:VaultS}{h h':Hp}{kv vv:Value}{c:Int}{V:List Int}(hs:h.sub h')(x:StoredAt s h kv vv c V):StoredAt s h' kv vv c V:=
 ⟨x.1,x.2.1,x.2.2.imp (fun y=>⟨y.1,y.2.sub hs⟩) id⟩
theorem StoredAt.taken {s s':VaultS}{h:Hp}{kv vv:Value}{c:Int}{V:List Int}{ns:List Int}(ok:PoolOk s.pool)(ht:Taken s s' ns)(x:StoredAt s h kv vv c V):StoredAt s' h kv vv c V:=
 ⟨x.1,x.2.1,x.2.2.imp id (fun⟨y1,y2,m,y3⟩=>⟨y1,y2,m,chain_taken y3 ok ht⟩)⟩
end Go.Proofs.YtbobcmimkonnoaaGreat.Y5
namespace Go.Cop
def VaultS.freed(s:VaultS)(n:Int):VaultS:= { s with pool:=s.pool.did n (-1),on:=fun m=>if m=n then none else s.on m }
end Go.Cop
namespace Go.Proofs.YtbobcmimkonnoaaGreat.Z5
open ChangeShapes WideShapes ChangeAt RowKit Sl Cop D2 M3 Q3 D4 M2 N2 E4 G4 P4 S4
theorem onIn_del {h:Hp}{f:Int→Option Value}{on:Int→Option PageV}(hO:OnIn h f on)(n:Int):OnIn h (fun m=>if m=n then none else f m) (fun m=>if m=n then none else on m):=by
 intro m;dsimp only;by_cases hm:m=n
 · simp only [hm,if_true]
 · simp only [hm,if_false];exact hO m
theorem was_snoc {h:Hp}{ws:List WasX}{was:List (Int × Option PageV)}(hw:WasIn h ws was){X:WasX}{y:Int × Option PageV}(hr:WasRel h X y):WasIn h (ws++ [X]) (was++ [y]):=by
 refine⟨by simp [hw.1],fun i h1 h2=> ?_⟩;rcases Nat.lt_or_ge i was.length with hlt | hge
 · have hx:i<ws.length:=by rw [hw.1];exact hlt
   rw [List.getElem_append_left hx,List.getElem_append_left hlt];exact hw.2 i hx hlt
 · have h3:i=was.length:=by simp at h2;omega
   subst h3;have hx:ws.length≤was.length:=by rw [hw.1];omega
   rw [List.getElem_append_right hx,List.getElem_append_right hge];simpa using hr
theorem pool_state(p:Nat)(s:PoolS)(n:Int)(F:Pr)(w:World)(hF:Sat ((PoolA p s).star F) w):
 Calls Tryz.prog 47 #[.pointer (some ⟨p,0,none⟩),.int .i64 n] w fun e w'=>e= .returned (.int .i64 (s.state n))∧w=w':=
 state_any p n w s (poolA_rd hF).2.1
theorem free_A(v:Nat)(s:VaultS)(ab:Nat)(mark:Int)(was:List (Int × Option PageV))(n:Int)(hn:1≤n∧n≤65536)(hs:s.pool.state n=1)(hl:was.length≤65536)(F:Pr)(w:World)
 (hF:Sat ((VMA v s ab mark was).star F) w):
 Calls Tryz.prog 155 #[.pointer (some ⟨v,0,none⟩),.pointer (some ⟨ab,0,none⟩),.int .i64 n] w fun e w'=>
  e= .returned (.tuple #[])∧Sat ((VMA v { s with on:=fun m=>if m=n then none else s.on m } ab mark (was++ [(n,s.on n)])).star F) w'∧Stays w w':=by
 obtain⟨x,wv,ws,ok,hws,hF⟩:=vma_iff.1 hF
 have h1:Sat ((PoolA x.p s.pool).star ((Pr.pts v (.cells #[.pointer (some ⟨x.p,0,none⟩),.map (some x.mb),x.av,.int .i64 s.floor] 71)).star
  ((((MapA Tryz.prog 3 x.mb x.f).star ((Row 158 2 x.av s.acts.length (actCells x.axs)).star (Pr.own x.h)))).star (((Pr.pts ab (.cells #[.int .i64 mark,wv] 158)).star (Row 172 7 wv ws.length (ws.flatMap WasX.cells))).star F)))) w:=hF.perm (by unfold VMAt VaultAt;ac_rfl)
 have qv:w.cell? ⟨v,0,none⟩=some (.pointer (some ⟨x.p,0,none⟩)):=by rw [cell_of_heap h1.right.pts_heap];rfl
 have P:=pool_state x.p s.pool n _ w h1;rw [hs] at P;have HP:=hQ P;have N:=hQ (note_at v s x ab mark wv ws n hn ok.on (by rw [hws.1];exact hl) F w hF);clear h1 P hF;go_enter Tryz.func155,Tryz.ntmps155
 go_wp2_with fail
 refine HP.out.mono ?_;rintro e w1 ⟨rfl,rfl⟩;go_wp2_with fail
 refine N.out.mono ?_;rintro e w1 ⟨rfl,⟨wv',X,hX,h4⟩,hst⟩
 have h5:Sat ((MapA Tryz.prog 3 x.mb x.f).star ((Pr.pts v (.cells #[.pointer (some ⟨x.p,0,none⟩),.map (some x.mb),x.av,.int .i64 s.floor] 71)).star
  (((PoolA x.p s.pool).star ((Row 158 2 x.av s.acts.length (actCells x.axs)).star (Pr.own x.h))).star (((Pr.pts ab (.cells #[.int .i64 mark,wv'] 158)).star (Row 172 7 wv' (ws++ [X]).length ((ws++ [X]).flatMap WasX.cells))).star F)))) w1:=h4.perm (by unfold VMAt VaultAt;ac_rfl)
 have q1:w1.cell? ⟨v,1,none⟩=some (.map (some x.mb)):=by rw [cell_of_heap h5.right.pts_heap];rfl
 have H5:=hQ h5;clear h5 h4 qv N HP;go_wp2_with (refine wpList_del rfl _ _ _ rfl Tryz.underlying3 Tryz.underlying68 n hn rfl rfl H5.out ?_;intro w2 hs2 hg2;have HS2:=hQ hs2;have HG2:=hQ hg2;clear hs2 hg2)
 trace_state
 first | refine bodyPost_ret (results_none rfl _ _ _) rfl ?_ | go_end0
 refine⟨rfl,vma_iff.2 ⟨{ x with f:=fun m=>if m=n then none else x.f m },wv',ws++ [X],⟨onIn_del ok.on n,ok.acts,ok.f0,ok.fb⟩,was_snoc hws hX,?_⟩,hst.of_grown HG2.out⟩;exact HS2.out.perm (by unfold VMAt VaultAt;dsimp only;ac_rfl)
end Go.Proofs.YtbobcmimkonnoaaGreat.Z5
namespace Go.Cop
def VaultS.freedAll(s:VaultS):List Int→VaultS
 | []=>s
 | n :: ns=>(s.freed n).freedAll ns
end Go.Cop
namespace Go.Proofs.YtbobcmimkonnoaaGreat.B6
open ChangeShapes WideShapes ChangeAt RowKit Sl Cop D2 M3 Q3 D4 M2 N2 E4 G4 P4 S4 X5 Z5
end Go.Proofs.YtbobcmimkonnoaaGreat.B6
namespace Go.Cop
end Go.Cop
namespace Go.Proofs.YtbobcmimkonnoaaGreat.C6
open ChangeShapes WideShapes ChangeAt RowKit Sl Cop D2 M3 Q3 D4 M2 N2 E4 G4 P4 S4 V4 X5 Z5 B6 Y5
def nsOf(s:VaultS)(c:Int)(V:List Int)(ns:List Int):Prop:=(V.length≤32∧ns= [])∨((32<V.length∧V.length≤3840)∧ChainAt s V (chunks V) 0 c ns)
end Go.Proofs.YtbobcmimkonnoaaGreat.C6
namespace Go.Proofs.YtbobcmimkonnoaaGreat.E6
open ChangeShapes WideShapes ChangeAt RowKit Sl Cop D2 M3 Q3 D4 M2 N2 E4 G4
abbrev Ints(h:Hp)(v:Value)(l:List Int):Prop:=RowIn h 1 v l.length (l.map (Value.int .i64))
theorem clone_ints(h:Hp)(v:Value)(l:List Int)(F:Pr)(w:World)(hF:Sat F w)(hh:h.le w)(hx:Ints h v l)(hn:l.length≤65536):
 Calls Tryz.prog 79 #[v] w fun e w'=> ∃v',e= .returned v'∧Sat ((IntsRow v' l).star F) w'∧Stays w w':=by
 obtain⟨_,ad,c,rfl,hnc,hcm,hcell⟩:=id hx;have he:∀wx:World,(binOp .eql 40 (.slice ad l.length c) (.slice none 0 0)).run Tryz.prog wx= .ok (.bool ad.isNone) wx:=fun wx=>Lib.run_eql_slice_nil wx _ _ ad _ c 0 0 Tryz.underlying40
 cases ad with
 | none=>
   have hl:l.length=0:=by
    rcases Nat.eq_zero_or_pos l.length with h0 | h0
    · exact h0
    · obtain⟨b,off,e1,_⟩:=hcell (by omega);cases e1
   have hl2:l= []:=List.eq_nil_of_length_eq_zero hl;have HF:=hQ hF;have HL:=hQ hl2;clear hF hx hcell hh hl2 hl;go_enter Tryz.func79,Tryz.ntmps79
   go_wp2;go_ret;refine⟨_,rfl,?_,Stays.refl w⟩;have h1:=HF.out;have h2:=HL.out;subst h2;rw [← Sat.emp, ← Row.nil 3 1] at h1;exact h1
 | some ad=>
   have hnew:Sat ((Row 3 1 (.slice (some ⟨w.heap.size,0,none⟩) 0 0) 0 []).star F) (w.alloc (.cells #[] 3)):=
    Row.mk' (xs:= []) (sp:= []) (by simp) (by simp) (Nat.le_refl _) (by simp) (by simpa using hF.alloc (.cells #[] 3))
   have hle:h.le (w.alloc (.cells #[] 3)):=fun k o e=>(Below.heap_alloc w _ k (Array.getElem?_eq_some_iff.1 (hh k o e)).1).trans (hh k o e)
   have HF:=hQ hnew;have HX:=hQ hx;have HH:=hQ hle;clear hF hx hcell hh hnew hle;go_enter Tryz.func79,Tryz.ntmps79
   obtain⟨i0,hi,hz0,hz1,hz2⟩:=info_parts infoInt;go_wp2_with (at_builtin;refine wpList_append_row rfl _ _ _ rfl 3 i0 (.int .i64 0) 1 8 Tryz.underlying40 hi hz0 hz1 hz2 rfl _ _ _ rfl HF.out h HH.out _ _ _ rfl HX.out (by simp [Value.oneCell']) (by simp only [maxLen];omega) (by omega) ?_;intro v' w1 hsat hgr _;have HSAT:=hQ hsat;clear hsat)
   go_ret;refine⟨_,rfl,?_,((Stays.refl w).alloc _).of_grown hgr⟩;have h1:=HSAT.out;rw [Nat.zero_add,List.nil_append] at h1;exact h1
theorem counts_A(p:Nat)(s:PoolS)(F:Pr)(w:World)(hF:Sat ((PoolA p s).star F) w):
 Calls Tryz.prog 19 #[.pointer (some ⟨p,0,none⟩)] w fun e w'=> ∃v',e= .returned v'∧Sat ((IntsRow v' s.counts).star ((PoolA p s).star F)) w'∧Stays w w':=by
 obtain⟨ok,cv,lv,fb,av,hA⟩:=poolA_iff.1 hF;have hA1:Sat ((Pr.pts p (.cells (poolCells s cv lv fb av) 124)).star ((IntsRow cv s.counts).star ((BoolsRow lv s.last).star ((SetOf fb fun m=>s.state m=1).star ((ActsA p av s.acts).star F))))) w:=hA.perm (by unfold PoolAt;ac_rfl);have q1:w.cell? ⟨p,1,none⟩=some cv:=by rw [cell_of_heap hA1.pts_heap];rfl
 obtain⟨x,⟨a,f,ha,hf,hd,rfl⟩,hl⟩:=hA1.right;have C:=hQ (clone_ints a cv s.counts _ w hF ((Hp.le_un hd).1 hl).1 (Row.rowIn ha) ok.n2);clear hA hA1 hF ha hf hd hl;go_enter Tryz.func19,Tryz.ntmps19
 go_wp2_with fail
 refine C.out.mono ?_;rintro e w1 ⟨v',rfl,h1,hst⟩;have H1:=hQ h1;clear h1;go_wp2;go_ret;exact⟨_,rfl,H1.out,hst⟩
theorem ints_rd {h:Hp}{v:Value}{V:List Int}(hb:Ints h v V):∃a c,v= .slice a V.length c∧∀i,i<V.length→∃b off,a=some ⟨b,off,none⟩∧∀w,h.le w→w.cell? ⟨b,off+i,none⟩=some (.int .i64 (V.getD i 0)):=by
 obtain⟨hl,a,c,e,_,_,hc⟩:=hb;refine⟨a,c,e,fun i hi=> ?_⟩;obtain⟨b,off,e1,e2⟩:=hc (by omega);refine⟨b,off,e1,fun w hw=> ?_⟩;refine Hp.cell_le hw ((e2 i (by omega)).trans ?_);simp [hi]
theorem eqints_same(ha hb:Hp)(va vb:Value)(V:List Int)(h1:Ints ha va V)(h2:Ints hb vb V)(hn:V.length≤65536)(w:World)(l1:ha.le w)(l2:hb.le w):
 Calls Tryz.prog 18 #[va,vb] w fun e w'=>e= .returned (.bool true)∧Only w w':=by
 obtain⟨a,c,rfl,r1⟩:=ints_rd h1;obtain⟨a',c',rfl,r2⟩:=ints_rd h2;have R1:=hQ r1;have R2:=hQ r2;have L1:=hQ l1;have L2:=hQ l2;clear r1 r2 h1 h2 l1 l2;go_enter Tryz.func18,Tryz.ntmps18
 go_wp2;go_loopw [5] (fun i wr=> ∃k:Nat,k≤V.length∧i= .int .i64 k∧Only w wr) (fun i _=>V.length-(intOf i).toNat)
 case atStart=>exact⟨0,Nat.zero_le _,rfl,Only.refl w⟩
 case round=>
  obtain⟨k,hk,rfl,ho⟩:=hrel;rcases Nat.lt_or_ge k V.length with hlt | hge
  · obtain⟨b,off,rfl,c1⟩:=R1.out k hlt
    obtain⟨b',off',rfl,c2⟩:=R2.out k hlt;have q1:=c1 wr (fun k o e=>(ho.heap k (Array.getElem?_eq_some_iff.1 (L1.out k o e)).1).trans (L1.out k o e));have q2:=c2 wr (fun k o e=>(ho.heap k (Array.getElem?_eq_some_iff.1 (L2.out k o e)).1).trans (L2.out k o e));have HO:=hQ ho;clear c1 c2 ho;generalize V.getD k 0=x at*;go_wp2;go_region
    go_wp2;go_roundw
    case rel=>exact⟨k+1,by omega,by go_num,HO.out.drew⟩
    case measure=>simp [intOf];omega
  · have hkl:k=V.length:=by omega
    subst hkl;go_wp2;go_ret;exact⟨rfl,ho⟩
end Go.Proofs.YtbobcmimkonnoaaGreat.E6
namespace Go.Proofs.YtbobcmimkonnoaaGreat.F6
open ChangeShapes WideShapes ChangeAt RowKit Sl Cop D2 M3 Q3 U3 D4 M2 N2 E6
theorem min_any(h:Hp)(v:Value)(cs:List Int)(hx:Ints h v cs)(hn:1≤cs.length)(hn2:cs.length≤65536)(w:World)(hh:h.le w):
 Calls Tryz.prog 134 #[v] w fun e w'=>(∃m,e= .returned (.int .i64 m)∧∀t,m<t↔∃c∈cs,c<t)∧w=w':=by
 obtain⟨a,c,rfl,rd⟩:=ints_rd hx;obtain⟨b,off,rfl,c0⟩:=rd 0 (by omega);have q0:=c0 w hh;rw [Nat.add_zero] at q0;have hl:((cs.length:Int)<1)=False:=eq_false (by omega);have RD:=hQ rd;have HH:=hQ hh;have HN:=hQ hn;clear rd hx c0 hh;go_enter Tryz.func134,Tryz.ntmps134
 go_wp2;go_loopw [3,4] (fun m i wr=> ∃(k:Nat) (mm:Int),1≤k∧k≤cs.length∧m= .int .i64 mm∧i= .int .i64 k∧wr=w∧Hid (∀t,mm<t↔∃c∈cs.take k,c<t)) (fun _ i _=>cs.length-(intOf i).toNat)
 case atStart=>
  refine⟨1,cs.getD 0 0,Nat.le_refl _,HN.out,rfl,rfl,rfl,hQ fun t=> ?_⟩;have hn:=HN.out;cases cs with
  | nil=>simp at hn
  | cons x l=>simp
 case round=>
  obtain⟨k,mm,hk1,hk,rfl,rfl,rfl,hc⟩:=hrel;rcases Nat.lt_or_ge k cs.length with hlt | hge
  · obtain⟨b',off',e',c1⟩:=RD.out k hlt
    cases e';have q1:=c1 wr HH.out;have hget:cs.getD k 0=cs[k]:=by simp [hlt]
    have HT:=hQ (show ∀t,(∃c∈cs.take (k+1),c<t)↔(∃c∈cs.take k,c<t)∨cs.getD k 0<t by
     intro t
     rw [List.take_succ_eq_append_getElem hlt,hget]
     constructor
     · rintro⟨c,hc,h⟩
       rcases List.mem_append.1 hc with h1 | h1
       · exact .inl ⟨c,h1,h⟩
       · rw [List.mem_singleton.1 h1] at h;exact .inr h
     · rintro(⟨c,h1,h⟩ | h)
       · exact⟨c,List.mem_append_left _ h1,h⟩
       · exact⟨_,List.mem_append_right _ (List.mem_singleton.2 rfl),h⟩)
    clear c1 hget;generalize cs.getD k 0=x at*;go_wp2;go_roundw
    case rel=>
     refine⟨k+1,_,by omega,by omega,rfl,congrArg (Value.int .i64) (by omega),trivial,hQ fun t=> ?_⟩;rw [HT.out, ← hc.out];omega
    case measure=>simp [intOf];omega
  · have hkl:k=cs.length:=by omega
    subst hkl;have HC:=hQ hc.out;clear hc;go_wp2;go_ret;refine⟨⟨mm,rfl,?_⟩,rfl⟩;have:=HC.out
    rw [List.take_length] at this;exact this
theorem max_any(h:Hp)(v:Value)(cs:List Int)(hx:Ints h v cs)(hn:1≤cs.length)(hn2:cs.length≤65536)(w:World)(hh:h.le w):
 Calls Tryz.prog 135 #[v] w fun e w'=>(∃m,e= .returned (.int .i64 m)∧∀t,t<m↔∃c∈cs,t<c)∧w=w':=by
 obtain⟨a,c,rfl,rd⟩:=ints_rd hx;obtain⟨b,off,rfl,c0⟩:=rd 0 (by omega);have q0:=c0 w hh;rw [Nat.add_zero] at q0;have hl:((cs.length:Int)<1)=False:=eq_false (by omega);have RD:=hQ rd;have HH:=hQ hh;have HN:=hQ hn;clear rd hx c0 hh;go_enter Tryz.func135,Tryz.ntmps135
 go_wp2;go_loopw [3,4] (fun m i wr=> ∃(k:Nat) (mm:Int),1≤k∧k≤cs.length∧m= .int .i64 mm∧i= .int .i64 k∧wr=w∧Hid (∀t,t<mm↔∃c∈cs.take k,t<c)) (fun _ i _=>cs.length-(intOf i).toNat)
 case atStart=>
  refine⟨1,cs.getD 0 0,Nat.le_refl _,HN.out,rfl,rfl,rfl,hQ fun t=> ?_⟩;have hn:=HN.out;cases cs with
  | nil=>simp at hn
  | cons x l=>simp
 case round=>
  obtain⟨k,mm,hk1,hk,rfl,rfl,rfl,hc⟩:=hrel;rcases Nat.lt_or_ge k cs.length with hlt | hge
  · obtain⟨b',off',e',c1⟩:=RD.out k hlt
    cases e';have q1:=c1 wr HH.out;have hget:cs.getD k 0=cs[k]:=by simp [hlt]
    have HT:=hQ (show ∀t,(∃c∈cs.take (k+1),t<c)↔(∃c∈cs.take k,t<c)∨t<cs.getD k 0 by
     intro t
     rw [List.take_succ_eq_append_getElem hlt,hget]
     constructor
     · rintro⟨c,hc,h⟩
       rcases List.mem_append.1 hc with h1 | h1
       · exact .inl ⟨c,h1,h⟩
       · rw [List.mem_singleton.1 h1] at h;exact .inr h
     · rintro(⟨c,h1,h⟩ | h)
       · exact⟨c,List.mem_append_left _ h1,h⟩
       · exact⟨_,List.mem_append_right _ (List.mem_singleton.2 rfl),h⟩)
    clear c1 hget;generalize cs.getD k 0=x at*;go_wp2;go_roundw
    case rel=>
     refine⟨k+1,_,by omega,by omega,rfl,congrArg (Value.int .i64) (by omega),trivial,hQ fun t=> ?_⟩;rw [HT.out, ← hc.out];omega
    case measure=>simp [intOf];omega
  · have hkl:k=cs.length:=by omega
    subst hkl;have HC:=hQ hc.out;clear hc;go_wp2;go_ret;refine⟨⟨mm,rfl,?_⟩,rfl⟩;have:=HC.out
    rw [List.take_length] at this;exact this
theorem right_any(n r:Int)(w:World):Calls Tryz.prog 122 #[.int .i64 n,.int .i64 r] w fun e w'=>e= .returned (.bool (rangeOk n r))∧w=w':=by
 have fin:∀(b:Bool),b=rangeOk n r→Ending.returned (Value.bool b)=Ending.returned (Value.bool (rangeOk n r)):=fun b e=>by rw [e]
 by_cases h1:1≤n
 · by_cases h2:n≤65536
   · by_cases h3:2≤r
     · go_enter Tryz.func122,Tryz.ntmps122
       go_wp2;go_ret;refine⟨fin _ ?_,rfl⟩;rw [Bool.eq_iff_iff];simp [rangeOk,h1,h2,h3]
     · go_enter Tryz.func122,Tryz.ntmps122
       go_wp2;go_ret;refine⟨fin _ ?_,rfl⟩;rw [Bool.eq_iff_iff];simp [rangeOk];omega
   · go_enter Tryz.func122,Tryz.ntmps122
     go_wp2;go_ret;refine⟨fin _ ?_,rfl⟩;rw [Bool.eq_iff_iff];simp [rangeOk];omega
 · go_enter Tryz.func122,Tryz.ntmps122
   go_wp2;go_ret;refine⟨fin _ ?_,rfl⟩;rw [Bool.eq_iff_iff];simp [rangeOk];omega
theorem badC_false {refs:Int}{cs:List Int}(h:badC refs cs=false):∀c∈cs,0≤c∧c≤refs:=by
 intro c hc;have:=List.any_eq_false.1 h c hc
 simp only [decide_eq_true_eq] at this;omega
theorem badC_min {refs:Int}{cs:List Int}(h:∃c∈cs,c<0):badC refs cs=true:=by
 obtain⟨c,hc,h⟩:=h;exact List.any_eq_true.2 ⟨c,hc,by simp only [decide_eq_true_eq];exact .inl h⟩
theorem badC_max {refs:Int}{cs:List Int}(h:∃c∈cs,refs<c):badC refs cs=true:=by
 obtain⟨c,hc,h⟩:=h;exact List.any_eq_true.2 ⟨c,hc,by simp only [decide_eq_true_eq];exact .inr h⟩
theorem badC_not {refs:Int}{cs:List Int}(h1:¬∃c∈cs,c<0)(h2:¬∃c∈cs,refs<c):badC refs cs=false:=by
 refine List.any_eq_false.2 fun c hc=> ?_
 simp only [decide_eq_true_eq];rintro(h | h)
 · exact h1 ⟨c,hc,h⟩
 · exact h2 ⟨c,hc,h⟩
theorem rangeOk_iff {n r:Int}:rangeOk n r=true↔(1≤n∧n≤65536∧2≤r∧r<65536):=by unfold rangeOk;exact decide_eq_true_iff
theorem poolOk_load {refs:Int}{cs:List Int}(h:rangeOk cs.length refs=true)(hb:badC refs cs=false):PoolOk (poolOf refs cs 0):=by
 obtain⟨h1,h2,h3,h4⟩:=rangeOk_iff.1 h;refine⟨?_,?_,?_,h3,h4,fun c hc=> ?_,Int.le_refl _,by simp⟩
 · show 1≤cs.length;omega
 · show cs.length≤65536;omega
 · simp [lastsOf]
 · have:=badC_false hb c hc;omega
theorem pload_any(refs:Int)(h:Hp)(v:Value)(cs:List Int)(hx:Ints h v cs)(F:Pr)(w:World)(hF:Sat ((Pr.own h).star F) w):
 Calls Tryz.prog 86 #[.int .i64 refs,v] w fun e w'=>Stays w w'∧
  ((rangeOk cs.length refs=false∧e= .returned (.tuple #[.pointer none,.int .i64 1])∧Sat ((Pr.own h).star F) w')∨
   (rangeOk cs.length refs=true∧badC refs cs=true∧e= .returned (.tuple #[.pointer none,.int .i64 13])∧Sat ((Pr.own h).star F) w')∨
   (rangeOk cs.length refs=true∧badC refs cs=false∧∃p,e= .returned (.tuple #[.pointer (some ⟨p,0,none⟩),.int .i64 0])∧Sat ((PoolA p (poolOf refs cs 0)).star ((Pr.own h).star F)) w')):=by
 have hx0:=hx;obtain⟨_,a,c,rfl,_⟩:=hx0;cases hr:rangeOk cs.length refs with
 | false=>
   have R:=fun wx=>hQ (right_any cs.length refs wx)
   rw [hr] at R;go_enter Tryz.func86,Tryz.ntmps86
   go_wp2_with fail
   refine(R _).out.mono ?_;rintro e w1 ⟨rfl,rfl⟩;go_wp2;go_ret2;exact⟨Stays.refl _,.inl ⟨trivial,rfl,hF⟩⟩
 | true=>
   obtain⟨n1,n2,n3,n4⟩:=rangeOk_iff.1 hr;have R:=fun wx=>hQ (right_any cs.length refs wx)
   rw [hr] at R;have MI:=hQ (min_any h _ cs hx (by omega) (by omega) w hF.own);have MA:=hQ (max_any h _ cs hx (by omega) (by omega) w hF.own);have OK:=fun hb=>hQ (poolOk_load hr hb)
   have CL:=hQ (clone_ints h _ cs _ w hF hF.own hx (by omega));have HF:=hQ hF;clear hF hx hr n1 n2 n3 n4;go_enter Tryz.func86,Tryz.ntmps86
   go_wp2_with fail
   refine(R _).out.mono ?_;rintro e w1 ⟨rfl,rfl⟩;go_wp2_with fail
   refine MI.out.mono ?_;rintro e w1 ⟨⟨mi,rfl,hmi⟩,rfl⟩;have HMI:=hQ hmi;clear hmi;by_cases h0:mi<0
   · go_wp2
     go_ret2;exact⟨Stays.refl _,.inr (.inl ⟨trivial,badC_min ((HMI.out 0).1 h0),rfl,HF.out⟩)⟩
   · go_wp2_with fail
     refine MA.out.mono ?_;rintro e w1 ⟨⟨ma,rfl,hma⟩,rfl⟩;have HMA:=hQ hma;clear hma;by_cases h1:refs<ma
     · go_wp2
       go_ret2;exact⟨Stays.refl _,.inr (.inl ⟨trivial,badC_max ((HMA.out refs).1 h1),rfl,HF.out⟩)⟩
     · have hb:badC refs cs=false:=badC_not (fun h=>absurd ((HMI.out 0).2 h) (by omega)) (fun h=>absurd ((HMA.out refs).2 h) (by omega))
       have HB:=hQ hb;have hok:=hQ (OK hb).out;clear hb;go_wp2_with fail
       refine CL.out.mono ?_;rintro e w1 ⟨v',rfl,hs1,hst1⟩;obtain⟨a',c',ev,_,_⟩:=Row.read hs1;subst ev;have OV:=hQ (over_any refs _ cs _ w1 hs1 hok.out);go_wp2_with fail
       refine OV.out.mono ?_;rintro e w2 ⟨p,rfl,hs2,hst2⟩;have H2:=hQ hs2;clear hs1 hs2;go_wp2;go_ret2;exact⟨hst1.trans hst2,.inr (.inr ⟨trivial,HB.out,p,rfl,H2.out⟩)⟩
end Go.Proofs.YtbobcmimkonnoaaGreat.F6
namespace Go.Proofs.YtbobcmimkonnoaaGreat.G6
open ChangeShapes WideShapes ChangeAt RowKit Sl Cop D2 M3 Q3 M2 N2 E4 G4 E5 Y2 E6
theorem copybytes_any(h:Hp)(v:Value)(l:List Int)(F:Pr)(w:World)(hF:Sat ((Pr.own h).star F) w)(hx:Bytes h v l)(hn:l.length≤140737488355328):
 Calls Tryz.prog 85 #[v] w fun e w'=> ∃v',e= .returned v'∧Sat ((BytesRow v' l).star ((Pr.own h).star F)) w'∧Stays w w':=by
 obtain⟨a,c,rfl,r1⟩:=bytes_rd hx;obtain⟨i0,hi,hz0,hz1,hz2⟩:=info_parts infoByte
 have hmk:∀wx:World,(Instr.makeSlice 29 (.int .i64 0) (.int .i64 (l.length:Int))).run Tryz.prog wx= .ok (.slice (some ⟨wx.heap.size,0,none⟩) 0 l.length) (wx.alloc (.cells (madeCells #[.int .u8 0] l.length) 5)):=by
  intro wx;have:=run_make (P:=Tryz.prog) wx 29 5 i0 (.int .u8 0) Tryz.underlying29 hi hz0 .i64 .i64 0 l.length (by omega) (by omega) (by rw [hz2];omega) (by omega)
  rw [hz1,Int.toNat_natCast,Nat.mul_one] at this;exact this
 have h2:=hQ (row_room 5 (.int .u8 0) l.length (by simp only [maxLen];omega) hF);have R1:=hQ r1;clear hF hx r1;go_enter Tryz.func85,Tryz.ntmps85
 go_wp2;go_loopw [3,4] (fun o i wr=> ∃k:Nat,k≤l.length∧i= .int .i64 k∧Stays w wr∧Sat ((BytesRow o (l.take k)).star ((Pr.own h).star F)) wr) (fun _ i _=>l.length-(intOf i).toNat)
 case atStart=>exact⟨0,Nat.zero_le _,rfl,(Stays.refl w).alloc _,h2.out⟩
 case round=>
  obtain⟨k,hk,rfl,hst,hs⟩:=hrel;have hlt':(l.take k).length=k:=by rw [List.length_take];omega
  obtain⟨ao,co,eo,_,_⟩:=Row.read hs;rw [hlt'] at eo;subst eo;rcases Nat.lt_or_ge k l.length with hlt | hge
  · obtain⟨b,off,rfl,c1⟩:=R1.out k hlt
    have q1:=c1 wr hs.right.own
    have hs1:Sat ((Row 5 1 (.slice ao k co) k ((l.take k).map (Value.int .u8))).star ((Pr.own h).star F)) wr:=by
     have:=hs
     unfold BytesRow at this;rw [hlt'] at this;exact this
    have H1:=hQ (hs1.alloc (.cells #[.int .u8 (l.getD k 0)] 5)).right;have hnew:=hQ (new_cells wr [.int .u8 (l.getD k 0)] 5 _ rfl);have HT:=hQ (show l.take (k+1)=l.take k++ [l.getD k 0] by rw [List.take_succ_eq_append_getElem hlt];simp [hlt]);have zb:=World.block_lt_of_cell? _ _ q1;clear hs hs1 c1;generalize l.getD k 0=x at*
    go_wp2_with (at_builtin;refine wpList_append_sl rfl _ _ _ rfl 5 i0 (.int .u8 0) 1 1 Tryz.underlying29 hi hz0 hz1 hz2 rfl _ _ _ rfl H1.out ⟨wr.heap.size,0,none⟩ 1 1 [.int .u8 x] rfl rfl hnew.out (by simp [Value.oneCell']) (by simp only [maxLen];omega) (by omega) ?_;intro v7 w4 hs4 hg4 _;obtain⟨a7',c7',e7',_,_⟩:=Row.read hs4;subst e7';have HS4:=hQ hs4;have HG4:=hQ hg4;clear hs4 hg4)
    refine⟨⟨k+1,by omega,congrArg (Value.int .i64) (by omega),(hst.alloc _).of_grown HG4.out,?_⟩,by simp [intOf];omega⟩;have hl2:(l.take (k+1)).length=k+1:=by rw [List.length_take];omega
    unfold BytesRow;rw [hl2,HT.out,List.map_append];exact HS4.out
  · have hkl:k=l.length:=by omega
    subst hkl;have HS:=hQ hs;clear hs;go_wp2;go_ret;refine⟨_,rfl,?_,hst⟩;have:=HS.out
    rw [List.take_length] at this;exact this
end Go.Proofs.YtbobcmimkonnoaaGreat.G6
namespace Go.Proofs.YtbobcmimkonnoaaGreat.J6
open ChangeShapes WideShapes ChangeAt RowKit Sl Cop D2 M3 Q3 D4 M2 N2 E4 G4 P4 S4 V4 X4 Z4 E5 L5 V5 C6 Y5
end Go.Proofs.YtbobcmimkonnoaaGreat.J6
