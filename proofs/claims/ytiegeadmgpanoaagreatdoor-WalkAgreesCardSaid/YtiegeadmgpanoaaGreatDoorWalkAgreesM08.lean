/- The program's Floor in a tree that stands; the conditions stand as hypotheses. -/
import Derived.Test.YtiegeadmgpanoaaGreatDoorWalkAgreesM07
import Derived.Test.YtiegeadmgpanoaaGreatDoorWalkChecksM28
import Derived.Test.YtiegeadmgpanoaaGreatDoorWalkChecksM01
set_option maxRecDepth 100000
set_option maxHeartbeats 16000000
namespace Go.Cop
theorem stand_facts {look:Int→Option PageV}(ok:PgsOk look){root height items:Int}{L:List ItemV}(h:StandT look root height items L):
 L.Pairwise KeyLt∧(L.filter fun x=>hasR everyR x.key)=L∧∀x∈L,U8 x.key:=by
 rcases h with⟨_,_,_,rfl⟩ | ⟨_,_,lv,_,hlv,hT⟩
 · exact⟨List.Pairwise.nil,rfl,fun x hx=>by cases hx⟩
 · exact⟨tr_sorted ok hT,List.filter_eq_self.2 fun x hx=>(tr_has hT x hx).1,tr_u8 ok hT⟩
def leK(key:List Int)(x:ItemV):Bool:=decide (cmpI x.key key≤0)
theorem floor_cut {key:List Int}{L pre:List ItemV}{x:ItemV}(hs:L.Pairwise KeyLt)(h:pre++ [x]<+:L)(h1:∀y∈pre,cmpI y.key key≤0)(h2:¬cmpI x.key key≤0):L.filter (leK key)=pre:=by
 obtain⟨t,rfl⟩:=h
 rw [List.filter_append,List.filter_append,List.filter_eq_self.2 (fun y hy=>by simp only [leK,decide_eq_true_eq];exact h1 y hy),show [x].filter (leK key)= [] from List.filter_eq_nil_iff.2 (fun y hy=>by obtain rfl:=List.mem_singleton.1 hy;simpa [leK] using h2),
  show t.filter (leK key)= [] from List.filter_eq_nil_iff.2 (fun y hy=>by
   have h3:KeyLt x y:=(List.pairwise_append.1 hs).2.2 x (by simp) y hy
   simp only [leK,decide_eq_true_eq]
   intro h4
   exact h2 (cmp_le (Int.le_of_lt h3) h4))]
 simp
end Go.Cop
namespace Go.Proofs.YtiegeadmgpanoaaGreatDoor.T8
open ChangeShapes WideShapes ChangeAt RowKit Sl Cop Go.Shelf D2 F3 N3 P3 G2 J2 Q3 V3 G4 K4 X3 M5 P5 U5 W5 N2 P2 L6 S6 J7 N5 S5 K7 V7 Z7 B8 C8 N8
attribute [local go_sem] Oper.semAt_some
theorem scmp_any(ha hb:Hp)(va vb:Value)(A B:List Int)(h1:Bytes ha va A)(h2:Bytes hb vb B)(u1:U8 A)(u2:U8 B)(w:World)(l1:ha.le w)(l2:hb.le w):
 Calls Tryz.prog 54 #[va,vb] w fun e w'=>e= .returned (.int .i64 (cmpI A B))∧Only w w':=by
 have BC:=hQ (bcompare_only ha hb va vb A B h1 h2 u1 u2 w l1 l2);obtain⟨a,c,rfl,_⟩:=bytes_rd h1;obtain⟨a',c',rfl,_⟩:=bytes_rd h2;clear h1 h2 u1 u2 l1 l2;go_enter Tryz.func54,Tryz.ntmps54
 go_wp2_with fail
 refine BC.out.mono ?_;rintro e w1 ⟨rfl,ho⟩;have HO:=hQ ho;clear ho;go_wp2;go_ret;exact⟨rfl,HO.out⟩
def bestC:Option ItX→Obj
 | none=> .cells #[.slice none 0 0,.slice none 0 0,.int .i64 0,.int .i64 0] 89
 | some x=> .cells #[x.1.1,x.1.2,.int .i64 x.2.child,.int .i64 x.2.size] 89
def bestR:Option ItX→Pr
 | none=>Pr.emp
 | some x=>rowsOf x
def FI(TB KB A6 BB FB:Nat)(root height items:Int)(kv:Value)(key:List Int)(hk:Hp)(F:Pr)(pre:List ItX):Pr:=
 (Pr.pure (∀y∈pre.map (·.2),cmpI y.key key≤0)).star ((Pr.pts TB (treeC root height items)).star ((Pr.pts KB (.cells #[kv] 42)).star ((Pr.pts A6 (pairC (.slice none 0 0) (.slice none 0 0))).star ((Pr.pts BB (bestC pre.getLast?)).star
   ((Pr.pts FB (.cells #[.bool pre.getLast?.isSome] 4)).star ((bestR pre.getLast?).star ((Pr.own hk).star F)))))))
def FX(TB KB A6 BB FB:Nat)(root height items:Int)(kv:Value)(key:List Int)(hk:Hp)(F:Pr)(c:Code)(pre:List ItX):Pr:=
 Pr.ex fun p:List ItX=>(Pr.pure (c= .exit 0∧(∀y∈p.map (·.2),cmpI y.key key≤0)∧∃x:ItX,pre=p++ [x]∧¬cmpI x.2.key key≤0)).star ((Pr.pts TB (treeC root height items)).star ((Pr.pts KB (.cells #[kv] 42)).star ((Pr.pts A6 (pairC (.slice none 0 0) (.slice none 0 0))).star
  ((Pr.pts BB (bestC p.getLast?)).star ((Pr.pts FB (.cells #[.bool p.getLast?.isSome] 4)).star ((bestR p.getLast?).star ((Pr.own hk).star F)))))))
theorem floor_any(v:Nat)(s:VaultS)(look:Int→Option PageV)(hl:L6.Looks s look)(okp:PgsOk look)(root height items:Int)(L:List ItemV)(hT:StandT look root height items L)(kv:Value)(key:List Int)(hk:Hp)(hkv:Bytes hk kv key)(uk:U8 key)(hg:Hp)(GE:EveryIn hg)(F:Pr)(w:World)(hF:OwnL [VaultA v s,Pr.own hk,Pr.own hg,F] w):
 Calls Tryz.prog 20 #[.pointer (some ⟨v,0,none⟩),treeV root height items,kv] w fun e w'=>Stays w w'∧∃a b,e= .returned (.tuple #[pairV a b,.bool ((L.filter (leK key)).getLast?).isSome,.int .i64 0])∧OwnL [BytesRow a (optK (L.filter (leK key)).getLast?),BytesRow b (optV look (L.filter (leK key)).getLast?),VaultA v s,Pr.own hk,Pr.own hg,F] w':=by
 obtain⟨kak,kck,rfl⟩:=bytes_shape hkv;obtain⟨hs1,_⟩:=hF.fresh [.int .i64 root,.int .i64 height,.int .i64 items] 35 w.heap.size rfl;obtain⟨hs2,_⟩:=hs1.fresh [.slice kak key.length kck] 42 (w.heap.size+1) (by simp);obtain⟨hs3,_⟩:=hs2.fresh [.slice none 0 0,.slice none 0 0] 49 (w.heap.size+1+1) (by simp)
 obtain⟨hs4,_⟩:=hs3.fresh [.slice none 0 0,.slice none 0 0,.int .i64 0,.int .i64 0] 89 (w.heap.size+1+1+1) (by simp);obtain⟨hs5,_⟩:=hs4.fresh [.bool false] 4 (w.heap.size+1+1+1+1) (by simp);have HS5:=hQ hs5
 have HST:=hQ ((((((Stays.refl w).alloc (.cells [Value.int .i64 root,.int .i64 height,.int .i64 items].toArray 35)).alloc (.cells [Value.slice kak key.length kck].toArray 42)).alloc (.cells [Value.slice none 0 0,.slice none 0 0].toArray 49)).alloc (.cells [Value.slice none 0 0,.slice none 0 0,.int .i64 0,.int .i64 0].toArray 89)).alloc (.cells [Value.bool false].toArray 4))
 have GC:=GE.cells _ (hs5.pull1 (A1:=Pr.own hg)).own;have hMV:∀x∈L,(valueL look x.size x.child x.value).2=0:=fun x hx=>stand_val hT x hx
 obtain⟨hsort,hev,hu8⟩:=stand_facts okp hT;have IT:=hQ (fun tb vb rb=>items1 tb vb rb v s look hl okp root height items L hT _ _ everyR hg EveryIn.range every_u8 ⟨Nat.zero_le _,Nat.zero_le _⟩);rw [hev] at IT;dsimp only [everyR] at IT;have HH:=hQ (And.intro hl hMV);have HC:=hQ (And.intro hsort (And.intro hu8 (And.intro hkv uk)));clear hF hs1 hs2 hs3 hs4 hs5 hkv hT hl okp uk hMV hsort hev hu8 GE
 refine calls_of_wp_marks (n:=9) Tryz.func20 rfl ?_;simp only [Tryz.ntmps20,List.size_toArray,List.length_cons,List.length_nil,Nat.reduceAdd,Nat.reduceSub,Array.replicate_succ,Array.replicate_zero,List.push_toArray,List.append_toArray,List.nil_append,List.cons_append];obtain⟨g1,g2,g3⟩:=GC;go_wp2_with fail
 have U1:=HS5.out;have U2:=HST.out;clear HS5 HST g1 g2 g3
 generalize (((((w.alloc (.cells [Value.int .i64 root,.int .i64 height,.int .i64 items].toArray 35)).alloc (.cells [Value.slice kak key.length kck].toArray 42)).alloc (.cells [Value.slice none 0 0,.slice none 0 0].toArray 49)).alloc (.cells [Value.slice none 0 0,.slice none 0 0,.int .i64 0,.int .i64 0].toArray 89)).alloc (.cells [Value.bool false].toArray 4))=w0 at*
 generalize w.heap.size+1+1+1+1=FB at*;generalize w.heap.size+1+1+1=BB at*;generalize w.heap.size+1+1=A6 at*;generalize w.heap.size+1=KB at*;generalize w.heap.size=TB at*;refine(items_any v root height items _ _ true _ _ _ _ _ _ rfl rfl _).mono ?_;rintro e w2 ⟨rfl,rfl⟩;have U3:=((U1.alloc (vBox v)).alloc (treeC root height items)).alloc (rangeC (.slice none 0 0) (.slice none 0 0) true)
 have U4:=((U2.alloc (vBox v)).alloc (treeC root height items)).alloc (rangeC (.slice none 0 0) (.slice none 0 0) true);rw [show ((w0.alloc (vBox v)).alloc (treeC root height items)).heap.size=w0.heap.size+1+1 by simp,show (w0.alloc (vBox v)).heap.size=w0.heap.size+1 by simp] at U3;clear U1 U2
 generalize ((w0.alloc (vBox v)).alloc (treeC root height items)).alloc (rangeC (.slice none 0 0) (.slice none 0 0) true)=w1 at*;generalize w0.heap.size+1+1=R2 at*;generalize w0.heap.size+1=T2 at*;generalize w0.heap.size=V2 at*;have HS1:=hQ U3;have HST:=hQ U4;clear U3 U4;go_wp2
 refine wp_rangeFunc_v 9 (gf:=92) rfl (enters_of Tryz.func92 (by kernel_rfl) rfl) (IT.out T2 V2 R2) (fun _=>rfl)
  (fun pre=>FI TB KB A6 BB FB root height items (.slice kak key.length kck) key hk F pre) (fun c pre=>FX TB KB A6 BB FB root height items (.slice kak key.length kck) key hk F c pre) ?start ?round ?done ?stop
 case start=>
  have h2:=HS1.out.to (M:= [Pr.pts TB (treeC root height items),Pr.pts KB (.cells #[.slice kak key.length kck] 42),Pr.pts A6 (pairC (.slice none 0 0) (.slice none 0 0)),Pr.pts BB (.cells #[.slice none 0 0,.slice none 0 0,.int .i64 0,.int .i64 0] 89),Pr.pts FB (.cells #[.bool false] 4),Pr.own hk,F,Pr.pts T2 (treeC root height items),Pr.pts V2 (vBox v),Pr.pts R2 (rangeC (.slice none 0 0) (.slice none 0 0) true),VaultA v s,Pr.own hg])
  unfold FI;rw [Pr.star_assoc];exact Sat.pure.2 ⟨(fun y hy=>by cases hy),h2.sat.perm (by simp only [starL,Pr.star_emp,Pr.star_assoc,ItA,bestC,bestR,List.getLast?_nil,Option.isSome,Pr.emp_star])⟩
 case round=>
  intro l' pre x W1' F1 hok hs;obtain⟨⟨y1,y2⟩,x⟩:=x;unfold FI at hs
  have hs9:Sat ((Pr.pure (∀y∈pre.map (·.2),cmpI y.key key≤0)).star (starL [Pr.pts TB (treeC root height items),Pr.pts KB (.cells #[.slice kak key.length kck] 42),Pr.pts A6 (pairC (.slice none 0 0) (.slice none 0 0)),Pr.pts BB (bestC (pre.getLast?)),Pr.pts FB (.cells #[.bool (pre.getLast?).isSome] 4),bestR (pre.getLast?),Pr.own hk,F,rowsOf ((y1,y2),x),Pr.pts T2 (treeC root height items),Pr.pts V2 (vBox v),Pr.pts R2 (rangeC (.slice none 0 0) (.slice none 0 0) true),VaultA v s,Pr.own hg,F1])) W1':=hs.perm (by simp only [starL,Pr.star_emp,Pr.star_assoc,ItA])
  clear hs;obtain⟨hp9,hs⟩:=Sat.pure.1 hs9;clear hs9
  have hs1:OwnL [Pr.pts TB (treeC root height items),Pr.pts KB (.cells #[.slice kak key.length kck] 42),Pr.pts A6 (pairC (.slice none 0 0) (.slice none 0 0)),Pr.pts BB (bestC (pre.getLast?)),Pr.pts FB (.cells #[.bool (pre.getLast?).isSome] 4),bestR (pre.getLast?),Pr.own hk,F,rowsOf ((y1,y2),x),Pr.pts T2 (treeC root height items),Pr.pts V2 (vBox v),Pr.pts R2 (rangeC (.slice none 0 0) (.slice none 0 0) true),VaultA v s,Pr.own hg,F1] W1':=⟨hs⟩
  have hsh:OwnL [BytesRow y1 x.key,BytesRow y2 x.value] W1':=⟨((hs1.end1 (A1:=rowsOf ((y1,y2),x))).perm (B:=(BytesRow y1 x.key).star ((BytesRow y2 x.value).star Pr.emp)) (by rw [Pr.star_emp];rfl))⟩;obtain⟨ak,ck,rfl⟩:=Row.shape (hsh.pull1 (A1:=BytesRow y1 x.key));obtain⟨av,cv,rfl⟩:=Row.shape (hsh.pull1 (A1:=BytesRow y2 x.value))
  have HXU:=hQ (HC.out.2.1 x (hok.subset (List.mem_append_right _ (List.mem_singleton_self x))));have HP:=hQ hp9;have HS2:=hQ hs1;clear hs hs1 hsh hok hp9 HS1;simp only [encI,itemV];obtain⟨o,ho⟩:∃o,pre.getLast?=o:=⟨_,rfl⟩;have HO:=hQ ho;rw [ho] at HS2;clear ho;gi_wp2
  have hsA:=HS2.out.alloc (.cells #[.slice ak x.key.length ck,.slice av x.value.length cv,.int .i64 x.child,.int .i64 x.size] 89);obtain⟨B,hB⟩:∃B,W1'.heap.size=B:=⟨_,rfl⟩;rw [hB] at hsA ⊢
  refine⟨starL [Pr.pts B (.cells #[.slice ak x.key.length ck,.slice av x.value.length cv,.int .i64 x.child,.int .i64 x.size] 89),Pr.pts TB (treeC root height items),Pr.pts KB (.cells #[.slice kak key.length kck] 42),Pr.pts A6 (pairC (.slice none 0 0) (.slice none 0 0)),Pr.pts BB (bestC (o)),Pr.pts FB (.cells #[.bool (o).isSome] 4),bestR (o),Pr.own hk,F,rowsOf ((.slice ak x.key.length ck,.slice av x.value.length cv),x),Pr.pts T2 (treeC root height items),Pr.pts V2 (vBox v),Pr.pts R2 (rangeC (.slice none 0 0) (.slice none 0 0) true),VaultA v s,Pr.own hg],(Stays.refl _).alloc _,(hsA.to (M:= [Pr.pts B (.cells #[.slice ak x.key.length ck,.slice av x.value.length cv,.int .i64 x.child,.int .i64 x.size] 89),Pr.pts TB (treeC root height items),Pr.pts KB (.cells #[.slice kak key.length kck] 42),Pr.pts A6 (pairC (.slice none 0 0) (.slice none 0 0)),Pr.pts BB (bestC (o)),Pr.pts FB (.cells #[.bool (o).isSome] 4),bestR (o),Pr.own hk,F,rowsOf ((.slice ak x.key.length ck,.slice av x.value.length cv),x),Pr.pts T2 (treeC root height items),Pr.pts V2 (vBox v),Pr.pts R2 (rangeC (.slice none 0 0) (.slice none 0 0) true),VaultA v s,Pr.own hg,F1])).sat.perm (by simp only [starL,Pr.star_emp,Pr.star_assoc]),?_⟩
  clear hsA HS2 hB;intro F2 W2 _ hs2
  have hs3:OwnL [Pr.pts B (.cells #[.slice ak x.key.length ck,.slice av x.value.length cv,.int .i64 x.child,.int .i64 x.size] 89),Pr.pts TB (treeC root height items),Pr.pts KB (.cells #[.slice kak key.length kck] 42),Pr.pts A6 (pairC (.slice none 0 0) (.slice none 0 0)),Pr.pts BB (bestC (o)),Pr.pts FB (.cells #[.bool (o).isSome] 4),bestR (o),Pr.own hk,F,rowsOf ((.slice ak x.key.length ck,.slice av x.value.length cv),x),Pr.pts T2 (treeC root height items),Pr.pts V2 (vBox v),Pr.pts R2 (rangeC (.slice none 0 0) (.slice none 0 0) true),VaultA v s,Pr.own hg,F2] W2:=⟨hs2.perm (by simp only [starL,Pr.star_emp,Pr.star_assoc])⟩
  have c1:=hs3.facts;simp only [CellsAt,Nat.reduceAdd,and_true] at c1;obtain⟨ha,hqa,hsQ⟩:=hs3.arena (rowsOf ((.slice ak x.key.length ck,.slice av x.value.length cv),x));have hle:=(hsQ.pull1 (A1:=Pr.own ha)).own;clear hsQ;have SC:=hQ (scmp_any ha hk _ _ x.key key (rows_in hqa).1 HC.out.2.2.1 HXU.out HC.out.2.2.2 W2 hle (hs3.pull1 (A1:=Pr.own hk)).own);have HS3:=hQ hs3;clear hs2 hs3 hqa hle
  gi_wp2_with fail
  refine⟨trivial,?_⟩;refine(CallsIn.inRound _ (callsIn_wide.2 SC.out)).mono ?_;rintro e w3 ⟨rfl,hon⟩
  have hs5:OwnL [Pr.pts B (.cells #[.slice ak x.key.length ck,.slice av x.value.length cv,.int .i64 x.child,.int .i64 x.size] 89),Pr.pts TB (treeC root height items),Pr.pts KB (.cells #[.slice kak key.length kck] 42),Pr.pts A6 (pairC (.slice none 0 0) (.slice none 0 0)),Pr.pts BB (bestC (o)),Pr.pts FB (.cells #[.bool (o).isSome] 4),bestR (o),Pr.own hk,F,rowsOf ((.slice ak x.key.length ck,.slice av x.value.length cv),x),Pr.pts T2 (treeC root height items),Pr.pts V2 (vBox v),Pr.pts R2 (rangeC (.slice none 0 0) (.slice none 0 0) true),VaultA v s,Pr.own hg,F2] w3:=⟨HS3.out.sat.only hon⟩
  have HST3:=hQ ((Stays.refl W2).trans hon.st);clear c1;have c1:=hs5.facts;simp only [CellsAt,Nat.reduceAdd,and_true] at c1;have HS5:=hQ hs5;clear hs5 hon SC HS3;by_cases hc:cmpI x.key key≤0
  · have hc2:¬0<cmpI x.key key:=by omega
    have HCC:=hQ hc;clear hc;have hbo:∃q1 q2 q3 q4,bestC o= .cells #[q1,q2,q3,q4] 89:=by cases o<;>exact⟨_,_,_,_,rfl⟩
    obtain⟨q1,q2,q3,q4,hbo⟩:=hbo;clear c1;have hs6:=HS5.out;rw [hbo] at hs6;have HS6:=hQ hs6;clear hs6 HS5 hbo;have c1:=HS6.out.facts;simp only [CellsAt,Nat.reduceAdd,and_true] at c1;gi_wp2
    all_goals first | (exfalso;omega) | skip
    refine⟨((((((HST3.out.setCell _ _).setCell _ _).setCell _ _).setCell _ _).setCell _ _)),?_⟩
    have h8:=(((((HS6.out.set BB 0 (.slice ak x.key.length ck)).set BB 1 (.slice av x.value.length cv)).set BB 2 (.int .i64 x.child)).set BB 3 (.int .i64 x.size)).set FB 0 (.bool true)).to (M:= [Pr.pts TB (treeC root height items),Pr.pts KB (.cells #[.slice kak key.length kck] 42),Pr.pts A6 (pairC (.slice none 0 0) (.slice none 0 0)),Pr.pts BB (.cells #[.slice ak x.key.length ck,.slice av x.value.length cv,.int .i64 x.child,.int .i64 x.size] 89),Pr.pts FB (.cells #[.bool true] 4),rowsOf ((.slice ak x.key.length ck,.slice av x.value.length cv),x),Pr.own hk,F,Pr.pts T2 (treeC root height items),Pr.pts V2 (vBox v),Pr.pts R2 (rangeC (.slice none 0 0) (.slice none 0 0) true),VaultA v s,Pr.own hg,F2])
    unfold FI;rw [Pr.star_assoc,Pr.star_assoc];refine Sat.pure.2 ⟨fun y hy=> ?_,h8.sat.perm (by simp only [starL,Pr.star_emp,Pr.star_assoc,ItA,List.getLast?_append,List.getLast?_singleton,Option.some_or,bestC,bestR,Option.isSome])⟩;rw [List.map_append,List.mem_append] at hy;rcases hy with hy | hy
    · exact HP.out y hy
    · obtain rfl:=List.mem_singleton.1 hy
      exact HCC.out
  · have hc2:0<cmpI x.key key:=by omega
    have HCC:=hQ hc;clear hc;gi_wp2
    all_goals first | (exfalso;omega) | skip
    refine⟨HST3.out,?_⟩
    have h8:=HS5.out.to (M:= [Pr.pts TB (treeC root height items),Pr.pts KB (.cells #[.slice kak key.length kck] 42),Pr.pts A6 (pairC (.slice none 0 0) (.slice none 0 0)),Pr.pts BB (bestC (o)),Pr.pts FB (.cells #[.bool (o).isSome] 4),bestR (o),Pr.own hk,F,Pr.pts T2 (treeC root height items),Pr.pts V2 (vBox v),Pr.pts R2 (rangeC (.slice none 0 0) (.slice none 0 0) true),VaultA v s,Pr.own hg,F2])
    unfold FX;rw [Pr.ex_star,Pr.ex_star];refine Sat.ex0.2 ⟨pre,?_⟩;rw [Pr.star_assoc,Pr.star_assoc];exact Sat.pure.2 ⟨⟨rfl,HP.out,_,rfl,by have:=HCC.out;show ¬cmpI x.key key≤0;omega⟩,h8.sat.perm (by rw [HO.out];simp only [starL,Pr.star_emp,Pr.star_assoc,ItA])⟩
 case done=>
  intro D xs W2 hxs hst hs;unfold FI at hs
  obtain⟨hp9,hs9⟩:=Sat.pure.1 (hs.perm (B:=(Pr.pure (∀y∈xs.map (·.2),cmpI y.key key≤0)).star (starL [Pr.pts D (.deferred (some [])),Pr.pts TB (treeC root height items),Pr.pts KB (.cells #[.slice kak key.length kck] 42),Pr.pts A6 (pairC (.slice none 0 0) (.slice none 0 0)),Pr.pts BB (bestC (xs.getLast?)),Pr.pts FB (.cells #[.bool (xs.getLast?).isSome] 4),bestR (xs.getLast?),Pr.own hk,F,Pr.pts T2 (treeC root height items),Pr.pts V2 (vBox v),Pr.pts R2 (rangeC (.slice none 0 0) (.slice none 0 0) true),VaultA v s,Pr.own hg])) (by simp only [starL,Pr.star_emp,Pr.star_assoc,ItA];ac_rfl))
  clear hs HS1
  have HM:=hQ (show (L.filter (leK key)).getLast?=(xs.getLast?).map (·.2) from by
   rw [← hxs,List.filter_eq_self.2 (fun y hy=>by simp only [leK,decide_eq_true_eq];exact hp9 y hy),List.getLast?_map])
  clear hp9 hxs
  have hs3:OwnL [Pr.pts D (.deferred (some [])),Pr.pts TB (treeC root height items),Pr.pts KB (.cells #[.slice kak key.length kck] 42),Pr.pts A6 (pairC (.slice none 0 0) (.slice none 0 0)),Pr.pts BB (bestC (xs.getLast?)),Pr.pts FB (.cells #[.bool (xs.getLast?).isSome] 4),bestR (xs.getLast?),Pr.own hk,F,VaultA v s,Pr.own hg] W2:=(⟨hs9⟩:OwnL [Pr.pts D (.deferred (some [])),Pr.pts TB (treeC root height items),Pr.pts KB (.cells #[.slice kak key.length kck] 42),Pr.pts A6 (pairC (.slice none 0 0) (.slice none 0 0)),Pr.pts BB (bestC (xs.getLast?)),Pr.pts FB (.cells #[.bool (xs.getLast?).isSome] 4),bestR (xs.getLast?),Pr.own hk,F,Pr.pts T2 (treeC root height items),Pr.pts V2 (vBox v),Pr.pts R2 (rangeC (.slice none 0 0) (.slice none 0 0) true),VaultA v s,Pr.own hg] W2).to
  clear hs9;have HS3:=hQ hs3;have HST3:=hQ (HST.out.trans hst);clear hs3 hst;generalize xs.getLast?=o at*;cases o with
  | none=>
    simp only [bestC,bestR,Option.isSome] at HS3;have c1:=HS3.out.facts;simp only [CellsAt,Nat.reduceAdd,and_true] at c1;go_wp2;have h6:=(HS3.out.set A6 0 (.slice none 0 0)).set A6 1 (.slice none 0 0);have q1:=h6.pull1 (A1:=Pr.pts D (.deferred (some [])));have q2:=OwnL.of0 (q1.putObj (.deferred none)).right
    refine marks_ret1 (D:=D) rfl q1.pts_heap ⟨_,results_cell_tmp_tmp rfl _ _ A6 (.agg #[.slice none 0 0,.slice none 0 0]) (.bool false) (.int .i64 0) rfl (load_pair (q2.pts A6).pts_heap) rfl rfl,((HST3.out.setCell _ _).setCell _ _).putObj _ _,?_⟩;rw [HM.out];have h7:=(q2.to (M:= [VaultA v s,Pr.own hk,Pr.own hg,F])).emp.emp;rw [← Row.nil 5 1] at h7;exact⟨_,_,rfl,h7⟩
  | some z=>
    obtain⟨⟨y1,y2⟩,x⟩:=z;simp only [bestC,bestR,Option.isSome] at HS3;have hsh:OwnL [BytesRow y1 x.key,BytesRow y2 x.value] W2:=⟨((HS3.out.end1 (A1:=rowsOf ((y1,y2),x))).perm (B:=(BytesRow y1 x.key).star ((BytesRow y2 x.value).star Pr.emp)) (by rw [Pr.star_emp];rfl))⟩;obtain⟨ak,ck,rfl⟩:=Row.shape (hsh.pull1 (A1:=BytesRow y1 x.key));obtain⟨av,cv,rfl⟩:=Row.shape (hsh.pull1 (A1:=BytesRow y2 x.value))
    have PA:=hQ (pair_any v s look HH.out.1 x _ _ (HH.out.2 x (List.mem_filter.1 (List.mem_of_getLast? HM.out)).1) _ _ (OwnL.in2 (HS3.out.pull2 (A1:=rowsOf ((.slice ak x.key.length ck,.slice av x.value.length cv),x)) (A2:=VaultA v s))));clear hsh;have c1:=HS3.out.facts;simp only [CellsAt,Nat.reduceAdd,and_true] at c1;go_wp2_with fail
    refine PA.out.mono ?_;rintro e w3 ⟨st3,o,rfl,hs4⟩;have hs5:=hs4.flat;obtain⟨aw,cw,rfl⟩:=Row.shape (hs5.pull1 (A1:=BytesRow o (valK look x)));clear c1;have c1:=hs5.facts;simp only [CellsAt,Nat.reduceAdd,and_true] at c1;have HS5:=hQ hs5;have HST4:=hQ (HST3.out.trans st3);clear hs4 hs5 st3 PA HS3;go_wp2
    have h6:=(HS5.out.set A6 0 (.slice ak x.key.length ck)).set A6 1 (.slice aw (valK look x).length cw);have q1:=h6.pull1 (A1:=Pr.pts D (.deferred (some [])));have q2:=OwnL.of0 (q1.putObj (.deferred none)).right
    refine marks_ret1 (D:=D) rfl q1.pts_heap ⟨_,results_cell_tmp_tmp rfl _ _ A6 (.agg #[.slice ak x.key.length ck,.slice aw (valK look x).length cw]) (.bool true) (.int .i64 0) rfl (load_pair (q2.pts A6).pts_heap) rfl rfl,((HST4.out.setCell _ _).setCell _ _).putObj _ _,?_⟩;rw [HM.out]
    exact⟨_,_,rfl,q2.to (M:= [BytesRow (.slice ak x.key.length ck) x.key,BytesRow (.slice aw (valK look x).length cw) (valK look x),VaultA v s,Pr.own hk,Pr.own hg,F])⟩
 case stop=>
  intro D c pre W2 hpre hst hs;unfold FX at hs;rw [Pr.ex_star,Pr.ex_star] at hs;obtain⟨p,hs8⟩:=Sat.ex0.1 hs
  obtain⟨⟨hc9,hp9,z,hz,hc⟩,hs9⟩:=Sat.pure.1 (hs8.perm (B:=(Pr.pure (c= .exit 0∧(∀y∈p.map (·.2),cmpI y.key key≤0)∧∃x:ItX,pre=p++ [x]∧¬cmpI x.2.key key≤0)).star (starL [Pr.pts D (.deferred (some [])),Pr.pts TB (treeC root height items),Pr.pts KB (.cells #[.slice kak key.length kck] 42),Pr.pts A6 (pairC (.slice none 0 0) (.slice none 0 0)),Pr.pts BB (bestC (p.getLast?)),Pr.pts FB (.cells #[.bool (p.getLast?).isSome] 4),bestR (p.getLast?),Pr.own hk,F,Pr.pts T2 (treeC root height items),Pr.pts V2 (vBox v),Pr.pts R2 (rangeC (.slice none 0 0) (.slice none 0 0) true),VaultA v s,Pr.own hg])) (by simp only [starL,Pr.star_emp,Pr.star_assoc,ItA];ac_rfl))
  clear hs hs8 HS1;subst hc9
  have HM:=hQ (show (L.filter (leK key)).getLast?=(p.getLast?).map (·.2) from by
   rw [hz,List.map_append] at hpre
   rw [floor_cut HC.out.1 hpre hp9 hc,List.getLast?_map])
  clear hp9 hpre hz hc z
  have hs3:OwnL [Pr.pts D (.deferred (some [])),Pr.pts TB (treeC root height items),Pr.pts KB (.cells #[.slice kak key.length kck] 42),Pr.pts A6 (pairC (.slice none 0 0) (.slice none 0 0)),Pr.pts BB (bestC (p.getLast?)),Pr.pts FB (.cells #[.bool (p.getLast?).isSome] 4),bestR (p.getLast?),Pr.own hk,F,VaultA v s,Pr.own hg] W2:=(⟨hs9⟩:OwnL [Pr.pts D (.deferred (some [])),Pr.pts TB (treeC root height items),Pr.pts KB (.cells #[.slice kak key.length kck] 42),Pr.pts A6 (pairC (.slice none 0 0) (.slice none 0 0)),Pr.pts BB (bestC (p.getLast?)),Pr.pts FB (.cells #[.bool (p.getLast?).isSome] 4),bestR (p.getLast?),Pr.own hk,F,Pr.pts T2 (treeC root height items),Pr.pts V2 (vBox v),Pr.pts R2 (rangeC (.slice none 0 0) (.slice none 0 0) true),VaultA v s,Pr.own hg] W2).to
  clear hs9;have HS3:=hQ hs3;have HST3:=hQ (HST.out.trans hst);clear hs3 hst;generalize p.getLast?=o at*;cases o with
  | none=>
    simp only [bestC,bestR,Option.isSome] at HS3;have c1:=HS3.out.facts;simp only [CellsAt,Nat.reduceAdd,and_true] at c1;go_wp2;have h6:=(HS3.out.set A6 0 (.slice none 0 0)).set A6 1 (.slice none 0 0);have q1:=h6.pull1 (A1:=Pr.pts D (.deferred (some [])));have q2:=OwnL.of0 (q1.putObj (.deferred none)).right
    refine marks_ret1 (D:=D) rfl q1.pts_heap ⟨_,results_cell_tmp_tmp rfl _ _ A6 (.agg #[.slice none 0 0,.slice none 0 0]) (.bool false) (.int .i64 0) rfl (load_pair (q2.pts A6).pts_heap) rfl rfl,((HST3.out.setCell _ _).setCell _ _).putObj _ _,?_⟩;rw [HM.out];have h7:=(q2.to (M:= [VaultA v s,Pr.own hk,Pr.own hg,F])).emp.emp;rw [← Row.nil 5 1] at h7;exact⟨_,_,rfl,h7⟩
  | some z=>
    obtain⟨⟨y1,y2⟩,x⟩:=z;simp only [bestC,bestR,Option.isSome] at HS3;have hsh:OwnL [BytesRow y1 x.key,BytesRow y2 x.value] W2:=⟨((HS3.out.end1 (A1:=rowsOf ((y1,y2),x))).perm (B:=(BytesRow y1 x.key).star ((BytesRow y2 x.value).star Pr.emp)) (by rw [Pr.star_emp];rfl))⟩;obtain⟨ak,ck,rfl⟩:=Row.shape (hsh.pull1 (A1:=BytesRow y1 x.key));obtain⟨av,cv,rfl⟩:=Row.shape (hsh.pull1 (A1:=BytesRow y2 x.value))
    have PA:=hQ (pair_any v s look HH.out.1 x _ _ (HH.out.2 x (List.mem_filter.1 (List.mem_of_getLast? HM.out)).1) _ _ (OwnL.in2 (HS3.out.pull2 (A1:=rowsOf ((.slice ak x.key.length ck,.slice av x.value.length cv),x)) (A2:=VaultA v s))));clear hsh;have c1:=HS3.out.facts;simp only [CellsAt,Nat.reduceAdd,and_true] at c1;go_wp2_with fail
    refine PA.out.mono ?_;rintro e w3 ⟨st3,o,rfl,hs4⟩;have hs5:=hs4.flat;obtain⟨aw,cw,rfl⟩:=Row.shape (hs5.pull1 (A1:=BytesRow o (valK look x)));clear c1;have c1:=hs5.facts;simp only [CellsAt,Nat.reduceAdd,and_true] at c1;have HS5:=hQ hs5;have HST4:=hQ (HST3.out.trans st3);clear hs4 hs5 st3 PA HS3;go_wp2
    have h6:=(HS5.out.set A6 0 (.slice ak x.key.length ck)).set A6 1 (.slice aw (valK look x).length cw);have q1:=h6.pull1 (A1:=Pr.pts D (.deferred (some [])));have q2:=OwnL.of0 (q1.putObj (.deferred none)).right
    refine marks_ret1 (D:=D) rfl q1.pts_heap ⟨_,results_cell_tmp_tmp rfl _ _ A6 (.agg #[.slice ak x.key.length ck,.slice aw (valK look x).length cw]) (.bool true) (.int .i64 0) rfl (load_pair (q2.pts A6).pts_heap) rfl rfl,((HST4.out.setCell _ _).setCell _ _).putObj _ _,?_⟩;rw [HM.out]
    exact⟨_,_,rfl,q2.to (M:= [BytesRow (.slice ak x.key.length ck) x.key,BytesRow (.slice aw (valK look x).length cw) (valK look x),VaultA v s,Pr.own hk,Pr.own hg,F])⟩
end Go.Proofs.YtiegeadmgpanoaaGreatDoor.T8
namespace Go.Cop
theorem stand_key {look:Int→Option PageV}{root height items:Int}{L:List ItemV}(h:StandT look root height items L):∀x∈L,keyR x.key=true∧x.key.length≤24:=by
 intro x hx
 have hk:keyR x.key=true:=by
  rcases h with⟨_,_,_,rfl⟩ | ⟨_,_,lv,_,_,hT⟩
  · cases hx
  · exact(has_lo (tr_has hT x hx).1).2.2
 exact⟨hk,(of_decide_eq_true hk).2⟩
def geK(key:List Int)(x:ItemV):Bool:=decide (0≤cmpI x.key key)
theorem ceil_same {look:Int→Option PageV}{root height items:Int}{L:List ItemV}(h:StandT look root height items L)(key:List Int):(L.filter fun x=>hasR ⟨key,[],true⟩ x.key)=L.filter (geK key):=by
 refine List.filter_congr fun x hx=> ?_
 unfold hasR geK;rw [(stand_key h x hx).1];simp
end Go.Cop
namespace Go.Proofs.YtiegeadmgpanoaaGreatDoor.V8
open ChangeShapes WideShapes ChangeAt RowKit Sl Cop Go.Shelf D2 F3 N3 P3 G2 J2 Q3 V3 G4 K4 X3 M5 P5 U5 W5 N2 P2 L6 S6 J7 N5 S5 K7 V7 Z7 B8 C8 N8 G6 J6 T6 B6 M2 N7 M7 K3 C4 D4 F4 M4 G5 K5 F6 D7 K8 Q7 T8 M8
attribute [local go_sem] Oper.semAt_some
theorem zs_at(look:Int→Option PageV){zs:List PairX}{L:List ItemV}(h:zs.map (·.2)=L.map (pairK look)){i:Nat}(h1:i<zs.length)(h2:i<L.length):zs[i].2=(L[i].key,valK look L[i]):=by
 have h3:(zs.map (·.2))[i]? =(L.map (pairK look))[i]? :=by rw [h]
 rw [List.getElem?_map,List.getElem?_map,List.getElem?_eq_getElem h1,List.getElem?_eq_getElem h2] at h3;exact Option.some.inj h3
theorem eqb_any(ha hb:Hp)(va vb:Value)(A B:List Int)(h1:Bytes ha va A)(h2:Bytes hb vb B)(hn:A.length≤9000000000000000000)(w:World)(l1:ha.le w)(l2:hb.le w):
 Calls Tryz.prog 16 #[va,vb] w fun e w'=>e= .returned (.bool (cmpI A B == 0))∧Only w w':=by
 have C:=hQ (compare_any ha hb va vb A B h1 h2 hn w l1 l2);obtain⟨a,c,rfl,_⟩:=bytes_rd h1;obtain⟨a',c',rfl,_⟩:=bytes_rd h2;clear h1 h2 l1 l2;go_enter Tryz.func16,Tryz.ntmps16
 go_wp2_with fail
 refine C.out.mono ?_;rintro e w' ⟨rfl,ho⟩;have HO:=hQ ho;clear ho;go_wp2;go_ret;exact⟨rfl,HO.out⟩
theorem eqpair_same(h1 h2:Hp)(a b c d:Value)(A B:List Int)(ha:Bytes h1 a A)(hb:Bytes h1 b B)(hc:Bytes h2 c A)(hd:Bytes h2 d B)(hn:A.length≤9000000000000000000)(hm:B.length≤9000000000000000000)(w:World)(l1:h1.le w)(l2:h2.le w):
 Calls Tryz.prog 19 #[pairV a b,pairV c d] w fun e w'=>e= .returned (.bool true)∧Only w w':=by
 have ho0:=((Only.refl w).alloc (pairC a b)).alloc (pairC c d);have C1:=hQ (fun wx (ho:Only w wx)=>eq_same h1 h2 a c A ha hc hn wx (l1.only ho) (l2.only ho));have C2:=hQ (fun wx (ho:Only w wx)=>eq_same h1 h2 b d B hb hd hm wx (l1.only ho) (l2.only ho));obtain⟨p1,q1,rfl⟩:=bytes_shape ha;obtain⟨p2,q2,rfl⟩:=bytes_shape hb;obtain⟨p3,q3,rfl⟩:=bytes_shape hc;obtain⟨p4,q4,rfl⟩:=bytes_shape hd
 have HO0:=hQ ho0;clear ha hb hc hd l1 l2 ho0;go_enter Tryz.func19,Tryz.ntmps19
 go_wp2_with fail
 refine(C1.out _ HO0.out).mono ?_;rintro e w1 ⟨rfl,ho1⟩;have c0:=World.cell?_alloc_new;have k1:w1.cell? ⟨w.heap.size,1,none⟩=some (.slice p2 B.length q2):=ho1.cell (by go_simp);have k2:w1.cell? ⟨w.heap.size+1,1,none⟩=some (.slice p4 B.length q4):=ho1.cell (by go_simp);have HO1:=hQ (HO0.out.trans ho1);clear ho1 c0;go_wp2_with fail
 refine(C2.out _ HO1.out).mono ?_;rintro e w2 ⟨rfl,ho2⟩;have HO2:=hQ (HO1.out.trans ho2);clear ho2;go_wp2;go_ret;exact⟨rfl,HO2.out⟩
end Go.Proofs.YtiegeadmgpanoaaGreatDoor.V8
namespace Go.Cop
theorem chainL_len {look:Int→Option PageV}{N:Nat}:∀(k:Nat) (out:List Int) (n:Int),out.length≤N→(chainL look N k out n).1.length≤N
 | 0,out,n,h=>h
 | k+1,out,n,h=>by
   unfold chainL;split
   · exact h
   · cases look n with
     | none=>exact Nat.zero_le _
     | some g=>
       dsimp only;split
       · exact Nat.zero_le _
       · split
         · rename_i h1 _ h2
           refine chainL_len k _ _ ?_;rw [List.length_append];have:=h2.1
           omega
         · exact Nat.zero_le _
theorem value_len(look:Int→Option PageV)(size child:Int)(value:List Int):(valueL look size child value).1.length≤3840:=by
 unfold valueL;by_cases hb:size<0∨3840<size∨(size≤32∧(value.length:Int)≠size)
 · rw [if_pos hb];exact Nat.zero_le _
 · rw [if_neg hb]
   by_cases h32:size≤32
   · rw [if_pos h32];show value.length≤3840;omega
   · rw [if_neg h32]
     have:=chainL_len (look:=look) (N:=size.toNat) size.toNat [] child (Nat.zero_le _)
     omega
theorem optV_len(look:Int→Option PageV)(o:Option ItemV):(optV look o).length≤3840:=by
 cases o with
 | none=>exact Nat.zero_le _
 | some x=>exact value_len _ _ _ _
end Go.Cop
namespace Go.Cop
theorem cmp_below:∀k:List Int,cmpI k (k++ [0])<0
 | []=>by show cmpI [] [0]<0;unfold cmpI;omega
 | y :: k=>by
   show cmpI (y :: k) (y :: (k++ [0]))<0
   unfold cmpI;rw [if_neg (by omega),if_neg (by omega)];exact cmp_below k
theorem cmp_above:∀ {a k:List Int},U8 a→0<cmpI a k→0≤cmpI a (k++ [0])
 | [],[],_,h=>by unfold cmpI at h;omega
 | [],y :: k,_,h=>by unfold cmpI at h;omega
 | x :: a,[],hu,_=>by
   show 0≤cmpI (x :: a) [0]
   unfold cmpI;have h1:=(hu x (by simp)).1;rw [if_neg (by omega)];by_cases h2:0<x
   · rw [if_pos h2];omega
   · rw [if_neg h2]
     cases a<;>(unfold cmpI;omega)
 | x :: a,y :: k,hu,h=>by
   show 0≤cmpI (x :: a) (y :: (k++ [0]))
   unfold cmpI at h ⊢;by_cases h1:x<y
   · rw [if_pos h1] at h;omega
   · rw [if_neg h1] at h ⊢
     by_cases h2:y<x
     · rw [if_pos h2];omega
     · rw [if_neg h2] at h ⊢
       exact cmp_above (fun z hz=>hu z (by simp [hz])) h
theorem filter_take {α:Type}(p:α→Bool)(L:List α)(m:Nat)(h1:∀j (h:j<L.length),j<m→p L[j]=true)(h2:∀j (h:j<L.length),m≤j→p L[j]=false):L.filter p=L.take m:=by
 have e:L.filter p=(L.take m).filter p++(L.drop m).filter p:=by rw [← List.filter_append,List.take_append_drop]
 rw [e,List.filter_eq_self.2,List.filter_eq_nil_iff.2,List.append_nil]
 · intro x hx
   obtain⟨j,hj,rfl⟩:=List.getElem_of_mem hx;rw [List.getElem_drop];rw [List.length_drop] at hj;rw [h2 _ (by omega) (by omega)];simp
 · intro x hx
   obtain⟨j,hj,rfl⟩:=List.getElem_of_mem hx;rw [List.getElem_take];rw [List.length_take] at hj;exact h1 _ (by omega) (by omega)
theorem filter_drop {α:Type}(p:α→Bool)(L:List α)(m:Nat)(h1:∀j (h:j<L.length),j<m→p L[j]=false)(h2:∀j (h:j<L.length),m≤j→p L[j]=true):L.filter p=L.drop m:=by
 have e:L.filter p=(L.take m).filter p++(L.drop m).filter p:=by rw [← List.filter_append,List.take_append_drop]
 rw [e,List.filter_eq_nil_iff.2,List.filter_eq_self.2,List.nil_append]
 · intro x hx
   obtain⟨j,hj,rfl⟩:=List.getElem_of_mem hx;rw [List.getElem_drop];rw [List.length_drop] at hj;exact h2 _ (by omega) (by omega)
 · intro x hx
   obtain⟨j,hj,rfl⟩:=List.getElem_of_mem hx;rw [List.getElem_take];rw [List.length_take] at hj;rw [h1 _ (by omega) (by omega)];simp
theorem key_lt {L:List ItemV}(hs:L.Pairwise KeyLt){i j:Nat}(hi:i<L.length)(hj:j<L.length)(h:i<j):cmpI L[i].key L[j].key<0:=List.pairwise_iff_getElem.1 hs i j hi hj h
theorem key_le {L:List ItemV}(hs:L.Pairwise KeyLt){i j:Nat}(hi:i<L.length)(hj:j<L.length)(h:i≤j):cmpI L[i].key L[j].key≤0:=by
 rcases Nat.lt_or_eq_of_le h with h | rfl
 · have:=key_lt hs hi hj h;omega
 · rw [cmp_zero.2 rfl];omega
theorem head_drop {α:Type}(L:List α)(m:Nat):(L.drop m).head?=L[m]? :=by rw [List.head?_drop]
theorem last_take {α:Type}(L:List α)(m:Nat)(h:m<L.length):(L.take (m+1)).getLast?=some L[m]:=by
 rw [List.getLast?_eq_getElem?,List.length_take,Nat.min_eq_left (by omega),Nat.add_sub_cancel,List.getElem?_take,if_pos (by omega),List.getElem?_eq_getElem h]
section
variable {L:List ItemV}(hs:L.Pairwise KeyLt){i:Nat}(hi:i<L.length)
include hs
theorem near_ceil:(L.filter (geK L[i].key)).head?=some L[i]:=by
 rw [filter_drop _ L i,head_drop,List.getElem?_eq_getElem hi]
 · intro j hj h
   have:=key_lt hs hj hi h
   unfold geK;rw [decide_eq_false_iff_not];omega
 · intro j hj h
   have:=key_le hs hi hj h
   unfold geK;rw [decide_eq_true_eq,cmp_neg];exact this
theorem near_floor:(L.filter (leK L[i].key)).getLast?=some L[i]:=by
 rw [filter_take _ L (i+1),last_take L i hi]
 · intro j hj h
   have:=key_le hs hj hi (by omega)
   unfold leK;rw [decide_eq_true_eq];exact this
 · intro j hj h
   have:=key_lt hs hi hj (by omega)
   unfold leK;rw [decide_eq_false_iff_not];intro h2;have:=cmp_lt_le this h2
   rw [cmp_zero.2 rfl] at this;omega
variable(hu:∀x∈L,U8 x.key)
include hu
omit hu in
theorem above_le {j:Nat}(hj:j<L.length)(h:j≤i):cmpI L[j].key (L[i].key++ [0])<0:=cmp_le_lt (key_le hs hj hi h) (cmp_below _)
theorem above_ge {j:Nat}(hj:j<L.length)(h:i<j):0≤cmpI L[j].key (L[i].key++ [0]):=by
 refine cmp_above (hu _ (List.getElem_mem hj)) ?_;have h1:=key_lt hs hi hj h;have h2:0≤cmpI L[j].key L[i].key:=by rw [cmp_neg];omega
 rcases Int.lt_or_eq_of_le h2 with h3 | h3
 · exact h3
 · have:=cmp_eq h3.symm
   rw [this,cmp_zero.2 rfl] at h1;omega
theorem near_ceil2:(L.filter (geK (L[i].key++ [0]))).head?=L[i+1]? :=by
 rw [filter_drop _ L (i+1),head_drop]
 · intro j hj h
   have:=above_le hs hi hj (by omega)
   unfold geK;rw [decide_eq_false_iff_not];omega
 · intro j hj h
   have:=above_ge hs hi hu hj (by omega)
   unfold geK;rw [decide_eq_true_eq];exact this
omit hu in
theorem near_floor2(h:i+1<L.length)(he:L[i+1].key=L[i].key++ [0]):(L.filter (leK (L[i].key++ [0]))).getLast?=some L[i+1]:=by
 rw [← he];exact near_floor hs h
theorem near_floor3(he:∀h:i+1<L.length,L[i+1].key≠L[i].key++ [0]):(L.filter (leK (L[i].key++ [0]))).getLast?=some L[i]:=by
 rw [filter_take _ L (i+1),last_take L i hi]
 · intro j hj h
   have:=above_le hs hi hj (by omega)
   unfold leK;rw [decide_eq_true_eq];omega
 · intro j hj h
   have h1:=above_ge hs hi hu hj (by omega);unfold leK;rw [decide_eq_false_iff_not];intro h2;have h3:=cmp_eq (show cmpI L[j].key (L[i].key++ [0])=0 by omega);rcases Nat.lt_or_eq_of_le h with h4 | h4
   · have h5:=above_ge hs hi hu (j:=i+1) (by omega) (by omega)
     have h6:=key_lt hs (show i+1<L.length by omega) hj h4;rw [h3] at h6;omega
   · subst h4
     exact he hj h3
end
theorem cut_at:∀ {L:List ItemV},L.Pairwise KeyLt→∀k:List Int,∃m,m≤L.length∧∀j (h:j<L.length),j<m↔cmpI L[j].key k<0
 | [],_,_=>⟨0,Nat.le_refl _,fun j h=>absurd h (Nat.not_lt_zero j)⟩
 | x :: L,hs,k=>by
   obtain⟨h1,h2⟩:=List.pairwise_cons.1 hs;obtain⟨m,hm,hc⟩:=cut_at h2 k;by_cases hx:cmpI x.key k<0
   · refine⟨m+1,by simpa using hm,fun j hj=> ?_⟩
     cases j with
     | zero=>exact⟨fun _=>hx,fun _=>by omega⟩
     | succ j=>
       have:=hc j (by simpa using hj)
       rw [List.getElem_cons_succ, ← this];omega
   · refine⟨0,Nat.zero_le _,fun j hj=>⟨fun h=>absurd h (Nat.not_lt_zero j),fun h=> ?_⟩⟩
     cases j with
     | zero=>exact absurd h hx
     | succ j=>
       exfalso;rw [List.getElem_cons_succ] at h;exact hx (cmp_lt_le (h1 _ (List.getElem_mem (by simpa using hj))) (by omega))
theorem stand_cut {look:Int→Option PageV}(ok:PgsOk look){root height items:Int}{L:List ItemV}(h:StandT look root height items L)(k:List Int):
 ∃m,m≤L.length∧(L.filter fun x=>hasR ⟨[],k,false⟩ x.key)=L.take m∧(L.filter fun x=>hasR ⟨k,[],true⟩ x.key)=L.drop m∧∀j (h:j<L.length),j<m↔cmpI L[j].key k<0:=by
 obtain⟨hs,_,_⟩:=stand_facts ok h;obtain⟨m,hm,hc⟩:=cut_at hs k;have hnil:∀l:List Int,0≤cmpI l []:=fun l=>by cases l<;>(unfold cmpI;omega)
 refine⟨m,hm,filter_take _ L m ?_ ?_,filter_drop _ L m ?_ ?_,hc⟩
 · intro j hj h1
   have:=(hc j hj).1 h1
   unfold hasR;simp [(stand_key h _ (List.getElem_mem hj)).1,this,hnil]
 · intro j hj h1
   have hno:¬cmpI L[j].key k<0:=fun h2=>by have:=(hc j hj).2 h2;omega
   unfold hasR;simp only [Bool.false_or,Bool.and_eq_false_iff,decide_eq_false_iff_not];exact .inr (.inr hno)
 · intro j hj h1
   have:=(hc j hj).1 h1
   unfold hasR;simp only [Bool.true_or,Bool.and_true,Bool.and_eq_false_iff,decide_eq_false_iff_not];exact .inr (by omega)
 · intro j hj h1
   have h2:¬cmpI L[j].key k<0:=fun h2=>by have:=(hc j hj).2 h2;omega
   unfold hasR;simp [(stand_key h _ (List.getElem_mem hj)).1]
   omega
theorem stand_items {look:Int→Option PageV}{root height items:Int}{L:List ItemV}(h:StandT look root height items L):items=(L.length:Int):=by
 rcases h with⟨_,_,rfl,rfl⟩ | ⟨_,h,_⟩
 · rfl
 · exact h
theorem near_get {look:Int→Option PageV}(ok:PgsOk look){root height items:Int}{L:List ItemV}(h:StandT look root height items L){i:Nat}(hi:i<L.length):
 getV look L L[i].key=valK look L[i]∧getB L L[i].key=true∧getE L[i].key=0:=by
 obtain⟨hs,_,_⟩:=stand_facts ok h;refine get_some look (stand_key h _ (List.getElem_mem hi)).1 ?_;unfold findK;cases hf:L.find? fun x=>cmpI x.key L[i].key == 0 with
 | none=>
   have:=List.find?_eq_none.1 hf L[i] (List.getElem_mem hi)
   rw [cmp_zero.2 rfl] at this;simp at this
 | some y=>
   have h1:=List.find?_some hf;have h2:=List.mem_of_find?_eq_some hf;simp only [beq_iff_eq] at h1;rw [sorted_uniq hs h2 (List.getElem_mem hi) (cmp_eq h1)]
theorem near_way {look:Int→Option PageV}(ok:PgsOk look){root height items:Int}{L:List ItemV}(h:StandT look root height items L){i:Nat}(hi:i<L.length):
 ∃lv:Nat,height=(lv:Int)+1∧lv≤11∧∃p g,(wayK look root height L[i].key).length=lv+1∧(wayK look root height L[i].key)[0]? =some root∧(wayK look root height L[i].key)[lv]? =some p∧look p=some g∧g.kind=1∧L[i]∈g.items:=by
 rcases h with⟨_,_,_,rfl⟩ | ⟨_,_,lv,rfl,hlv,hT⟩
 · exact absurd hi (Nat.not_lt_zero i)
 · obtain⟨⟨h1,h2,h3⟩,g,h4,h5,h6,h7⟩:=path_tr ok L[i].key hT
   refine⟨lv,rfl,hlv,leafK look L[i].key lv root,g,?_⟩;unfold wayK;rw [if_neg (by omega),show ((lv:Int)+1-1).toNat=lv by omega];exact⟨h1,h3,h2,h4,h5,h7 _ (List.getElem_mem hi) rfl⟩
end Go.Cop
