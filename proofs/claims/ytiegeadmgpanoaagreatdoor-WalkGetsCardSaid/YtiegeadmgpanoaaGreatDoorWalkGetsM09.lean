/- The program's Floor in a tree that stands; the conditions stand as hypotheses. -/
import Derived.Test.YtiegeadmgpanoaaGreatDoorWalkGetsM07
import Derived.Test.YtiegeadmgpanoaaGreatDoorWalkChecksM01
set_option maxRecDepth 100000
set_option maxHeartbeats 16000000
namespace Go.Cop
theorem stand_facts {look:Int→Option PageV}(ok:PgsOk look){root height items:Int}{L:List ItemV}(h:StandT look root height items L):
 L.Pairwise KeyLt∧(L.filter fun x=>hasR everyR x.key)=L∧∀x∈L,U8 x.key:=by
 rcases h with⟨_,_,_,rfl⟩ | ⟨_,_,lv,_,hlv,hT⟩
 · exact⟨List.Pairwise.nil,rfl,fun x hx=>by cases hx⟩
 · exact⟨tr_sorted ok hT,List.filter_eq_self.2 fun x hx=>(tr_has hT x hx).1,tr_u8 ok hT⟩
def leK(key:List Int)(x:ItemV):Bool:=decide (cmpI x.key key≤0)
theorem floor_cut {key:List Int}{L pre:List ItemV}{x:ItemV}(hs:L.Pairwise KeyLt)(h:pre++ [x]<+:L)(h1:∀y∈pre,cmpI y.key key≤0)(h2:¬cmpI x.key key≤0):L.filter (leK key)=pre:=by
 obtain⟨t,rfl⟩:=h
 rw [List.filter_append,List.filter_append,List.filter_eq_self.2 (fun y hy=>by simp only [leK,decide_eq_true_eq];exact h1 y hy),show [x].filter (leK key)= [] from List.filter_eq_nil_iff.2 (fun y hy=>by obtain rfl:=List.mem_singleton.1 hy;simpa [leK] using h2),
  show t.filter (leK key)= [] from List.filter_eq_nil_iff.2 (fun y hy=>by
   have h3:KeyLt x y:=(List.pairwise_append.1 hs).2.2 x (by simp) y hy
   simp only [leK,decide_eq_true_eq]
   intro h4
   exact h2 (cmp_le (Int.le_of_lt h3) h4))]
 simp
end Go.Cop
namespace Go.Proofs.YtiegeadmgpanoaaGreatDoor.Q8
open ChangeShapes WideShapes ChangeAt RowKit Sl Cop Go.Shelf D2 F3 N3 P3 G2 J2 Q3 V3 G4 K4 X3 M5 P5 U5 W5 N2 P2 L6 S6 J7 N5 S5 K7 V7 Z7 B8 C8 P8
attribute [local go_sem] Oper.semAt_some
theorem scmp_any(ha hb:Hp)(va vb:Value)(A B:List Int)(h1:Bytes ha va A)(h2:Bytes hb vb B)(u1:U8 A)(u2:U8 B)(w:World)(l1:ha.le w)(l2:hb.le w):
 Calls Tryz.prog 54 #[va,vb] w fun e w'=>e= .returned (.int .i64 (cmpI A B))∧Only w w':=by
 have BC:=hQ (bcompare_only ha hb va vb A B h1 h2 u1 u2 w l1 l2);obtain⟨a,c,rfl,_⟩:=bytes_rd h1;obtain⟨a',c',rfl,_⟩:=bytes_rd h2;clear h1 h2 u1 u2 l1 l2;go_enter Tryz.func54,Tryz.ntmps54
 go_wp2_with fail
 refine BC.out.mono ?_;rintro e w1 ⟨rfl,ho⟩;have HO:=hQ ho;clear ho;go_wp2;go_ret;exact⟨rfl,HO.out⟩
def bestC:Option ItX→Obj
 | none=> .cells #[.slice none 0 0,.slice none 0 0,.int .i64 0,.int .i64 0] 89
 | some x=> .cells #[x.1.1,x.1.2,.int .i64 x.2.child,.int .i64 x.2.size] 89
def bestR:Option ItX→Pr
 | none=>Pr.emp
 | some x=>rowsOf x
def FI(TB KB A6 BB FB:Nat)(root height items:Int)(kv:Value)(key:List Int)(hk:Hp)(F:Pr)(pre:List ItX):Pr:=
 (Pr.pure (∀y∈pre.map (·.2),cmpI y.key key≤0)).star ((Pr.pts TB (treeC root height items)).star ((Pr.pts KB (.cells #[kv] 42)).star ((Pr.pts A6 (pairC (.slice none 0 0) (.slice none 0 0))).star ((Pr.pts BB (bestC pre.getLast?)).star
   ((Pr.pts FB (.cells #[.bool pre.getLast?.isSome] 4)).star ((bestR pre.getLast?).star ((Pr.own hk).star F)))))))
def FX(TB KB A6 BB FB:Nat)(root height items:Int)(kv:Value)(key:List Int)(hk:Hp)(F:Pr)(c:Code)(pre:List ItX):Pr:=
 Pr.ex fun p:List ItX=>(Pr.pure (c= .exit 0∧(∀y∈p.map (·.2),cmpI y.key key≤0)∧∃x:ItX,pre=p++ [x]∧¬cmpI x.2.key key≤0)).star ((Pr.pts TB (treeC root height items)).star ((Pr.pts KB (.cells #[kv] 42)).star ((Pr.pts A6 (pairC (.slice none 0 0) (.slice none 0 0))).star
  ((Pr.pts BB (bestC p.getLast?)).star ((Pr.pts FB (.cells #[.bool p.getLast?.isSome] 4)).star ((bestR p.getLast?).star ((Pr.own hk).star F)))))))
theorem floor_any(v:Nat)(s:VaultS)(look:Int→Option PageV)(hl:L6.Looks s look)(okp:PgsOk look)(root height items:Int)(L:List ItemV)(hT:StandT look root height items L)(kv:Value)(key:List Int)(hk:Hp)(hkv:Bytes hk kv key)(uk:U8 key)(hg:Hp)(GE:EveryIn hg)(F:Pr)(w:World)(hF:OwnL [VaultA v s,Pr.own hk,Pr.own hg,F] w):
 Calls Tryz.prog 20 #[.pointer (some ⟨v,0,none⟩),treeV root height items,kv] w fun e w'=>Stays w w'∧∃a b,e= .returned (.tuple #[pairV a b,.bool ((L.filter (leK key)).getLast?).isSome,.int .i64 0])∧OwnL [BytesRow a (optK (L.filter (leK key)).getLast?),BytesRow b (optV look (L.filter (leK key)).getLast?),VaultA v s,Pr.own hk,Pr.own hg,F] w':=by
 obtain⟨kak,kck,rfl⟩:=bytes_shape hkv;obtain⟨hs1,_⟩:=hF.fresh [.int .i64 root,.int .i64 height,.int .i64 items] 35 w.heap.size rfl;obtain⟨hs2,_⟩:=hs1.fresh [.slice kak key.length kck] 42 (w.heap.size+1) (by simp);obtain⟨hs3,_⟩:=hs2.fresh [.slice none 0 0,.slice none 0 0] 49 (w.heap.size+1+1) (by simp)
 obtain⟨hs4,_⟩:=hs3.fresh [.slice none 0 0,.slice none 0 0,.int .i64 0,.int .i64 0] 89 (w.heap.size+1+1+1) (by simp);obtain⟨hs5,_⟩:=hs4.fresh [.bool false] 4 (w.heap.size+1+1+1+1) (by simp);have HS5:=hQ hs5
 have HST:=hQ ((((((Stays.refl w).alloc (.cells [Value.int .i64 root,.int .i64 height,.int .i64 items].toArray 35)).alloc (.cells [Value.slice kak key.length kck].toArray 42)).alloc (.cells [Value.slice none 0 0,.slice none 0 0].toArray 49)).alloc (.cells [Value.slice none 0 0,.slice none 0 0,.int .i64 0,.int .i64 0].toArray 89)).alloc (.cells [Value.bool false].toArray 4))
 have GC:=GE.cells _ (hs5.pull1 (A1:=Pr.own hg)).own;have hMV:∀x∈L,(valueL look x.size x.child x.value).2=0:=fun x hx=>stand_val hT x hx
 obtain⟨hsort,hev,hu8⟩:=stand_facts okp hT;have IT:=hQ (fun tb vb rb=>items1 tb vb rb v s look hl okp root height items L hT _ _ everyR hg EveryIn.range every_u8 ⟨Nat.zero_le _,Nat.zero_le _⟩);rw [hev] at IT;dsimp only [everyR] at IT;have HH:=hQ (And.intro hl hMV);have HC:=hQ (And.intro hsort (And.intro hu8 (And.intro hkv uk)));clear hF hs1 hs2 hs3 hs4 hs5 hkv hT hl okp uk hMV hsort hev hu8 GE
 refine calls_of_wp_marks (n:=9) Tryz.func20 rfl ?_;simp only [Tryz.ntmps20,List.size_toArray,List.length_cons,List.length_nil,Nat.reduceAdd,Nat.reduceSub,Array.replicate_succ,Array.replicate_zero,List.push_toArray,List.append_toArray,List.nil_append,List.cons_append];obtain⟨g1,g2,g3⟩:=GC;go_wp2_with fail
 have U1:=HS5.out;have U2:=HST.out;clear HS5 HST g1 g2 g3
 generalize (((((w.alloc (.cells [Value.int .i64 root,.int .i64 height,.int .i64 items].toArray 35)).alloc (.cells [Value.slice kak key.length kck].toArray 42)).alloc (.cells [Value.slice none 0 0,.slice none 0 0].toArray 49)).alloc (.cells [Value.slice none 0 0,.slice none 0 0,.int .i64 0,.int .i64 0].toArray 89)).alloc (.cells [Value.bool false].toArray 4))=w0 at*
 generalize w.heap.size+1+1+1+1=FB at*;generalize w.heap.size+1+1+1=BB at*;generalize w.heap.size+1+1=A6 at*;generalize w.heap.size+1=KB at*;generalize w.heap.size=TB at*;refine(items_any v root height items _ _ true _ _ _ _ _ _ rfl rfl _).mono ?_;rintro e w2 ⟨rfl,rfl⟩;have U3:=((U1.alloc (vBox v)).alloc (treeC root height items)).alloc (rangeC (.slice none 0 0) (.slice none 0 0) true)
 have U4:=((U2.alloc (vBox v)).alloc (treeC root height items)).alloc (rangeC (.slice none 0 0) (.slice none 0 0) true);rw [show ((w0.alloc (vBox v)).alloc (treeC root height items)).heap.size=w0.heap.size+1+1 by simp,show (w0.alloc (vBox v)).heap.size=w0.heap.size+1 by simp] at U3;clear U1 U2
 generalize ((w0.alloc (vBox v)).alloc (treeC root height items)).alloc (rangeC (.slice none 0 0) (.slice none 0 0) true)=w1 at*;generalize w0.heap.size+1+1=R2 at*;generalize w0.heap.size+1=T2 at*;generalize w0.heap.size=V2 at*;have HS1:=hQ U3;have HST:=hQ U4;clear U3 U4;go_wp2
 refine wp_rangeFunc_v 9 (gf:=92) rfl (enters_of Tryz.func92 (by kernel_rfl) rfl) (IT.out T2 V2 R2) (fun _=>rfl)
  (fun pre=>FI TB KB A6 BB FB root height items (.slice kak key.length kck) key hk F pre) (fun c pre=>FX TB KB A6 BB FB root height items (.slice kak key.length kck) key hk F c pre) ?start ?round ?done ?stop
 case start=>
  have h2:=HS1.out.to (M:= [Pr.pts TB (treeC root height items),Pr.pts KB (.cells #[.slice kak key.length kck] 42),Pr.pts A6 (pairC (.slice none 0 0) (.slice none 0 0)),Pr.pts BB (.cells #[.slice none 0 0,.slice none 0 0,.int .i64 0,.int .i64 0] 89),Pr.pts FB (.cells #[.bool false] 4),Pr.own hk,F,Pr.pts T2 (treeC root height items),Pr.pts V2 (vBox v),Pr.pts R2 (rangeC (.slice none 0 0) (.slice none 0 0) true),VaultA v s,Pr.own hg])
  unfold FI;rw [Pr.star_assoc];exact Sat.pure.2 ⟨(fun y hy=>by cases hy),h2.sat.perm (by simp only [starL,Pr.star_emp,Pr.star_assoc,ItA,bestC,bestR,List.getLast?_nil,Option.isSome,Pr.emp_star])⟩
 case round=>
  intro l' pre x W1' F1 hok hs;obtain⟨⟨y1,y2⟩,x⟩:=x;unfold FI at hs
  have hs9:Sat ((Pr.pure (∀y∈pre.map (·.2),cmpI y.key key≤0)).star (starL [Pr.pts TB (treeC root height items),Pr.pts KB (.cells #[.slice kak key.length kck] 42),Pr.pts A6 (pairC (.slice none 0 0) (.slice none 0 0)),Pr.pts BB (bestC (pre.getLast?)),Pr.pts FB (.cells #[.bool (pre.getLast?).isSome] 4),bestR (pre.getLast?),Pr.own hk,F,rowsOf ((y1,y2),x),Pr.pts T2 (treeC root height items),Pr.pts V2 (vBox v),Pr.pts R2 (rangeC (.slice none 0 0) (.slice none 0 0) true),VaultA v s,Pr.own hg,F1])) W1':=hs.perm (by simp only [starL,Pr.star_emp,Pr.star_assoc,ItA])
  clear hs;obtain⟨hp9,hs⟩:=Sat.pure.1 hs9;clear hs9
  have hs1:OwnL [Pr.pts TB (treeC root height items),Pr.pts KB (.cells #[.slice kak key.length kck] 42),Pr.pts A6 (pairC (.slice none 0 0) (.slice none 0 0)),Pr.pts BB (bestC (pre.getLast?)),Pr.pts FB (.cells #[.bool (pre.getLast?).isSome] 4),bestR (pre.getLast?),Pr.own hk,F,rowsOf ((y1,y2),x),Pr.pts T2 (treeC root height items),Pr.pts V2 (vBox v),Pr.pts R2 (rangeC (.slice none 0 0) (.slice none 0 0) true),VaultA v s,Pr.own hg,F1] W1':=⟨hs⟩
  have hsh:OwnL [BytesRow y1 x.key,BytesRow y2 x.value] W1':=⟨((hs1.end1 (A1:=rowsOf ((y1,y2),x))).perm (B:=(BytesRow y1 x.key).star ((BytesRow y2 x.value).star Pr.emp)) (by rw [Pr.star_emp];rfl))⟩;obtain⟨ak,ck,rfl⟩:=Row.shape (hsh.pull1 (A1:=BytesRow y1 x.key));obtain⟨av,cv,rfl⟩:=Row.shape (hsh.pull1 (A1:=BytesRow y2 x.value))
  have HXU:=hQ (HC.out.2.1 x (hok.subset (List.mem_append_right _ (List.mem_singleton_self x))));have HP:=hQ hp9;have HS2:=hQ hs1;clear hs hs1 hsh hok hp9 HS1;simp only [encI,itemV];obtain⟨o,ho⟩:∃o,pre.getLast?=o:=⟨_,rfl⟩;have HO:=hQ ho;rw [ho] at HS2;clear ho;gi_wp2
  have hsA:=HS2.out.alloc (.cells #[.slice ak x.key.length ck,.slice av x.value.length cv,.int .i64 x.child,.int .i64 x.size] 89);obtain⟨B,hB⟩:∃B,W1'.heap.size=B:=⟨_,rfl⟩;rw [hB] at hsA ⊢
  refine⟨starL [Pr.pts B (.cells #[.slice ak x.key.length ck,.slice av x.value.length cv,.int .i64 x.child,.int .i64 x.size] 89),Pr.pts TB (treeC root height items),Pr.pts KB (.cells #[.slice kak key.length kck] 42),Pr.pts A6 (pairC (.slice none 0 0) (.slice none 0 0)),Pr.pts BB (bestC (o)),Pr.pts FB (.cells #[.bool (o).isSome] 4),bestR (o),Pr.own hk,F,rowsOf ((.slice ak x.key.length ck,.slice av x.value.length cv),x),Pr.pts T2 (treeC root height items),Pr.pts V2 (vBox v),Pr.pts R2 (rangeC (.slice none 0 0) (.slice none 0 0) true),VaultA v s,Pr.own hg],(Stays.refl _).alloc _,(hsA.to (M:= [Pr.pts B (.cells #[.slice ak x.key.length ck,.slice av x.value.length cv,.int .i64 x.child,.int .i64 x.size] 89),Pr.pts TB (treeC root height items),Pr.pts KB (.cells #[.slice kak key.length kck] 42),Pr.pts A6 (pairC (.slice none 0 0) (.slice none 0 0)),Pr.pts BB (bestC (o)),Pr.pts FB (.cells #[.bool (o).isSome] 4),bestR (o),Pr.own hk,F,rowsOf ((.slice ak x.key.length ck,.slice av x.value.length cv),x),Pr.pts T2 (treeC root height items),Pr.pts V2 (vBox v),Pr.pts R2 (rangeC (.slice none 0 0) (.slice none 0 0) true),VaultA v s,Pr.own hg,F1])).sat.perm (by simp only [starL,Pr.star_emp,Pr.star_assoc]),?_⟩
  clear hsA HS2 hB;intro F2 W2 _ hs2
  have hs3:OwnL [Pr.pts B (.cells #[.slice ak x.key.length ck,.slice av x.value.length cv,.int .i64 x.child,.int .i64 x.size] 89),Pr.pts TB (treeC root height items),Pr.pts KB (.cells #[.slice kak key.length kck] 42),Pr.pts A6 (pairC (.slice none 0 0) (.slice none 0 0)),Pr.pts BB (bestC (o)),Pr.pts FB (.cells #[.bool (o).isSome] 4),bestR (o),Pr.own hk,F,rowsOf ((.slice ak x.key.length ck,.slice av x.value.length cv),x),Pr.pts T2 (treeC root height items),Pr.pts V2 (vBox v),Pr.pts R2 (rangeC (.slice none 0 0) (.slice none 0 0) true),VaultA v s,Pr.own hg,F2] W2:=⟨hs2.perm (by simp only [starL,Pr.star_emp,Pr.star_assoc])⟩
  have c1:=hs3.facts;simp only [CellsAt,Nat.reduceAdd,and_true] at c1;obtain⟨ha,hqa,hsQ⟩:=hs3.arena (rowsOf ((.slice ak x.key.length ck,.slice av x.value.length cv),x));have hle:=(hsQ.pull1 (A1:=Pr.own ha)).own;clear hsQ;have SC:=hQ (scmp_any ha hk _ _ x.key key (rows_in hqa).1 HC.out.2.2.1 HXU.out HC.out.2.2.2 W2 hle (hs3.pull1 (A1:=Pr.own hk)).own);have HS3:=hQ hs3;clear hs2 hs3 hqa hle
  gi_wp2_with fail
  refine⟨trivial,?_⟩;refine(CallsIn.inRound _ (callsIn_wide.2 SC.out)).mono ?_;rintro e w3 ⟨rfl,hon⟩
  have hs5:OwnL [Pr.pts B (.cells #[.slice ak x.key.length ck,.slice av x.value.length cv,.int .i64 x.child,.int .i64 x.size] 89),Pr.pts TB (treeC root height items),Pr.pts KB (.cells #[.slice kak key.length kck] 42),Pr.pts A6 (pairC (.slice none 0 0) (.slice none 0 0)),Pr.pts BB (bestC (o)),Pr.pts FB (.cells #[.bool (o).isSome] 4),bestR (o),Pr.own hk,F,rowsOf ((.slice ak x.key.length ck,.slice av x.value.length cv),x),Pr.pts T2 (treeC root height items),Pr.pts V2 (vBox v),Pr.pts R2 (rangeC (.slice none 0 0) (.slice none 0 0) true),VaultA v s,Pr.own hg,F2] w3:=⟨HS3.out.sat.only hon⟩
  have HST3:=hQ ((Stays.refl W2).trans hon.st);clear c1;have c1:=hs5.facts;simp only [CellsAt,Nat.reduceAdd,and_true] at c1;have HS5:=hQ hs5;clear hs5 hon SC HS3;by_cases hc:cmpI x.key key≤0
  · have hc2:¬0<cmpI x.key key:=by omega
    have HCC:=hQ hc;clear hc;have hbo:∃q1 q2 q3 q4,bestC o= .cells #[q1,q2,q3,q4] 89:=by cases o<;>exact⟨_,_,_,_,rfl⟩
    obtain⟨q1,q2,q3,q4,hbo⟩:=hbo;clear c1;have hs6:=HS5.out;rw [hbo] at hs6;have HS6:=hQ hs6;clear hs6 HS5 hbo;have c1:=HS6.out.facts;simp only [CellsAt,Nat.reduceAdd,and_true] at c1;gi_wp2
    all_goals first | (exfalso;omega) | skip
    refine⟨((((((HST3.out.setCell _ _).setCell _ _).setCell _ _).setCell _ _).setCell _ _)),?_⟩
    have h8:=(((((HS6.out.set BB 0 (.slice ak x.key.length ck)).set BB 1 (.slice av x.value.length cv)).set BB 2 (.int .i64 x.child)).set BB 3 (.int .i64 x.size)).set FB 0 (.bool true)).to (M:= [Pr.pts TB (treeC root height items),Pr.pts KB (.cells #[.slice kak key.length kck] 42),Pr.pts A6 (pairC (.slice none 0 0) (.slice none 0 0)),Pr.pts BB (.cells #[.slice ak x.key.length ck,.slice av x.value.length cv,.int .i64 x.child,.int .i64 x.size] 89),Pr.pts FB (.cells #[.bool true] 4),rowsOf ((.slice ak x.key.length ck,.slice av x.value.length cv),x),Pr.own hk,F,Pr.pts T2 (treeC root height items),Pr.pts V2 (vBox v),Pr.pts R2 (rangeC (.slice none 0 0) (.slice none 0 0) true),VaultA v s,Pr.own hg,F2])
    unfold FI;rw [Pr.star_assoc,Pr.star_assoc];refine Sat.pure.2 ⟨fun y hy=> ?_,h8.sat.perm (by simp only [starL,Pr.star_emp,Pr.star_assoc,ItA,List.getLast?_append,List.getLast?_singleton,Option.some_or,bestC,bestR,Option.isSome])⟩;rw [List.map_append,List.mem_append] at hy;rcases hy with hy | hy
    · exact HP.out y hy
    · obtain rfl:=List.mem_singleton.1 hy
      exact HCC.out
  · have hc2:0<cmpI x.key key:=by omega
    have HCC:=hQ hc;clear hc;gi_wp2
    all_goals first | (exfalso;omega) | skip
    refine⟨HST3.out,?_⟩
    have h8:=HS5.out.to (M:= [Pr.pts TB (treeC root height items),Pr.pts KB (.cells #[.slice kak key.length kck] 42),Pr.pts A6 (pairC (.slice none 0 0) (.slice none 0 0)),Pr.pts BB (bestC (o)),Pr.pts FB (.cells #[.bool (o).isSome] 4),bestR (o),Pr.own hk,F,Pr.pts T2 (treeC root height items),Pr.pts V2 (vBox v),Pr.pts R2 (rangeC (.slice none 0 0) (.slice none 0 0) true),VaultA v s,Pr.own hg,F2])
    unfold FX;rw [Pr.ex_star,Pr.ex_star];refine Sat.ex0.2 ⟨pre,?_⟩;rw [Pr.star_assoc,Pr.star_assoc];exact Sat.pure.2 ⟨⟨rfl,HP.out,_,rfl,by have:=HCC.out;show ¬cmpI x.key key≤0;omega⟩,h8.sat.perm (by rw [HO.out];simp only [starL,Pr.star_emp,Pr.star_assoc,ItA])⟩
 case done=>
  intro D xs W2 hxs hst hs;unfold FI at hs
  obtain⟨hp9,hs9⟩:=Sat.pure.1 (hs.perm (B:=(Pr.pure (∀y∈xs.map (·.2),cmpI y.key key≤0)).star (starL [Pr.pts D (.deferred (some [])),Pr.pts TB (treeC root height items),Pr.pts KB (.cells #[.slice kak key.length kck] 42),Pr.pts A6 (pairC (.slice none 0 0) (.slice none 0 0)),Pr.pts BB (bestC (xs.getLast?)),Pr.pts FB (.cells #[.bool (xs.getLast?).isSome] 4),bestR (xs.getLast?),Pr.own hk,F,Pr.pts T2 (treeC root height items),Pr.pts V2 (vBox v),Pr.pts R2 (rangeC (.slice none 0 0) (.slice none 0 0) true),VaultA v s,Pr.own hg])) (by simp only [starL,Pr.star_emp,Pr.star_assoc,ItA];ac_rfl))
  clear hs HS1
  have HM:=hQ (show (L.filter (leK key)).getLast?=(xs.getLast?).map (·.2) from by
   rw [← hxs,List.filter_eq_self.2 (fun y hy=>by simp only [leK,decide_eq_true_eq];exact hp9 y hy),List.getLast?_map])
  clear hp9 hxs
  have hs3:OwnL [Pr.pts D (.deferred (some [])),Pr.pts TB (treeC root height items),Pr.pts KB (.cells #[.slice kak key.length kck] 42),Pr.pts A6 (pairC (.slice none 0 0) (.slice none 0 0)),Pr.pts BB (bestC (xs.getLast?)),Pr.pts FB (.cells #[.bool (xs.getLast?).isSome] 4),bestR (xs.getLast?),Pr.own hk,F,VaultA v s,Pr.own hg] W2:=(⟨hs9⟩:OwnL [Pr.pts D (.deferred (some [])),Pr.pts TB (treeC root height items),Pr.pts KB (.cells #[.slice kak key.length kck] 42),Pr.pts A6 (pairC (.slice none 0 0) (.slice none 0 0)),Pr.pts BB (bestC (xs.getLast?)),Pr.pts FB (.cells #[.bool (xs.getLast?).isSome] 4),bestR (xs.getLast?),Pr.own hk,F,Pr.pts T2 (treeC root height items),Pr.pts V2 (vBox v),Pr.pts R2 (rangeC (.slice none 0 0) (.slice none 0 0) true),VaultA v s,Pr.own hg] W2).to
  clear hs9;have HS3:=hQ hs3;have HST3:=hQ (HST.out.trans hst);clear hs3 hst;generalize xs.getLast?=o at*;cases o with
  | none=>
    simp only [bestC,bestR,Option.isSome] at HS3;have c1:=HS3.out.facts;simp only [CellsAt,Nat.reduceAdd,and_true] at c1;go_wp2;have h6:=(HS3.out.set A6 0 (.slice none 0 0)).set A6 1 (.slice none 0 0);have q1:=h6.pull1 (A1:=Pr.pts D (.deferred (some [])));have q2:=OwnL.of0 (q1.putObj (.deferred none)).right
    refine marks_ret1 (D:=D) rfl q1.pts_heap ⟨_,results_cell_tmp_tmp rfl _ _ A6 (.agg #[.slice none 0 0,.slice none 0 0]) (.bool false) (.int .i64 0) rfl (load_pair (q2.pts A6).pts_heap) rfl rfl,((HST3.out.setCell _ _).setCell _ _).putObj _ _,?_⟩;rw [HM.out];have h7:=(q2.to (M:= [VaultA v s,Pr.own hk,Pr.own hg,F])).emp.emp;rw [← Row.nil 5 1] at h7;exact⟨_,_,rfl,h7⟩
  | some z=>
    obtain⟨⟨y1,y2⟩,x⟩:=z;simp only [bestC,bestR,Option.isSome] at HS3;have hsh:OwnL [BytesRow y1 x.key,BytesRow y2 x.value] W2:=⟨((HS3.out.end1 (A1:=rowsOf ((y1,y2),x))).perm (B:=(BytesRow y1 x.key).star ((BytesRow y2 x.value).star Pr.emp)) (by rw [Pr.star_emp];rfl))⟩;obtain⟨ak,ck,rfl⟩:=Row.shape (hsh.pull1 (A1:=BytesRow y1 x.key));obtain⟨av,cv,rfl⟩:=Row.shape (hsh.pull1 (A1:=BytesRow y2 x.value))
    have PA:=hQ (pair_any v s look HH.out.1 x _ _ (HH.out.2 x (List.mem_filter.1 (List.mem_of_getLast? HM.out)).1) _ _ (OwnL.in2 (HS3.out.pull2 (A1:=rowsOf ((.slice ak x.key.length ck,.slice av x.value.length cv),x)) (A2:=VaultA v s))));clear hsh;have c1:=HS3.out.facts;simp only [CellsAt,Nat.reduceAdd,and_true] at c1;go_wp2_with fail
    refine PA.out.mono ?_;rintro e w3 ⟨st3,o,rfl,hs4⟩;have hs5:=hs4.flat;obtain⟨aw,cw,rfl⟩:=Row.shape (hs5.pull1 (A1:=BytesRow o (valK look x)));clear c1;have c1:=hs5.facts;simp only [CellsAt,Nat.reduceAdd,and_true] at c1;have HS5:=hQ hs5;have HST4:=hQ (HST3.out.trans st3);clear hs4 hs5 st3 PA HS3;go_wp2
    have h6:=(HS5.out.set A6 0 (.slice ak x.key.length ck)).set A6 1 (.slice aw (valK look x).length cw);have q1:=h6.pull1 (A1:=Pr.pts D (.deferred (some [])));have q2:=OwnL.of0 (q1.putObj (.deferred none)).right
    refine marks_ret1 (D:=D) rfl q1.pts_heap ⟨_,results_cell_tmp_tmp rfl _ _ A6 (.agg #[.slice ak x.key.length ck,.slice aw (valK look x).length cw]) (.bool true) (.int .i64 0) rfl (load_pair (q2.pts A6).pts_heap) rfl rfl,((HST4.out.setCell _ _).setCell _ _).putObj _ _,?_⟩;rw [HM.out]
    exact⟨_,_,rfl,q2.to (M:= [BytesRow (.slice ak x.key.length ck) x.key,BytesRow (.slice aw (valK look x).length cw) (valK look x),VaultA v s,Pr.own hk,Pr.own hg,F])⟩
 case stop=>
  intro D c pre W2 hpre hst hs;unfold FX at hs;rw [Pr.ex_star,Pr.ex_star] at hs;obtain⟨p,hs8⟩:=Sat.ex0.1 hs
  obtain⟨⟨hc9,hp9,z,hz,hc⟩,hs9⟩:=Sat.pure.1 (hs8.perm (B:=(Pr.pure (c= .exit 0∧(∀y∈p.map (·.2),cmpI y.key key≤0)∧∃x:ItX,pre=p++ [x]∧¬cmpI x.2.key key≤0)).star (starL [Pr.pts D (.deferred (some [])),Pr.pts TB (treeC root height items),Pr.pts KB (.cells #[.slice kak key.length kck] 42),Pr.pts A6 (pairC (.slice none 0 0) (.slice none 0 0)),Pr.pts BB (bestC (p.getLast?)),Pr.pts FB (.cells #[.bool (p.getLast?).isSome] 4),bestR (p.getLast?),Pr.own hk,F,Pr.pts T2 (treeC root height items),Pr.pts V2 (vBox v),Pr.pts R2 (rangeC (.slice none 0 0) (.slice none 0 0) true),VaultA v s,Pr.own hg])) (by simp only [starL,Pr.star_emp,Pr.star_assoc,ItA];ac_rfl))
  clear hs hs8 HS1;subst hc9
  have HM:=hQ (show (L.filter (leK key)).getLast?=(p.getLast?).map (·.2) from by
   rw [hz,List.map_append] at hpre
   rw [floor_cut HC.out.1 hpre hp9 hc,List.getLast?_map])
  clear hp9 hpre hz hc z
  have hs3:OwnL [Pr.pts D (.deferred (some [])),Pr.pts TB (treeC root height items),Pr.pts KB (.cells #[.slice kak key.length kck] 42),Pr.pts A6 (pairC (.slice none 0 0) (.slice none 0 0)),Pr.pts BB (bestC (p.getLast?)),Pr.pts FB (.cells #[.bool (p.getLast?).isSome] 4),bestR (p.getLast?),Pr.own hk,F,VaultA v s,Pr.own hg] W2:=(⟨hs9⟩:OwnL [Pr.pts D (.deferred (some [])),Pr.pts TB (treeC root height items),Pr.pts KB (.cells #[.slice kak key.length kck] 42),Pr.pts A6 (pairC (.slice none 0 0) (.slice none 0 0)),Pr.pts BB (bestC (p.getLast?)),Pr.pts FB (.cells #[.bool (p.getLast?).isSome] 4),bestR (p.getLast?),Pr.own hk,F,Pr.pts T2 (treeC root height items),Pr.pts V2 (vBox v),Pr.pts R2 (rangeC (.slice none 0 0) (.slice none 0 0) true),VaultA v s,Pr.own hg] W2).to
  clear hs9;have HS3:=hQ hs3;have HST3:=hQ (HST.out.trans hst);clear hs3 hst;generalize p.getLast?=o at*;cases o with
  | none=>
    simp only [bestC,bestR,Option.isSome] at HS3;have c1:=HS3.out.facts;simp only [CellsAt,Nat.reduceAdd,and_true] at c1;go_wp2;have h6:=(HS3.out.set A6 0 (.slice none 0 0)).set A6 1 (.slice none 0 0);have q1:=h6.pull1 (A1:=Pr.pts D (.deferred (some [])));have q2:=OwnL.of0 (q1.putObj (.deferred none)).right
    refine marks_ret1 (D:=D) rfl q1.pts_heap ⟨_,results_cell_tmp_tmp rfl _ _ A6 (.agg #[.slice none 0 0,.slice none 0 0]) (.bool false) (.int .i64 0) rfl (load_pair (q2.pts A6).pts_heap) rfl rfl,((HST3.out.setCell _ _).setCell _ _).putObj _ _,?_⟩;rw [HM.out];have h7:=(q2.to (M:= [VaultA v s,Pr.own hk,Pr.own hg,F])).emp.emp;rw [← Row.nil 5 1] at h7;exact⟨_,_,rfl,h7⟩
  | some z=>
    obtain⟨⟨y1,y2⟩,x⟩:=z;simp only [bestC,bestR,Option.isSome] at HS3;have hsh:OwnL [BytesRow y1 x.key,BytesRow y2 x.value] W2:=⟨((HS3.out.end1 (A1:=rowsOf ((y1,y2),x))).perm (B:=(BytesRow y1 x.key).star ((BytesRow y2 x.value).star Pr.emp)) (by rw [Pr.star_emp];rfl))⟩;obtain⟨ak,ck,rfl⟩:=Row.shape (hsh.pull1 (A1:=BytesRow y1 x.key));obtain⟨av,cv,rfl⟩:=Row.shape (hsh.pull1 (A1:=BytesRow y2 x.value))
    have PA:=hQ (pair_any v s look HH.out.1 x _ _ (HH.out.2 x (List.mem_filter.1 (List.mem_of_getLast? HM.out)).1) _ _ (OwnL.in2 (HS3.out.pull2 (A1:=rowsOf ((.slice ak x.key.length ck,.slice av x.value.length cv),x)) (A2:=VaultA v s))));clear hsh;have c1:=HS3.out.facts;simp only [CellsAt,Nat.reduceAdd,and_true] at c1;go_wp2_with fail
    refine PA.out.mono ?_;rintro e w3 ⟨st3,o,rfl,hs4⟩;have hs5:=hs4.flat;obtain⟨aw,cw,rfl⟩:=Row.shape (hs5.pull1 (A1:=BytesRow o (valK look x)));clear c1;have c1:=hs5.facts;simp only [CellsAt,Nat.reduceAdd,and_true] at c1;have HS5:=hQ hs5;have HST4:=hQ (HST3.out.trans st3);clear hs4 hs5 st3 PA HS3;go_wp2
    have h6:=(HS5.out.set A6 0 (.slice ak x.key.length ck)).set A6 1 (.slice aw (valK look x).length cw);have q1:=h6.pull1 (A1:=Pr.pts D (.deferred (some [])));have q2:=OwnL.of0 (q1.putObj (.deferred none)).right
    refine marks_ret1 (D:=D) rfl q1.pts_heap ⟨_,results_cell_tmp_tmp rfl _ _ A6 (.agg #[.slice ak x.key.length ck,.slice aw (valK look x).length cw]) (.bool true) (.int .i64 0) rfl (load_pair (q2.pts A6).pts_heap) rfl rfl,((HST4.out.setCell _ _).setCell _ _).putObj _ _,?_⟩;rw [HM.out]
    exact⟨_,_,rfl,q2.to (M:= [BytesRow (.slice ak x.key.length ck) x.key,BytesRow (.slice aw (valK look x).length cw) (valK look x),VaultA v s,Pr.own hk,Pr.own hg,F])⟩
end Go.Proofs.YtiegeadmgpanoaaGreatDoor.Q8
namespace Go.Cop
theorem stand_key {look:Int→Option PageV}{root height items:Int}{L:List ItemV}(h:StandT look root height items L):∀x∈L,keyR x.key=true∧x.key.length≤24:=by
 intro x hx
 have hk:keyR x.key=true:=by
  rcases h with⟨_,_,_,rfl⟩ | ⟨_,_,lv,_,_,hT⟩
  · cases hx
  · exact(has_lo (tr_has hT x hx).1).2.2
 exact⟨hk,(of_decide_eq_true hk).2⟩
def geK(key:List Int)(x:ItemV):Bool:=decide (0≤cmpI x.key key)
theorem ceil_same {look:Int→Option PageV}{root height items:Int}{L:List ItemV}(h:StandT look root height items L)(key:List Int):(L.filter fun x=>hasR ⟨key,[],true⟩ x.key)=L.filter (geK key):=by
 refine List.filter_congr fun x hx=> ?_
 unfold hasR geK;rw [(stand_key h x hx).1];simp
end Go.Cop
namespace Go.Proofs.YtiegeadmgpanoaaGreatDoor.T8
open ChangeShapes WideShapes ChangeAt RowKit Sl Cop Go.Shelf D2 F3 N3 P3 G2 J2 Q3 V3 G4 K4 X3 M5 P5 U5 W5 N2 P2 L6 S6 J7 N5 S5 K7 V7 Z7 B8 C8 P8 G6 J6 T6 B6 M2 N7 M7 K3 C4 D4 F4 M4 G5 K5 F6 D7 L8 Q7 Q8 N8
attribute [local go_sem] Oper.semAt_some
theorem pairRow_rd {a:Option Addr}{c i:Nat}{zs:List PairX}{F:Pr}{w:World}(h:Sat ((PairRow (.slice a zs.length c) zs).star F) w)(hi:i<zs.length):
 ∃b,a=some ⟨b,0,none⟩∧w.cell? ⟨b,i*2,none⟩=some zs[i].1.1∧w.cell? ⟨b,i*2+1,none⟩=some zs[i].1.2:=by
 obtain⟨a',c',e,_,hc⟩:=Row.read h;cases e;obtain⟨b,eb,hc⟩:=hc (by omega);refine⟨b,eb,?_,?_⟩
 · have h1:=(hc (i*2+0) (by omega)).1
   rw [flat_at pairCells 2 (fun _=>rfl) zs i 0 hi (by omega)] at h1;exact h1
 · have h1:=(hc (i*2+1) (by omega)).1
   rw [flat_at pairCells 2 (fun _=>rfl) zs i 1 hi (by omega)] at h1;exact h1
theorem pairRows_in {zs:List PairX}{a:Hp}{i:Nat}(h:big pairRows zs a)(hi:i<zs.length):Bytes a zs[i].1.1 zs[i].2.1∧Bytes a zs[i].1.2 zs[i].2.2:=by
 rw [big_at pairRows zs i hi] at h;obtain⟨b,c,hb,_,s1,_⟩:=star_sub h;obtain⟨d,e,hd,he,s3,s4⟩:=star_sub (show ((BytesRow zs[i].1.1 zs[i].2.1).star (BytesRow zs[i].1.2 zs[i].2.2)) b from hb);exact⟨((Row.rowIn hd).sub s3).sub s1,((Row.rowIn he).sub s4).sub s1⟩
theorem zs_at(look:Int→Option PageV){zs:List PairX}{L:List ItemV}(h:zs.map (·.2)=L.map (pairK look)){i:Nat}(h1:i<zs.length)(h2:i<L.length):zs[i].2=(L[i].key,valK look L[i]):=by
 have h3:(zs.map (·.2))[i]? =(L.map (pairK look))[i]? :=by rw [h]
 rw [List.getElem?_map,List.getElem?_map,List.getElem?_eq_getElem h1,List.getElem?_eq_getElem h2] at h3;exact Option.some.inj h3
theorem eqb_any(ha hb:Hp)(va vb:Value)(A B:List Int)(h1:Bytes ha va A)(h2:Bytes hb vb B)(hn:A.length≤9000000000000000000)(w:World)(l1:ha.le w)(l2:hb.le w):
 Calls Tryz.prog 16 #[va,vb] w fun e w'=>e= .returned (.bool (cmpI A B == 0))∧Only w w':=by
 have C:=hQ (compare_any ha hb va vb A B h1 h2 hn w l1 l2);obtain⟨a,c,rfl,_⟩:=bytes_rd h1;obtain⟨a',c',rfl,_⟩:=bytes_rd h2;clear h1 h2 l1 l2;go_enter Tryz.func16,Tryz.ntmps16
 go_wp2_with fail
 refine C.out.mono ?_;rintro e w' ⟨rfl,ho⟩;have HO:=hQ ho;clear ho;go_wp2;go_ret;exact⟨rfl,HO.out⟩
theorem eqpair_same(h1 h2:Hp)(a b c d:Value)(A B:List Int)(ha:Bytes h1 a A)(hb:Bytes h1 b B)(hc:Bytes h2 c A)(hd:Bytes h2 d B)(hn:A.length≤9000000000000000000)(hm:B.length≤9000000000000000000)(w:World)(l1:h1.le w)(l2:h2.le w):
 Calls Tryz.prog 19 #[pairV a b,pairV c d] w fun e w'=>e= .returned (.bool true)∧Only w w':=by
 have ho0:=((Only.refl w).alloc (pairC a b)).alloc (pairC c d);have C1:=hQ (fun wx (ho:Only w wx)=>eq_same h1 h2 a c A ha hc hn wx (l1.only ho) (l2.only ho));have C2:=hQ (fun wx (ho:Only w wx)=>eq_same h1 h2 b d B hb hd hm wx (l1.only ho) (l2.only ho));obtain⟨p1,q1,rfl⟩:=bytes_shape ha;obtain⟨p2,q2,rfl⟩:=bytes_shape hb;obtain⟨p3,q3,rfl⟩:=bytes_shape hc;obtain⟨p4,q4,rfl⟩:=bytes_shape hd
 have HO0:=hQ ho0;clear ha hb hc hd l1 l2 ho0;go_enter Tryz.func19,Tryz.ntmps19
 go_wp2_with fail
 refine(C1.out _ HO0.out).mono ?_;rintro e w1 ⟨rfl,ho1⟩;have c0:=World.cell?_alloc_new;have k1:w1.cell? ⟨w.heap.size,1,none⟩=some (.slice p2 B.length q2):=ho1.cell (by go_simp);have k2:w1.cell? ⟨w.heap.size+1,1,none⟩=some (.slice p4 B.length q4):=ho1.cell (by go_simp);have HO1:=hQ (HO0.out.trans ho1);clear ho1 c0;go_wp2_with fail
 refine(C2.out _ HO1.out).mono ?_;rintro e w2 ⟨rfl,ho2⟩;have HO2:=hQ (HO1.out.trans ho2);clear ho2;go_wp2;go_ret;exact⟨rfl,HO2.out⟩
theorem rget_any(r:Nat)(s:PoolS)(gs:List PageV)(hush:RTail)(x0:RX)(ok0:ROk s gs x0)(look:Int→Option PageV)(hl:RLooks s gs look)(okp:PgsOk look)(root height items:Int)(L:List ItemV)(hT:StandT look root height items L)(kv:Value)(key:List Int)(hk:Hp)(hkv:Bytes hk kv key)(F:Pr)(w:World)(hF:OwnL [RefAt r s gs hush x0,Pr.own hk,F] w):
 Calls Tryz.prog 15 #[.pointer (some ⟨r,0,none⟩),treeV root height items,kv] w fun e w'=>Stays w w'∧∃o,e= .returned (.tuple #[o,.bool (getB L key),.int .i64 (getE key)])∧OwnL [BytesRow o (getV look L key),RefAt r s gs hush x0,Pr.own hk,F] w':=by
 obtain⟨kak,kck,rfl⟩:=bytes_shape hkv;have hs0:=hF.alloc (treeC root height items);have c1:=hs0.facts;simp only [CellsAt,Nat.reduceAdd,and_true] at c1;have HST:=hQ ((Stays.refl w).alloc (treeC root height items));by_cases hkr:keyR key=true
 · have hkr2:1≤key.length∧key.length≤24:=of_decide_eq_true hkr
   have hk1:¬(key.length:Int)<1:=by omega
   have hk2:¬24<(key.length:Int):=by omega
   have AL:=hQ (rall_any r s gs hush x0 ok0 look hl okp root height items L hT _ _ (OwnL.in1 (hs0.pull1 (A1:=RefAt r s gs hush x0))));have HKV:=hQ hkv;clear hF hs0 hkv hl ok0;go_enter Tryz.func15,Tryz.ntmps15
   go_wp2_with fail
   refine AL.out.mono ?_;rintro e w1 ⟨st1,ov,zs,rfl,hzs,hs1⟩;have hs2:=hs1.flat;obtain⟨ao,co,rfl⟩:=Row.shape (hs2.pull1 (A1:=PairRow ov zs));have hzl:zs.length=L.length:=by have:=congrArg List.length hzs;simpa using this
   have hlen2:(zs.length:Int)≤68719476736:=by have:=stand_len okp hT;omega
   have ROW:=hQ (fun i (h:i<zs.length)=>pairRow_rd (hs2.pull1 (A1:=PairRow (.slice ao zs.length co) zs)) h);obtain⟨ax,hax,hsA⟩:=hs2.arena (big pairRows zs);have BY:=hQ (fun i (h:i<zs.length)=>pairRows_in hax h);have LE:=hQ (And.intro (hsA.le (a:=ax)) (hsA.le (a:=hk)));have ZI:=hQ (fun i (h:i<zs.length) (h2:i<L.length)=>zs_at look hzs h h2);have HST1:=hQ (HST.out.trans st1);have HSA:=hQ hsA
   have HAX:=hQ hax;clear c1;have c1:=hsA.facts;simp only [CellsAt,Nat.reduceAdd,and_true] at c1;clear hs1 hs2 hsA hax st1 AL HST hzs;have HFA:=hQ (show ∀x∈L,x.key.length≤24 from fun x hx=>(stand_key hT x hx).2);have HKR:=hQ hkr;have HZL:=hQ hzl;clear okp hT hkr hkr2 hzl;go_wp2
   go_loopg [10] zs.length (fun k i wr=> ∃q:Nat,q+k=zs.length∧i= .int .i64 q∧Hid (findK key L=findK key (L.drop q))∧Only w1 wr)
   case atStart=>exact⟨0,Nat.zero_add _,rfl,hQ (by rw [List.drop_zero]),Only.refl _⟩
   case round=>
    obtain⟨q,hqk,rfl,hinv,ho⟩:=hrel;rename World=>wr
    clear c1;have HO:=hQ ho;rcases Nat.lt_or_ge q zs.length with hlt | hge
    · obtain⟨k0,hk0⟩:∃k0,k0+1=gk:=⟨gk-1,by omega⟩
      obtain⟨b,rfl,d0,d1⟩:=ROW.out q hlt;have hlt2:q<L.length:=by have:=HZL.out;omega
      have hqi:(q:Int)<(zs.length:Int):=by omega
      obtain⟨b1,b2⟩:=BY.out q hlt;have hz:=ZI.out q hlt hlt2;have hx24:=HFA.out _ (List.getElem_mem hlt2);have hdr:L.drop q=L[q] :: L.drop (q+1):=List.drop_eq_getElem_cons hlt2;rw [hdr] at hinv;rw [hz] at b1 b2;have e0:=ho.cell d0;have e1:=ho.cell d1;have zb:=World.block_lt_of_cell? _ _ e0
      have TK:=hQ (fun(wz:World) (hoz:Only w1 wz)=>(show OwnL (pairRows zs[q] :: _) wz from((show OwnL (Pr.own ax :: _) wz from⟨(HSA.out.pull1 (A1:=Pr.own ax)).only hoz⟩).back (big pairRows zs) HAX.out).take pairRows zs q hlt));have hpr:pairRows zs[q]=(BytesRow zs[q].1.1 zs[q].2.1).star (BytesRow zs[q].1.2 zs[q].2.2):=rfl;rw [hpr,hz] at TK;generalize L[q]=x at*;generalize zs[q].1=y at*
      obtain⟨y1,y2⟩:=y;dsimp only at b1 b2 e0 e1 TK;obtain⟨k1a,k1c,rfl⟩:=bytes_shape b1;obtain⟨k2a,k2c,rfl⟩:=bytes_shape b2;have EQ:=hQ (eqb_any ax hk _ _ x.key key b1 HKV.out (by omega) wr (LE.out.1.only ho) (LE.out.2.only ho));clear b1 b2 d0 d1 hz hpr hdr ho;go_wp2_with fail
      refine EQ.out.mono ?_;rintro e w3 ⟨rfl,ho3⟩;have e0':=ho3.cell e0;have e1':=ho3.cell e1;have zb':=World.block_lt_of_cell? _ _ e0';have HO3:=hQ (HO.out.trans ho3);clear ho3 EQ e0 e1 zb;by_cases hc:cmpI x.key key=0
      · have hcb:(cmpI x.key key == 0)=true:=by rw [hc];rfl
        have HF:=hQ (show findK key L=some x from by rw [hinv.out];unfold findK;rw [List.find?_cons,hcb]);rw [hcb];clear hcb hc hinv;go_wp2;go_ret3
        obtain⟨g1,g2,g3⟩:=get_some look (L:=L) HKR.out HF.out;rw [g1,g2,g3];exact⟨HST1.out.trans HO3.out.st,.slice k2a (valK look x).length k2c,rfl,(TK.out _ HO3.out).norm.to⟩
      · have hcb:(cmpI x.key key == 0)=false:=by rw [beq_eq_false_iff_ne];exact hc
        have HF:=hQ (show findK key L=findK key (L.drop (q+1)) from by rw [hinv.out];unfold findK;rw [List.find?_cons,hcb]);rw [hcb];clear hcb hc hinv;go_wp2;go_roundg k0
        case measure=>omega
        case rel=>exact⟨q+1,by omega,congrArg (Value.int .i64) (by omega),HF,HO3.out⟩
    · have hqi:¬(q:Int)<(zs.length:Int):=by omega
      have HF:=hQ (show findK key L=none from by rw [hinv.out,List.drop_eq_nil_of_le (by have:=HZL.out;omega)];rfl);clear ho hinv;go_wp2;go_ret3
      obtain⟨g1,g2,g3⟩:=get_none look (L:=L) HKR.out HF.out;rw [g1,g2,g3];have h1:OwnL (Pr.own ax :: _) wr:=⟨(HSA.out.pull1 (A1:=Pr.own ax)).only HO.out⟩;have h2:=(h1.to (M:= [RefAt r s gs hush x0,Pr.own hk,F])).emp;rw [← Row.nil 5 1] at h2;exact⟨HST1.out.trans HO.out.st,.slice none 0 0,rfl,h2⟩
 · have hkr1:keyR key=false:=by simpa using hkr
   have HKR:=hQ hkr1;have h1:=(hs0.to (M:= [RefAt r s gs hush x0,Pr.own hk,F])).emp;rw [← Row.nil 5 1] at h1;have HE:=hQ h1
   have hkb:(key.length:Int)<1∨24<(key.length:Int):=by
    unfold keyR at hkr;have:=of_decide_eq_false (p:=1≤key.length∧key.length≤24) (by simpa using hkr)
    omega
   clear hF hs0 hkv hl ok0 hkr hkr1 h1;obtain⟨g1,g2,g3⟩:=get_bad look L HKR.out;rw [g1,g2,g3];clear g1 g2 g3;by_cases hk1:(key.length:Int)<1
   · go_enter Tryz.func15,Tryz.ntmps15
     go_wp2;go_ret3
     exact⟨HST.out,.slice none 0 0,rfl,HE.out⟩
   · have hk2:24<(key.length:Int):=by omega
     go_enter Tryz.func15,Tryz.ntmps15
     go_wp2;go_ret3
     exact⟨HST.out,.slice none 0 0,rfl,HE.out⟩
theorem rceil_any(r:Nat)(s:PoolS)(gs:List PageV)(hush:RTail)(x0:RX)(ok0:ROk s gs x0)(look:Int→Option PageV)(hl:RLooks s gs look)(okp:PgsOk look)(root height items:Int)(L:List ItemV)(hT:StandT look root height items L)(kv:Value)(key:List Int)(hk:Hp)(hkv:Bytes hk kv key)(F:Pr)(w:World)(hF:OwnL [RefAt r s gs hush x0,Pr.own hk,F] w):
 Calls Tryz.prog 18 #[.pointer (some ⟨r,0,none⟩),treeV root height items,kv] w fun e w'=>Stays w w'∧∃a b,e= .returned (.tuple #[pairV a b,.bool ((L.filter (geK key)).head?).isSome,.int .i64 0])∧OwnL [BytesRow a (optK (L.filter (geK key)).head?),BytesRow b (optV look (L.filter (geK key)).head?),RefAt r s gs hush x0,Pr.own hk,F] w':=by
 obtain⟨kak,kck,rfl⟩:=bytes_shape hkv;obtain⟨hs0,_⟩:=(hF.alloc (treeC root height items)).fresh [.slice none 0 0,.slice none 0 0] 49 (w.heap.size+1) (by simp);have c1:=hs0.facts;simp only [CellsAt,Nat.reduceAdd,and_true] at c1;have HST:=hQ (((Stays.refl w).alloc (treeC root height items)).alloc (.cells [Value.slice none 0 0,.slice none 0 0].toArray 49))
 have AL:=hQ (rall_any r s gs hush x0 ok0 look hl okp root height items L hT _ _ (OwnL.in1 (hs0.pull1 (A1:=RefAt r s gs hush x0))));have HKV:=hQ hkv;clear hF hs0 hkv hl ok0;obtain⟨O,hO⟩:∃O,O=(L.filter (geK key)).head?:=⟨_,rfl⟩;rw [← hO];have HOU:=hQ hO;clear hO;go_enter Tryz.func18,Tryz.ntmps18
 go_wp2_with fail
 refine AL.out.mono ?_;rintro e w1 ⟨st1,ov,zs,rfl,hzs,hs1⟩;have hs2:=hs1.flat;obtain⟨ao,co,rfl⟩:=Row.shape (hs2.pull1 (A1:=PairRow ov zs));have hzl:zs.length=L.length:=by have:=congrArg List.length hzs;simpa using this
 have hlen2:(zs.length:Int)≤68719476736:=by have:=stand_len okp hT;omega
 have ROW:=hQ (fun i (h:i<zs.length)=>pairRow_rd (hs2.pull1 (A1:=PairRow (.slice ao zs.length co) zs)) h);obtain⟨ax,hax,hsA⟩:=hs2.arena (big pairRows zs);have BY:=hQ (fun i (h:i<zs.length)=>pairRows_in hax h);have LE:=hQ (And.intro (hsA.le (a:=ax)) (hsA.le (a:=hk)));have ZI:=hQ (fun i (h:i<zs.length) (h2:i<L.length)=>zs_at look hzs h h2);have HST1:=hQ (HST.out.trans st1);have HSA:=hQ hsA
 have HAX:=hQ hax;clear c1;have c1:=hsA.facts;simp only [CellsAt,Nat.reduceAdd,and_true] at c1;clear hs1 hs2 hsA hax st1 AL HST hzs;have HFA:=hQ (show ∀x∈L,x.key.length≤24 from fun x hx=>(stand_key hT x hx).2);have HZL:=hQ hzl;clear okp hT hzl;generalize w.heap.size+1=A6 at*;go_wp2
 go_loopg [10] zs.length (fun k i wr=> ∃q:Nat,q+k=zs.length∧i= .int .i64 q∧Hid (L.filter (geK key)=(L.drop q).filter (geK key))∧Only w1 wr)
 case atStart=>exact⟨0,Nat.zero_add _,rfl,hQ (by rw [List.drop_zero]),Only.refl _⟩
 case round=>
  obtain⟨q,hqk,rfl,hinv,ho⟩:=hrel;rename World=>wr
  clear c1;have HO:=hQ ho;rcases Nat.lt_or_ge q zs.length with hlt | hge
  · obtain⟨k0,hk0⟩:∃k0,k0+1=gk:=⟨gk-1,by omega⟩
    obtain⟨b,rfl,d0,d1⟩:=ROW.out q hlt;have hlt2:q<L.length:=by have:=HZL.out;omega
    have hqi:(q:Int)<(zs.length:Int):=by omega
    obtain⟨b1,b2⟩:=BY.out q hlt;have hz:=ZI.out q hlt hlt2;have hx24:=HFA.out _ (List.getElem_mem hlt2);have hdr:L.drop q=L[q] :: L.drop (q+1):=List.drop_eq_getElem_cons hlt2;rw [hdr] at hinv;rw [hz] at b1 b2;have e0:=ho.cell d0;have e1:=ho.cell d1;have zb:=World.block_lt_of_cell? _ _ e0;have hsX:OwnL (Pr.own ax :: _) wr:=⟨(HSA.out.pull1 (A1:=Pr.own ax)).only ho⟩;have c1:=hsX.facts
    simp only [CellsAt,Nat.reduceAdd,and_true] at c1;have TK:=hQ (fun(wz:World) (hoz:Only w1 wz)=>(show OwnL (pairRows zs[q] :: _) wz from((show OwnL (Pr.own ax :: _) wz from⟨(HSA.out.pull1 (A1:=Pr.own ax)).only hoz⟩).back (big pairRows zs) HAX.out).take pairRows zs q hlt));have hpr:pairRows zs[q]=(BytesRow zs[q].1.1 zs[q].2.1).star (BytesRow zs[q].1.2 zs[q].2.2):=rfl;rw [hpr,hz] at TK
    generalize L[q]=x at*;generalize zs[q].1=y at*;obtain⟨y1,y2⟩:=y;dsimp only at b1 b2 e0 e1 TK;obtain⟨k1a,k1c,rfl⟩:=bytes_shape b1;obtain⟨k2a,k2c,rfl⟩:=bytes_shape b2;have EQ:=hQ (compare_any ax hk _ _ x.key key b1 HKV.out (by omega) wr (LE.out.1.only ho) (LE.out.2.only ho));clear b1 b2 d0 d1 hz hpr hdr ho hsX;go_wp2_with fail
    refine EQ.out.mono ?_;rintro e w3 ⟨rfl,ho3⟩;have e0':=ho3.cell e0;have e1':=ho3.cell e1;have zb':=World.block_lt_of_cell? _ _ e0';have HO3:=hQ (HO.out.trans ho3);clear ho3 EQ e0 e1 zb c1;have hs3:=TK.out _ HO3.out;have c1:=hs3.facts;simp only [CellsAt,Nat.reduceAdd,and_true] at c1;have HS3:=hQ hs3;clear hs3 TK;by_cases hc:0≤cmpI x.key key
    · have HF:=hQ (show O=some x from by rw [HOU.out,hinv.out];simp [geK,hc])
      have HCC:=hQ hc;clear hinv;go_wp2;have h6:=(HS3.out.norm.set A6 0 (.slice k1a x.key.length k1c)).set A6 1 (.slice k2a (valK look x).length k2c);refine bodyPost_ret (results_cell_tmp_tmp rfl _ _ A6 (.agg #[.slice k1a x.key.length k1c,.slice k2a (valK look x).length k2c]) (.bool true) (.int .i64 0) rfl (load_pair (h6.pts A6).pts_heap) rfl rfl) rfl ?_;rw [HF.out]
      exact⟨((HST1.out.trans HO3.out.st).setCell _ _).setCell _ _,.slice k1a x.key.length k1c,.slice k2a (valK look x).length k2c,rfl,h6.to (M:= [BytesRow (.slice k1a x.key.length k1c) x.key,BytesRow (.slice k2a (valK look x).length k2c) (valK look x),RefAt r s gs hush x0,Pr.own hk,F])⟩
    · have HF:=hQ (show L.filter (geK key)=(L.drop (q+1)).filter (geK key) from by rw [hinv.out];simp [geK,hc])
      have HCC:=hQ hc;clear hinv;go_wp2;go_roundg k0
      case measure=>omega
      case rel=>exact⟨q+1,by omega,congrArg (Value.int .i64) (by omega),HF,HO3.out⟩
  · have hqi:¬(q:Int)<(zs.length:Int):=by omega
    have HF:=hQ (show O=none from by rw [HOU.out,hinv.out];rw [List.drop_eq_nil_of_le (by have:=HZL.out;omega)];rfl);have hsX:OwnL (Pr.own ax :: _) wr:=⟨(HSA.out.pull1 (A1:=Pr.own ax)).only HO.out⟩;have c1:=hsX.facts;simp only [CellsAt,Nat.reduceAdd,and_true] at c1;have HSX:=hQ hsX;clear ho hinv hsX;go_wp2;have h6:=(HSX.out.set A6 0 (.slice none 0 0)).set A6 1 (.slice none 0 0)
    refine bodyPost_ret (results_cell_tmp_tmp rfl _ _ A6 (.agg #[.slice none 0 0,.slice none 0 0]) (.bool false) (.int .i64 0) rfl (load_pair (h6.pts A6).pts_heap) rfl rfl) rfl ?_;rw [HF.out];have h7:=(h6.to (M:= [RefAt r s gs hush x0,Pr.own hk,F])).emp.emp;rw [← Row.nil 5 1] at h7;exact⟨((HST1.out.trans HO.out.st).setCell _ _).setCell _ _,_,_,rfl,h7⟩
theorem rfloor_any(r:Nat)(s:PoolS)(gs:List PageV)(hush:RTail)(x0:RX)(ok0:ROk s gs x0)(look:Int→Option PageV)(hl:RLooks s gs look)(okp:PgsOk look)(root height items:Int)(L:List ItemV)(hT:StandT look root height items L)(kv:Value)(key:List Int)(hk:Hp)(hkv:Bytes hk kv key)(F:Pr)(w:World)(hF:OwnL [RefAt r s gs hush x0,Pr.own hk,F] w):
 Calls Tryz.prog 21 #[.pointer (some ⟨r,0,none⟩),treeV root height items,kv] w fun e w'=>Stays w w'∧∃a b,e= .returned (.tuple #[pairV a b,.bool ((L.filter (leK key)).getLast?).isSome,.int .i64 0])∧OwnL [BytesRow a (optK (L.filter (leK key)).getLast?),BytesRow b (optV look (L.filter (leK key)).getLast?),RefAt r s gs hush x0,Pr.own hk,F] w':=by
 obtain⟨kak,kck,rfl⟩:=bytes_shape hkv;obtain⟨hs0,_⟩:=(hF.alloc (treeC root height items)).fresh [.slice none 0 0,.slice none 0 0] 49 (w.heap.size+1) (by simp);have c1:=hs0.facts;simp only [CellsAt,Nat.reduceAdd,and_true] at c1;have HST:=hQ (((Stays.refl w).alloc (treeC root height items)).alloc (.cells [Value.slice none 0 0,.slice none 0 0].toArray 49))
 have AL:=hQ (rall_any r s gs hush x0 ok0 look hl okp root height items L hT _ _ (OwnL.in1 (hs0.pull1 (A1:=RefAt r s gs hush x0))));have HKV:=hQ hkv;clear hF hs0 hkv hl ok0;obtain⟨O,hO⟩:∃O,O=(L.filter (leK key)).getLast?:=⟨_,rfl⟩;rw [← hO];have HOU:=hQ hO;clear hO;go_enter Tryz.func21,Tryz.ntmps21
 go_wp2_with fail
 refine AL.out.mono ?_;rintro e w1 ⟨st1,ov,zs,rfl,hzs,hs1⟩;have hs2:=hs1.flat;obtain⟨ao,co,rfl⟩:=Row.shape (hs2.pull1 (A1:=PairRow ov zs));have hzl:zs.length=L.length:=by have:=congrArg List.length hzs;simpa using this
 have hlen2:(zs.length:Int)≤68719476736:=by have:=stand_len okp hT;omega
 have ROW:=hQ (fun i (h:i<zs.length)=>pairRow_rd (hs2.pull1 (A1:=PairRow (.slice ao zs.length co) zs)) h);obtain⟨ax,hax,hsA⟩:=hs2.arena (big pairRows zs);have BY:=hQ (fun i (h:i<zs.length)=>pairRows_in hax h);have LE:=hQ (And.intro (hsA.le (a:=ax)) (hsA.le (a:=hk)));have ZI:=hQ (fun i (h:i<zs.length) (h2:i<L.length)=>zs_at look hzs h h2);have HST1:=hQ (HST.out.trans st1);have HSA:=hQ hsA
 have HAX:=hQ hax;clear c1;have c1:=hsA.facts;simp only [CellsAt,Nat.reduceAdd,and_true] at c1;clear hs1 hs2 hsA hax st1 AL HST hzs;have HFA:=hQ (show ∀x∈L,x.key.length≤24 from fun x hx=>(stand_key hT x hx).2);have HZL:=hQ hzl;clear okp hT hzl;generalize w.heap.size+1=A6 at*;go_wp2
 go_loopg [10] zs.length (fun k i wr=>k≤zs.length∧i= .int .i64 ((k:Int)-1)∧Hid (L.filter (leK key)=(L.take k).filter (leK key))∧Only w1 wr)
 case atStart=>exact⟨Nat.le_refl _,rfl,hQ (by rw [List.take_of_length_le (by have:=HZL.out;omega)]),Only.refl _⟩
 case round=>
  obtain⟨hqk,rfl,hinv,ho⟩:=hrel;rename World=>wr
  clear c1;have HO:=hQ ho
  obtain⟨q,hgq⟩ | hgz:(∃q,gk=q+1)∨gk=0:=by
   cases gk with
   | zero=>exact .inr rfl
   | succ q=>exact .inl ⟨q,rfl⟩
  all_goals first | subst hgq | subst hgz
  · have hlt:q<zs.length:=by omega
    have hq1:((q+1:Nat):Int)-1=(q:Int):=by omega
    rw [hq1];obtain⟨k0,hk0⟩:∃k0,k0=q:=⟨q,rfl⟩;obtain⟨b,rfl,d0,d1⟩:=ROW.out q hlt;have hlt2:q<L.length:=by have:=HZL.out;omega
    have hqi:(q:Int)<(zs.length:Int):=by omega
    obtain⟨b1,b2⟩:=BY.out q hlt;have hz:=ZI.out q hlt hlt2;have hx24:=HFA.out _ (List.getElem_mem hlt2);have hdr:L.take (q+1)=L.take q++ [L[q]]:=by rw [List.take_succ_eq_append_getElem hlt2]
    rw [hdr] at hinv;rw [hz] at b1 b2;have e0:=ho.cell d0;have e1:=ho.cell d1;have zb:=World.block_lt_of_cell? _ _ e0;have hsX:OwnL (Pr.own ax :: _) wr:=⟨(HSA.out.pull1 (A1:=Pr.own ax)).only ho⟩;have c1:=hsX.facts;simp only [CellsAt,Nat.reduceAdd,and_true] at c1
    have TK:=hQ (fun(wz:World) (hoz:Only w1 wz)=>(show OwnL (pairRows zs[q] :: _) wz from((show OwnL (Pr.own ax :: _) wz from⟨(HSA.out.pull1 (A1:=Pr.own ax)).only hoz⟩).back (big pairRows zs) HAX.out).take pairRows zs q hlt));have hpr:pairRows zs[q]=(BytesRow zs[q].1.1 zs[q].2.1).star (BytesRow zs[q].1.2 zs[q].2.2):=rfl;rw [hpr,hz] at TK;generalize L[q]=x at*;generalize zs[q].1=y at*
    obtain⟨y1,y2⟩:=y;dsimp only at b1 b2 e0 e1 TK;obtain⟨k1a,k1c,rfl⟩:=bytes_shape b1;obtain⟨k2a,k2c,rfl⟩:=bytes_shape b2;have EQ:=hQ (compare_any ax hk _ _ x.key key b1 HKV.out (by omega) wr (LE.out.1.only ho) (LE.out.2.only ho));clear b1 b2 d0 d1 hz hpr hdr ho hsX;go_wp2_with fail
    refine EQ.out.mono ?_;rintro e w3 ⟨rfl,ho3⟩;have e0':=ho3.cell e0;have e1':=ho3.cell e1;have zb':=World.block_lt_of_cell? _ _ e0';have HO3:=hQ (HO.out.trans ho3);clear ho3 EQ e0 e1 zb c1;have hs3:=TK.out _ HO3.out;have c1:=hs3.facts;simp only [CellsAt,Nat.reduceAdd,and_true] at c1;have HS3:=hQ hs3;clear hs3 TK;by_cases hc:cmpI x.key key≤0
    · have HF:=hQ (show O=some x from by rw [HOU.out,hinv.out];simp [leK,List.filter_append,List.getLast?_append,hc])
      have HCC:=hQ hc;clear hinv;go_wp2;have h6:=(HS3.out.norm.set A6 0 (.slice k1a x.key.length k1c)).set A6 1 (.slice k2a (valK look x).length k2c);refine bodyPost_ret (results_cell_tmp_tmp rfl _ _ A6 (.agg #[.slice k1a x.key.length k1c,.slice k2a (valK look x).length k2c]) (.bool true) (.int .i64 0) rfl (load_pair (h6.pts A6).pts_heap) rfl rfl) rfl ?_;rw [HF.out]
      exact⟨((HST1.out.trans HO3.out.st).setCell _ _).setCell _ _,.slice k1a x.key.length k1c,.slice k2a (valK look x).length k2c,rfl,h6.to (M:= [BytesRow (.slice k1a x.key.length k1c) x.key,BytesRow (.slice k2a (valK look x).length k2c) (valK look x),RefAt r s gs hush x0,Pr.own hk,F])⟩
    · have HF:=hQ (show L.filter (leK key)=(L.take q).filter (leK key) from by rw [hinv.out];simp [leK,List.filter_append,hc])
      have HCC:=hQ hc;clear hinv;go_wp2;go_roundg k0
      case measure=>omega
      case rel=>exact⟨by omega,by subst hk0;rfl,hk0 ▸ HF,HO3.out⟩
  · rw [show ((0:Nat):Int)-1= -1 from rfl]
    have HF:=hQ (show O=none from by rw [HOU.out,hinv.out];rfl);have hsX:OwnL (Pr.own ax :: _) wr:=⟨(HSA.out.pull1 (A1:=Pr.own ax)).only HO.out⟩;have c1:=hsX.facts;simp only [CellsAt,Nat.reduceAdd,and_true] at c1;have HSX:=hQ hsX;clear ho hinv hsX;go_wp2;have h6:=(HSX.out.set A6 0 (.slice none 0 0)).set A6 1 (.slice none 0 0)
    refine bodyPost_ret (results_cell_tmp_tmp rfl _ _ A6 (.agg #[.slice none 0 0,.slice none 0 0]) (.bool false) (.int .i64 0) rfl (load_pair (h6.pts A6).pts_heap) rfl rfl) rfl ?_;rw [HF.out];have h7:=(h6.to (M:= [RefAt r s gs hush x0,Pr.own hk,F])).emp.emp;rw [← Row.nil 5 1] at h7;exact⟨((HST1.out.trans HO.out.st).setCell _ _).setCell _ _,_,_,rfl,h7⟩
end Go.Proofs.YtiegeadmgpanoaaGreatDoor.T8
namespace Go.Cop
theorem chainL_len {look:Int→Option PageV}{N:Nat}:∀(k:Nat) (out:List Int) (n:Int),out.length≤N→(chainL look N k out n).1.length≤N
 | 0,out,n,h=>h
 | k+1,out,n,h=>by
   unfold chainL;split
   · exact h
   · cases look n with
     | none=>exact Nat.zero_le _
     | some g=>
       dsimp only;split
       · exact Nat.zero_le _
       · split
         · rename_i h1 _ h2
           refine chainL_len k _ _ ?_;rw [List.length_append];have:=h2.1
           omega
         · exact Nat.zero_le _
theorem value_len(look:Int→Option PageV)(size child:Int)(value:List Int):(valueL look size child value).1.length≤3840:=by
 unfold valueL;by_cases hb:size<0∨3840<size∨(size≤32∧(value.length:Int)≠size)
 · rw [if_pos hb];exact Nat.zero_le _
 · rw [if_neg hb]
   by_cases h32:size≤32
   · rw [if_pos h32];show value.length≤3840;omega
   · rw [if_neg h32]
     have:=chainL_len (look:=look) (N:=size.toNat) size.toNat [] child (Nat.zero_le _)
     omega
theorem getV_len(look:Int→Option PageV)(L:List ItemV)(key:List Int):(getV look L key).length≤3840:=by
 unfold getV;split
 · split
   · exact value_len _ _ _ _
   · exact Nat.zero_le _
 · exact Nat.zero_le _
theorem optV_len(look:Int→Option PageV)(o:Option ItemV):(optV look o).length≤3840:=by
 cases o with
 | none=>exact Nat.zero_le _
 | some x=>exact value_len _ _ _ _
theorem optK_len {look:Int→Option PageV}{root height items:Int}{L:List ItemV}(h:StandT look root height items L)(o:Option ItemV)(ho:∀x,o=some x→x∈L):(optK o).length≤24:=by
 cases o with
 | none=>exact Nat.zero_le _
 | some x=>exact(stand_key h x (ho x rfl)).2
end Go.Cop
