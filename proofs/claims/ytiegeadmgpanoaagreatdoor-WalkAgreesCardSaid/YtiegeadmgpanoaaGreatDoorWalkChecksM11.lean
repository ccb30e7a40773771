/- What Check tells of a tree: what stands in it, in which order. No program in sight. -/
import Derived.Test.YtiegeadmgpanoaaGreatDoorWalkChecksM10
set_option maxRecDepth 100000
set_option maxHeartbeats 16000000
namespace Go.Cop
structure PgsOk(look:Int→Option PageV):Prop where
 chk:∀n g,look n=some g→checkP g=0
 u8:∀n g,look n=some g→∀x∈g.items,U8 x.key
inductive TrK (look : Int → Option PageV) : Nat → Int → RangeV → List ItemV → Prop where
  | leaf (n : Int) (r : RangeV) (g : PageV) : look n = some g → g.kind = 1 → (∀ x ∈ g.items, hasR r x.key = true ∧ (valueL look x.size x.child x.value).2 = 0) → TrK look 0 n r g.items
  | index (lv : Nat) (n : Int) (r : RangeV) (g : PageV) (LL : List (List ItemV)) : look n = some g → g.kind = 2 → g.level = (lv : Int) + 1 → LL.length = g.items.length →
      (∀ i (h : i < LL.length), TrK look lv (itemAt g.items i).child (meetR r (ownR g.items i)) LL[i]) → TrK look (lv + 1) n r LL.flatten
theorem fold_list {α:Type}{step:Nat→MetS→Int × MetS}{P:Nat→List α→Prop}(hs:∀i s s',step i s=(0,s')→∃L,P i L∧s'.2=s.2+(L.length:Int)):
 ∀(k i:Nat) (s s':MetS),foldK step i k s=(0,s')→∃LL:List (List α),LL.length=k∧(∀j (h:j<LL.length),P (i+j) LL[j])∧s'.2=s.2+(LL.flatten.length:Int)
 | 0,i,s,s',h=>by
   cases h;exact⟨[],rfl,fun j h=>absurd h (Nat.not_lt_zero j),by simp⟩
 | k+1,i,s,s',h=>by
   unfold foldK at h;split at h
   · rename_i h1
     exact absurd (by rw [h]) h1
   · rename_i h1
     obtain⟨L,hL,e1⟩:=hs i s (step i s).2 (Prod.ext (by simpa using h1) rfl);obtain⟨LL,h2,h3,e2⟩:=fold_list hs k (i+1) _ _ h;refine⟨L :: LL,by simp [h2],fun j hj=> ?_,?_⟩
     · cases j with
       | zero=>exact hL
       | succ j=>
         have:=h3 j (by simpa using hj)
         rw [show i+1+j=i+(j+1) by omega] at this;simpa using this
     · rw [e2,e1]
       simp only [List.flatten_cons,List.length_append];omega
theorem chain_load(look:Int→Option PageV)(size:Nat):∀(f:Nat) (lack:Int) (n:Int) (M M':List Int) (out:List Int) (k:Nat),chainK look f lack n M=(0,M')→0≤lack→lack.toNat≤f→lack.toNat≤k→(out.length:Int)+lack=size→(chainL look size k out n).2=0
 | 0,lack,n,M,M',out,k,_,h0,hf,_,hs=>by rw [chain_end' (by omega)]
 | f+1,lack,n,M,M',out,k,h,h0,hf,hk,hs=>by
   by_cases hz:lack≤0
   · rw [chain_end' (by omega)]
   · obtain⟨k,rfl⟩:∃q,k=q+1:=⟨k-1,by omega⟩
     unfold chainK at h;rw [if_neg hz] at h;have hle:enterK look M n=none∨enterK look M n=look n:=by unfold enterK;split<;>simp
     cases he:enterK look M n with
     | none=>rw [he] at h;cases h
     | some g=>
       rw [he] at h
       have hl:look n=some g:=by
        rcases hle with e | e
        · rw [e] at he;cases he
        · rw [← e,he]
       simp only at h;by_cases hk3:g.kind≠3
       · rw [if_pos hk3] at h;cases h
       · rw [if_neg hk3] at h
         by_cases hd:(g.data.length:Int)≠min lack 480∨¬(g.next=0↔lack≤480)
         · rw [if_pos hd] at h;cases h
         · rw [if_neg hd] at h
           have hd1:(g.data.length:Int)=min lack 480:=Classical.byContradiction fun e=>hd (.inl e)
           have hd2:g.next=0↔lack≤480:=Classical.byContradiction fun e=>hd (.inr e)
           unfold chainL;rw [if_neg (by omega),hl];simp only;rw [if_neg hk3,if_pos ⟨by omega,by rw [hd2];omega⟩];exact chain_load look size f _ _ _ M' _ _ h (by omega) (by omega) (by omega) (by rw [List.length_append];omega)
where
  chain_end' {look : Int → Option PageV} {N k : Nat} {out : List Int} {n : Int} (h : N ≤ out.length) : chainL look N k out n = (out, 0) := by
    cases k with
    | zero => rfl
    | succ k => unfold chainL; rw [if_pos h]
theorem items_val(k:Int):∀(l:List ItemV) (i:Nat) (p:List Int),itemsE k i p l=0→∀x∈l,valOk k x=true
 | [],_,_,_,x,hx=>by cases hx
 | y :: l,i,p,h,x,hx=>by
   rw [itemsE_cons] at h
   have h1:itemE k i p y=0:=by
    unfold thenE at h;split at h
    · assumption
    · exact absurd h (by assumption)
   have h2:itemsE k (i+1) y.key l=0:=by unfold thenE at h;rw [if_pos h1] at h;exact h
   rcases List.mem_cons.1 hx with rfl | hx
   · unfold itemE at h1
     split at h1
     · cases h1
     · split at h1
       · cases h1
       · split at h1
         · cases h1
         · rename_i hv;simpa using hv
   · exact items_val k l (i+1) y.key h2 x hx
theorem items_of_check {g:PageV}(h:checkP g=0):itemsE g.kind 0 [] g.items=0:=by
 unfold checkP at h;split at h
 · cases h
 · split at h
   · cases h
   · unfold thenE at h
     split at h
     · assumption
     · exact absurd h (by assumption)
theorem getD_mem {l:List ItemV}{i:Nat}(h:i<l.length):itemAt l i∈l:=by
 unfold itemAt;rw [List.getD_eq_getElem?_getD,List.getElem?_eq_getElem h];exact List.getElem_mem h
theorem item_ok {look:Int→Option PageV}{g:PageV}(hc:checkP g=0)(hk:g.kind=1){x:ItemV}(hx:x∈g.items){r:RangeV}{s s':MetS}(h:itemK look x r s=(0,s')):(hasR r x.key=true∧(valueL look x.size x.child x.value).2=0)∧s'.2=s.2+1:=by
 have hv:=items_val g.kind g.items 0 [] (items_of_check hc) x hx;unfold valOk at hv;rw [if_neg (by omega)] at hv;unfold itemK at h;split at h
 · cases h
 · rename_i h1
   have h1':hasR r x.key=true:=by simpa using h1
   split at h
   · rename_i h2
     cases h;refine⟨⟨h1',?_⟩,rfl⟩;split at hv
     · rw [decide_eq_true_eq] at hv
       unfold valueL;rw [if_neg (by omega),if_pos h2]
     · cases hv
   · rename_i h2
     have e1:(chainK look x.size.toNat x.size x.child s.1).1=0:=congrArg Prod.fst h;refine⟨⟨h1',?_⟩,by have:=congrArg (fun p=>p.2.2) h;exact this.symm⟩;split at hv
     · unfold valueL
       rw [if_neg (by omega),if_neg h2];exact chain_load look x.size.toNat x.size.toNat x.size x.child s.1 _ [] x.size.toNat (Prod.ext e1 rfl) (by omega) (by omega) (by omega) (by simp;omega)
     · cases hv
theorem page_tr {look:Int→Option PageV}(ok:PgsOk look):∀(lv:Nat) (n least:Int) (r:RangeV) (s s':MetS),pageK look lv n least r s=(0,s')→∃L,TrK look lv n r L∧s'.2=s.2+(L.length:Int)
 | 0,n,least,r,s,s',h=>by
   unfold pageK at h;cases he:enterK look s.1 n with
   | none=>rw [he] at h;cases h
   | some g=>
     rw [he] at h
     have hl:look n=some g:=by
      unfold enterK at he;split at he
      · cases he
      · exact he
     simp only at h;by_cases h1:g.kind≠1
     · rw [if_pos h1] at h;cases h
     · rw [if_neg h1] at h
       by_cases h2:(g.items.length:Int)<least
       · rw [if_pos h2] at h;cases h
       · rw [if_neg h2] at h
         have hk:g.kind=1:=by omega
         obtain⟨LL,e1,e2,e3⟩:=fold_list (P:=fun i L=>L= [itemAt g.items i]∧(i<g.items.length→hasR r (itemAt g.items i).key=true∧(valueL look (itemAt g.items i).size (itemAt g.items i).child (itemAt g.items i).value).2=0)) (fun i s s' hs=>by
          by_cases hi:i<g.items.length
          · obtain⟨a1,a2⟩:=item_ok (ok.chk n g hl) hk (getD_mem hi) hs
            exact⟨[itemAt g.items i],⟨rfl,fun _=>a1⟩,by simpa using a2⟩
          · refine⟨[itemAt g.items i],⟨rfl,fun h=>absurd h hi⟩,?_⟩
            unfold itemK at hs
            split at hs
            · cases hs
            · split at hs
              · cases hs;simp
              · have:=congrArg (fun p=>p.2.2) hs
                simpa using this.symm) _ _ _ _ h
         have hf:LL.flatten=g.items:=by
          have hm:LL=g.items.map fun x=> [x]:=by
           refine List.ext_getElem (by simp [e1]) fun i g1 g2=> ?_
           rw [(e2 i g1).1,List.getElem_map];unfold itemAt;rw [Nat.zero_add,List.getD_eq_getElem?_getD,List.getElem?_eq_getElem (by omega)];rfl
          rw [hm];induction g.items with
          | nil=>rfl
          | cons x l ih=>simp only [List.map_cons,List.flatten_cons,ih];rfl
         refine⟨g.items,.leaf n r g hl hk fun x hx=> ?_,by rw [hf] at e3;exact e3⟩;obtain⟨i,hi,rfl⟩:=List.getElem_of_mem hx;have:=(e2 i (by omega)).2 (by omega)
         unfold itemAt at this;rw [Nat.zero_add,List.getD_eq_getElem?_getD,List.getElem?_eq_getElem hi] at this;exact this
 | lv+1,n,least,r,s,s',h=>by
   unfold pageK at h;cases he:enterK look s.1 n with
   | none=>rw [he] at h;cases h
   | some g=>
     rw [he] at h
     have hl:look n=some g:=by
      unfold enterK at he;split at he
      · cases he
      · exact he
     simp only at h;by_cases h1:¬(g.kind=2∧g.level=(lv:Int)+1)
     · rw [if_pos h1] at h;cases h
     · rw [if_neg h1] at h
       by_cases h2:(g.items.length:Int)<least
       · rw [if_pos h2] at h;cases h
       · rw [if_neg h2] at h
         obtain⟨LL,e1,e2,e3⟩:=fold_list (P:=fun i L=>TrK look lv (itemAt g.items i).child (meetR r (ownR g.items i)) L) (fun i s s' hs=>page_tr ok lv _ _ _ s s' hs) _ _ _ _ h;have h1':g.kind=2∧g.level=(lv:Int)+1:=Classical.byContradiction h1;refine⟨LL.flatten,.index lv n r g LL hl h1'.1 h1'.2 e1 fun i hi=> ?_,e3⟩;have:=e2 i hi
         rw [Nat.zero_add] at this;exact this
theorem tree_of_check {look:Int→Option PageV}(ok:PgsOk look){root height items:Int}(h:checkK look root height items=0):(root=0∧height=0∧items=0)∨(root≠0∧1≤height∧height≤12∧∃L,TrK look (height-1).toNat root everyR L∧items=(L.length:Int)):=by
 unfold checkK at h;split at h
 · rename_i h1;exact .inl h1
 · split at h
   · cases h
   · rename_i h2
     split at h
     · rename_i h3;exact absurd h h3
     · rename_i h3
       split at h
       · cases h
       · rename_i h4
         obtain⟨L,hL,e⟩:=page_tr ok _ root (min height 2) everyR ([],0) (pageK look (height-1).toNat root (min height 2) everyR ([],0)).2 (Prod.ext (by simpa using h3) rfl);refine .inr ⟨fun e=>h2 (.inl e),by omega,by omega,L,hL,?_⟩;have:(pageK look (height-1).toNat root (min height 2) everyR ([],0)).2.2=items:=by simpa using h4
         rw [← this,e];simp
end Go.Cop
namespace Go.Cop
def KeyLt(a b:ItemV):Prop:=cmpI a.key b.key<0
theorem items_sorted(k:Int):∀(l:List ItemV) (i:Nat) (p:List Int),itemsE k i p l=0→(i≠0→∀x∈l,cmpI p x.key<0)∧l.Pairwise KeyLt
 | [],_,_,_=>⟨fun _ x hx=>by(cases hx),List.Pairwise.nil⟩
 | y :: l,i,p,h=>by
   rw [itemsE_cons] at h
   have h1:itemE k i p y=0:=by
    unfold thenE at h;split at h
    · assumption
    · exact absurd h (by assumption)
   have h2:itemsE k (i+1) y.key l=0:=by unfold thenE at h;rw [if_pos h1] at h;exact h
   obtain⟨a1,a2⟩:=items_sorted k l (i+1) y.key h2;have a3:=a1 (by omega);refine⟨fun hi x hx=> ?_,List.Pairwise.cons (fun x hx=>a3 x hx) a2⟩
   have hy:cmpI p y.key<0:=by
    unfold itemE at h1;split at h1
    · cases h1
    · split at h1
      · cases h1
      · rename_i ho
        have ho2:i=0∨0<cmpI y.key p:=by
         cases hq:ordOk i p y with
         | false=>exact absurd hq ho
         | true=>exact of_decide_eq_true hq
        rcases ho2 with e | e
        · exact absurd e hi
        · rw [cmp_anti] at e;omega
   rcases List.mem_cons.1 hx with rfl | hx
   · exact hy
   · exact cmp_lt_le hy (by have:=a3 x hx;omega)
theorem page_sorted {g:PageV}(h:checkP g=0):g.items.Pairwise KeyLt:=(items_sorted g.kind g.items 0 [] (items_of_check h)).2
theorem itemAt_get {l:List ItemV}{i:Nat}(h:i<l.length):itemAt l i=l[i]:=by
 unfold itemAt;rw [List.getD_eq_getElem?_getD,List.getElem?_eq_getElem h];rfl
theorem page_lt {g:PageV}(h:checkP g=0){i j:Nat}(hij:i<j)(hj:j<g.items.length):cmpI (itemAt g.items i).key (itemAt g.items j).key<0:=by
 rw [itemAt_get (by omega),itemAt_get hj];exact List.pairwise_iff_getElem.1 (page_sorted h) i j (by omega) hj hij
theorem tr_has {look:Int→Option PageV}{lv:Nat}{n:Int}{r:RangeV}{L:List ItemV}(h:TrK look lv n r L):∀x∈L,hasR r x.key=true∧(valueL look x.size x.child x.value).2=0:=by
 induction h with
 | leaf n r g _ _ h=>exact h
 | index lv n r g LL _ _ _ _ _ ih=>
   intro x hx;obtain⟨l,hl,hx⟩:=List.mem_flatten.1 hx;obtain⟨i,hi,rfl⟩:=List.getElem_of_mem hl;obtain⟨h1,h2⟩:=ih i hi x hx;rw [has_meet,Bool.and_eq_true] at h1;exact⟨h1.1,h2⟩
theorem has_lo {r:RangeV}{k:List Int}(h:hasR r k=true):0≤cmpI k r.lo∧(r.op=false→cmpI k r.hi<0)∧keyR k=true:=by
 unfold hasR at h;simp only [Bool.and_eq_true,decide_eq_true_eq,Bool.or_eq_true] at h;refine⟨h.2.1,fun e=> ?_,h.1⟩;rcases h.2.2 with e2 | e2
 · rw [e] at e2;cases e2
 · exact e2
theorem own_lo(l:List ItemV)(i:Nat):(ownR l i).lo=(itemAt l i).key:=by unfold ownR;split<;>rfl
theorem own_hi {l:List ItemV}{i:Nat}(h:i+1<l.length):(ownR l i).op=false∧(ownR l i).hi=(itemAt l (i+1)).key:=by unfold ownR;rw [if_pos h];exact⟨rfl,rfl⟩
theorem tr_sorted {look:Int→Option PageV}(ok:PgsOk look){lv:Nat}{n:Int}{r:RangeV}{L:List ItemV}(h:TrK look lv n r L):L.Pairwise KeyLt:=by
 induction h with
 | leaf n r g hl _ _=>exact page_sorted (ok.chk n g hl)
 | index lv n r g LL hl hk _ hlen hT ih=>
   refine List.pairwise_flatten.2 ⟨fun l hm=> ?_,List.pairwise_iff_getElem.2 fun i j hi hj hij x hx y hy=> ?_⟩
   · obtain⟨i,hi,rfl⟩:=List.getElem_of_mem hm
     exact ih i hi
   · have h1:=(tr_has (hT i hi) x hx).1
     have h2:=(tr_has (hT j hj) y hy).1;rw [has_meet,Bool.and_eq_true] at h1 h2;obtain⟨e1,e2⟩:=own_hi (l:=g.items) (i:=i) (by omega);have h3:=(has_lo h1.2).2.1 e1;have h4:=(has_lo h2.2).1;rw [e2] at h3;rw [own_lo,cmp_neg] at h4
     have h5:cmpI (itemAt g.items (i+1)).key (itemAt g.items j).key≤0:=by
      by_cases e:i+1=j
      · rw [e,cmp_self];exact Int.le_refl _
      · have:=page_lt (ok.chk n g hl) (i:=i+1) (j:=j) (by omega) (by omega)
        omega
     exact cmp_lt_le h3 (cmp_le h5 h4)
def withinK(g:PageV)(r:RangeV):List Int:=((List.range g.items.length).filter fun i=> !emptyR (meetR (ownR g.items i) r)).map fun i=>(itemAt g.items i).child
inductive TravK (look : Int → Option PageV) (r : RangeV) : List Int → List ItemV → Nat → Prop where
  | nil : TravK look r [] [] 0
  | leaf (n : Int) (st : List Int) (g : PageV) (out : List ItemV) (k : Nat) : look n = some g → g.kind ≠ 2 → TravK look r st out k → TravK look r (n :: st) (g.items.filter (fun x => hasR r x.key) ++ out) (k + 1)
  | index (n : Int) (st : List Int) (g : PageV) (out : List ItemV) (k : Nat) : look n = some g → g.kind = 2 → TravK look r (withinK g r ++ st) out k → TravK look r (n :: st) out (k + 1)
inductive TravA (look : Int → Option PageV) : List Int → List ItemV → Nat → Prop where
  | nil : TravA look [] [] 0
  | leaf (n : Int) (st : List Int) (g : PageV) (out : List ItemV) (k : Nat) : look n = some g → g.kind = 1 → TravA look st out k → TravA look (n :: st) (g.items ++ out) (k + 1)
  | index (n : Int) (st : List Int) (g : PageV) (out : List ItemV) (k : Nat) : look n = some g → g.kind = 2 → TravA look (g.items.map (·.child) ++ st) out k → TravA look (n :: st) out (k + 1)
theorem own_u8 {l:List ItemV}(h:∀x∈l,U8 x.key){i:Nat}(hi:i<l.length):RU8 (ownR l i):=by
 unfold ownR;split
 · rename_i h2
   exact⟨h _ (getD_mem hi),h _ (getD_mem h2)⟩
 · exact⟨h _ (getD_mem hi),fun z hz=>by cases hz⟩
theorem own_len {n:Nat}{l:List ItemV}(h:∀x∈l,x.key.length≤n){i:Nat}(hi:i<l.length):RLen n (ownR l i):=by
 unfold ownR;split
 · rename_i h2
   exact⟨h _ (getD_mem hi),h _ (getD_mem h2)⟩
 · exact⟨h _ (getD_mem hi),Nat.zero_le _⟩
theorem tr_u8 {look:Int→Option PageV}(ok:PgsOk look){lv:Nat}{n:Int}{r:RangeV}{L:List ItemV}(h:TrK look lv n r L):∀x∈L,U8 x.key:=by
 induction h with
 | leaf n r g hl _ _=>exact ok.u8 n g hl
 | index lv n r g LL _ _ _ _ _ ih=>
   intro x hx;obtain⟨l,hl,hx⟩:=List.mem_flatten.1 hx;obtain⟨i,hi,rfl⟩:=List.getElem_of_mem hl;exact ih i hi x hx
end Go.Cop
namespace Go.Cop
theorem trav_len {look:Int→Option PageV}{r:RangeV}{st:List Int}{out:List ItemV}{k:Nat}(h:TravK look r st out k):st.length≤k:=by
 induction h with
 | nil=>exact Nat.le_refl _
 | leaf n st g out k _ _ _ ih=>simp;omega
 | index n st g out k _ _ _ ih=>rw [List.length_append] at ih;simp;omega
theorem pow9_step {a lv c:Nat}(ha:a≤8)(hc:c≤a*9 ^ lv):c+1≤9 ^ (lv+1):=by
 have h1:a*9 ^ lv≤8*9 ^ lv:=Nat.mul_le_mul_right _ ha;have h2:1≤9 ^ lv:=Nat.one_le_pow _ _ (by omega);rw [Nat.pow_succ];omega
theorem trav_tr9 {look:Int→Option PageV}(ok:PgsOk look)(r:RangeV)(hr:RU8 r){lv:Nat}{n:Int}{q:RangeV}{L:List ItemV}(h:TrK look lv n q L):∃c,c≤9 ^ lv∧∀st out m,TravK look r st out m→TravK look r (n :: st) (L.filter (fun x=>hasR r x.key)++out) (c+m):=by
 induction h with
 | leaf n q g hl hk _=>exact⟨1,by simp,fun st out m ht=>by rw [Nat.add_comm];exact .leaf n st g out m hl (by omega) ht⟩
 | index lv n q g LL hl hk _ hlen hT ih=>
   have key:∀d,d≤LL.length→∃c,c≤d*9 ^ lv∧∀st out m,TravK look r st out m→TravK look r ((((List.range' (LL.length-d) d).filter fun i=> !emptyR (meetR (ownR g.items i) r)).map fun i=>(itemAt g.items i).child)++st) ((LL.drop (LL.length-d)).flatten.filter (fun x=>hasR r x.key)++out) (c+m):=by
    intro d;induction d with
    | zero=>exact fun _=>⟨0,by simp,fun st out m ht=>by simpa using ht⟩
    | succ d ihd=>
      intro hd;obtain⟨c1,hc1,h1⟩:=ihd (by omega);obtain⟨i,hi⟩:∃i,LL.length-(d+1)=i:=⟨_,rfl⟩;have hi2:LL.length-d=i+1:=by omega
      have hil:i<LL.length:=by omega
      obtain⟨c2,hc2,h2⟩:=ih i hil;rw [hi2] at h1;rw [hi,List.range'_succ,List.drop_eq_getElem_cons hil,List.flatten_cons,List.filter_append];by_cases he:emptyR (meetR (ownR g.items i) r)=true
      · rw [List.filter_cons_of_neg (by rw [he];simp)]
        have hz:(LL[i].filter fun x=>hasR r x.key)= []:=by
         refine List.filter_eq_nil_iff.2 fun x hx=> ?_
         have g1:=(tr_has (hT i hil) x hx).1;rw [has_meet,Bool.and_eq_true] at g1;have g2:=empty_none he (meetR_u8 (own_u8 (ok.u8 n g hl) (by omega)) hr).lo (tr_u8 ok (hT i hil) x hx);rw [has_meet,g1.2,Bool.true_and] at g2;rw [g2];simp
        rw [hz,List.nil_append];exact⟨c1,by rw [Nat.succ_mul];omega,h1⟩
      · rw [List.filter_cons_of_pos (by simpa using he),List.map_cons]
        refine⟨c2+c1,by rw [Nat.succ_mul];omega,fun st out m ht=> ?_⟩;rw [List.cons_append,List.append_assoc,Nat.add_assoc];exact h2 _ _ _ (h1 st out m ht)
   obtain⟨c,hc,h1⟩:=key LL.length (Nat.le_refl _);refine⟨c+1,pow9_step (a:=LL.length) (by have:=(fit_of_check (ok.chk n g hl)).n;omega) hc,fun st out m ht=> ?_⟩;have h2:=h1 st out m ht;rw [Nat.sub_self,List.drop_zero, ← List.range_eq_range',hlen] at h2;rw [show c+1+m=c+m+1 by omega];exact .index n st g _ _ hl hk h2
theorem pow9_11 {lv c:Nat}(h:c≤9 ^ lv)(hlv:lv≤11):c≤31381059609:=Nat.le_trans h (Nat.le_trans (Nat.pow_le_pow_right (by omega) hlv) (by decide))
end Go.Cop
namespace Go.Cop
def skipR(key:List Int):List ItemV→Nat
 | []=>0
 | x :: l=>if 0<cmpI x.key key then 0 else skipR key l+1
def routeK(l:List ItemV)(key:List Int):Nat:=skipR key l.tail
theorem skip_spec(key:List Int):∀l:List ItemV,skipR key l≤l.length∧(∀j,j<skipR key l→cmpI (itemAt l j).key key≤0)∧(skipR key l<l.length→0<cmpI (itemAt l (skipR key l)).key key)
 | []=>⟨Nat.le_refl _,fun j h=>absurd h (Nat.not_lt_zero j),fun h=>absurd h (Nat.lt_irrefl _)⟩
 | x :: l=>by
   obtain⟨h1,h2,h3⟩:=skip_spec key l;unfold skipR;split
   · rename_i h
     exact⟨Nat.zero_le _,fun j hj=>absurd hj (Nat.not_lt_zero j),fun _=>h⟩
   · rename_i h
     refine⟨by simp;omega,fun j hj=> ?_,fun hl=> ?_⟩
     · cases j with
       | zero=>show cmpI x.key key≤0;omega
       | succ j=>exact h2 j (by omega)
     · exact h3 (by simpa using hl)
theorem route_spec(key:List Int){l:List ItemV}(hl:l≠ []):routeK l key<l.length∧(∀j,1≤j→j≤routeK l key→cmpI (itemAt l j).key key≤0)∧(routeK l key+1<l.length→0<cmpI (itemAt l (routeK l key+1)).key key):=by
 cases l with
 | nil=>exact absurd rfl hl
 | cons x l=>
   obtain⟨h1,h2,h3⟩:=skip_spec key l;show skipR key l< _∧(∀j,1≤j→j≤skipR key l→ _)∧(skipR key l+1< _→ _)
   refine⟨by simp;omega,fun j g1 g2=> ?_,fun h=> ?_⟩
   · obtain⟨j,rfl⟩:∃i,j=i+1:=⟨j-1,by omega⟩
     exact h2 j (by omega)
   · exact h3 (by simpa using h)
def pathK(look:Int→Option PageV)(key:List Int):Nat→Int→List Int
 | 0,n=> [n]
 | lv+1,n=>n :: match look n with
   | some g=>pathK look key lv (itemAt g.items (routeK g.items key)).child
   | none=> []
def leafK(look:Int→Option PageV)(key:List Int):Nat→Int→Int
 | 0,n=>n
 | lv+1,n=>match look n with
   | some g=>leafK look key lv (itemAt g.items (routeK g.items key)).child
   | none=>0
theorem path_tr {look:Int→Option PageV}(ok:PgsOk look)(key:List Int){lv:Nat}{n:Int}{q:RangeV}{L:List ItemV}(h:TrK look lv n q L):((pathK look key lv n).length=lv+1∧(pathK look key lv n)[lv]? =some (leafK look key lv n)∧(pathK look key lv n)[0]? =some n)∧
 ∃g,look (leafK look key lv n)=some g∧g.kind=1∧(∀x∈g.items,x∈L)∧∀x∈L,x.key=key→x∈g.items:=by
 induction h with
 | leaf n q g hl hk _=>exact⟨⟨rfl,rfl,rfl⟩,g,hl,hk,fun x hx=>hx,fun x hx _=>hx⟩
 | index lv n q g LL hl hk _ hlen hT ih=>
   unfold pathK leafK;rw [hl];have h2:=((form_of_check (ok.chk n g hl)).index hk).2.2;obtain⟨r1,r2,r3⟩:=route_spec key (l:=g.items) (fun e=>by rw [e] at h2;simp at h2);obtain⟨⟨a1,a2,_⟩,g1,b1,b2,b3,b4⟩:=ih (routeK g.items key) (by omega)
   refine⟨⟨by rw [List.length_cons];exact congrArg (· +1) a1,by rw [List.getElem?_cons_succ];exact a2,rfl⟩,g1,b1,b2,fun x hx=>List.mem_flatten.2 ⟨_,List.getElem_mem (by omega),b3 x hx⟩,fun x hx hxk=> ?_⟩;obtain⟨l,hm,hx⟩:=List.mem_flatten.1 hx;obtain⟨j,hj,rfl⟩:=List.getElem_of_mem hm;have hh:=(tr_has (hT j hj) x hx).1;rw [has_meet,Bool.and_eq_true] at hh;obtain⟨c1,c2,_⟩:=has_lo hh.2
   rw [own_lo,hxk,cmp_neg] at c1
   have e:j=routeK g.items key:=by
    rcases Nat.lt_trichotomy j (routeK g.items key) with h | h | h
    · exfalso
      obtain⟨e1,e2⟩:=own_hi (l:=g.items) (i:=j) (by omega);have d1:=c2 e1;rw [e2,hxk] at d1;have d2:=r2 (j+1) (by omega) (by omega);rw [cmp_anti] at d1;omega
    · exact h
    · exfalso
      have d1:=r3 (by omega)
      have d2:cmpI (itemAt g.items (routeK g.items key+1)).key (itemAt g.items j).key≤0:=by
       by_cases e:routeK g.items key+1=j
       · rw [e,cmp_self];exact Int.le_refl _
       · have:=page_lt (ok.chk n g hl) (i:=routeK g.items key+1) (j:=j) (by omega) (by omega)
         omega
      have:=cmp_le d2 c1
      omega
   subst e;exact b4 x hx hxk
def searchK(key:List Int):List ItemV→Nat × Bool
 | []=>(0,false)
 | x :: l=>if 0≤cmpI x.key key then(0,cmpI x.key key == 0) else((searchK key l).1+1,(searchK key l).2)
def findK(key:List Int)(l:List ItemV):Option ItemV:=l.find? fun x=>cmpI x.key key == 0
theorem search_spec(key:List Int):∀ {l:List ItemV},l.Pairwise KeyLt→(searchK key l).1≤l.length∧((searchK key l).2=true→(searchK key l).1<l.length∧(itemAt l (searchK key l).1).key=key)∧((searchK key l).2=false→∀x∈l,x.key≠key)
 | [],_=>⟨Nat.le_refl _,fun h=>by(cases h),fun _ x hx=>by(cases hx)⟩
 | x :: l,h=>by
   obtain⟨p1,p2⟩:=List.pairwise_cons.1 h;obtain⟨h1,h2,h3⟩:=search_spec key p2;unfold searchK;split
   · rename_i h0
     refine⟨Nat.zero_le _,fun e=>⟨by simp,cmp_eq (eq_of_beq e)⟩,fun e y hy hk=> ?_⟩;rcases List.mem_cons.1 hy with rfl | hy
     · rw [hk,cmp_self] at e
       cases e
     · have:=p1 y hy
       unfold KeyLt at this;rw [hk] at this;omega
   · rename_i h0
     refine⟨by simp;exact h1,fun e=> ?_,fun e y hy hk=> ?_⟩
     · obtain⟨g1,g2⟩:=h2 e
       exact⟨by simp;exact g1,g2⟩
     · rcases List.mem_cons.1 hy with rfl | hy
       · rw [hk,cmp_self] at h0
         omega
       · exact h3 e y hy hk
theorem sorted_uniq {L:List ItemV}(h:L.Pairwise KeyLt){x y:ItemV}(hx:x∈L)(hy:y∈L)(e:x.key=y.key):x=y:=by
 obtain⟨i,hi,rfl⟩:=List.getElem_of_mem hx;obtain⟨j,hj,rfl⟩:=List.getElem_of_mem hy;rcases Nat.lt_trichotomy i j with h1 | h1 | h1
 · have:=List.pairwise_iff_getElem.1 h i j hi hj h1
   unfold KeyLt at this;rw [e,cmp_self] at this;omega
 · subst h1;rfl
 · have:=List.pairwise_iff_getElem.1 h j i hj hi h1
   unfold KeyLt at this;rw [e,cmp_self] at this;omega
theorem find_tr {look:Int→Option PageV}(ok:PgsOk look)(key:List Int){lv:Nat}{n:Int}{q:RangeV}{L:List ItemV}(h:TrK look lv n q L){g:PageV}(hg:look (leafK look key lv n)=some g):
 ((searchK key g.items).2=true→(searchK key g.items).1<g.items.length∧findK key L=some (itemAt g.items (searchK key g.items).1))∧((searchK key g.items).2=false→findK key L=none):=by
 obtain⟨_,g1,b1,b2,b3,b4⟩:=path_tr ok key h;obtain rfl:g1=g:=Option.some.inj (b1.symm.trans hg);obtain⟨_,s2,s3⟩:=search_spec key (page_sorted (ok.chk _ g1 b1));refine⟨fun e=> ?_,fun e=> ?_⟩
 · obtain⟨c1,c2⟩:=s2 e
   refine⟨c1,?_⟩;have hm:=b3 _ (getD_mem c1);cases hf:findK key L with
   | none=>
     have:=List.find?_eq_none.1 hf _ hm
     rw [c2,cmp_self] at this;exact absurd rfl this
   | some y=>
     have h1:=List.mem_of_find?_eq_some hf;have h2:=List.find?_some hf;exact congrArg some (sorted_uniq (tr_sorted ok h) h1 hm (by rw [c2];exact cmp_eq (eq_of_beq h2)))
 · refine List.find?_eq_none.2 fun x hx hk=> ?_
   have hk2:=cmp_eq (eq_of_beq hk);exact s3 e x (b4 x hx hk2) hk2
end Go.Cop
