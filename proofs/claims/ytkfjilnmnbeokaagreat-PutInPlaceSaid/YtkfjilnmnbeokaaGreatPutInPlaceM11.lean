/- What the document says of walks over trees: ranges, what Check tells. No program in sight. -/
import Derived.Test.YtkfjilnmnbeokaaGreatPutInPlaceM10
import Derived.Test.YtkfjilnmnbeokaaGreatPutInPlaceM09
set_option maxRecDepth 100000
set_option maxHeartbeats 16000000
namespace Go.Cop
structure RangeV where
 lo:List Int
 hi:List Int
 op:Bool
def keyR(k:List Int):Bool:=decide (1≤k.length∧k.length≤24)
def hasR(r:RangeV)(k:List Int):Bool:=keyR k && (decide (0≤cmpI k r.lo) && (r.op || decide (cmpI k r.hi<0)))
def moreL(a b:List Int):List Int:=if cmpI a b<0 then b else a
def lessL(a b:List Int):List Int:=if 0<cmpI a b then b else a
def meetR(a b:RangeV):RangeV:=⟨moreL a.lo b.lo,if a.op && b.op then [] else if a.op then b.hi else if b.op then a.hi else lessL a.hi b.hi,a.op && b.op⟩
def everyR:RangeV:=⟨[],[],true⟩
structure RU8(r:RangeV):Prop where
 lo:U8 r.lo
 hi:U8 r.hi
structure RLen(n:Nat)(r:RangeV):Prop where
 lo:r.lo.length≤n
 hi:r.hi.length≤n
def zeroI:ItemV:=⟨[],[],0,0⟩
abbrev itemAt(l:List ItemV)(i:Nat):ItemV:=l.getD i zeroI
def ownR(l:List ItemV)(i:Nat):RangeV:=if i+1<l.length then⟨(itemAt l i).key,(itemAt l (i+1)).key,false⟩ else⟨(itemAt l i).key,[],true⟩
abbrev MetS:=List Int × Int
def enterK(look:Int→Option PageV)(M:List Int)(n:Int):Option PageV:=if n∈M then none else look n
def chainK(look:Int→Option PageV):Nat→Int→Int→List Int→Int × List Int
 | 0,_,_,M=>(0,M)
 | f+1,lack,n,M=>if lack≤0 then(0,M) else match enterK look M n with
   | none=>(15,M)
   | some g=>if g.kind≠3 then(15,n :: M) else if(g.data.length:Int)≠min lack 480∨¬(g.next=0↔lack≤480) then(5,n :: M) else chainK look f (lack-min lack 480) g.next (n :: M)
def itemK(look:Int→Option PageV)(x:ItemV)(r:RangeV)(s:MetS):Int × MetS:=
 if hasR r x.key=false then(11,s) else if x.size≤32 then(0,(s.1,s.2+1)) else((chainK look x.size.toNat x.size x.child s.1).1,((chainK look x.size.toNat x.size x.child s.1).2,s.2+1))
def foldK {σ:Type}(step:Nat→σ→Int × σ):Nat→Nat→σ→Int × σ
 | _,0,s=>(0,s)
 | i,k+1,s=>if(step i s).1≠0 then step i s else foldK step (i+1) k (step i s).2
def pageK(look:Int→Option PageV):Nat→Int→Int→RangeV→MetS→Int × MetS
 | 0,n,least,r,s=>match enterK look s.1 n with
   | none=>(15,s)
   | some g=>if g.kind≠1 then(15,(n :: s.1,s.2)) else if(g.items.length:Int)<least then(5,(n :: s.1,s.2)) else
     foldK (fun i s=>itemK look (itemAt g.items i) r s) 0 g.items.length (n :: s.1,s.2)
 | lv+1,n,least,r,s=>match enterK look s.1 n with
   | none=>(15,s)
   | some g=>if ¬(g.kind=2∧g.level=(lv:Int)+1) then(15,(n :: s.1,s.2)) else if(g.items.length:Int)<least then(5,(n :: s.1,s.2)) else
     foldK (fun i s=>pageK look lv (itemAt g.items i).child 4 (meetR r (ownR g.items i)) s) 0 g.items.length (n :: s.1,s.2)
def checkK(look:Int→Option PageV)(root height items:Int):Int:=
 if root=0∧height=0∧items=0 then 0 else if root=0∨height<1∨12<height∨items<1 then 5
 else if(pageK look (height-1).toNat root (min height 2) everyR ([],0)).1≠0 then(pageK look (height-1).toNat root (min height 2) everyR ([],0)).1
 else if(pageK look (height-1).toNat root (min height 2) everyR ([],0)).2.2≠items then 4 else 0
structure FormP(g:PageV):Prop where
 kind:g.kind=1∨g.kind=2∨g.kind=3
 leaf:g.kind=1→g.level=0∧1≤g.items.length
 index:g.kind=2→1≤g.level∧g.level<12∧2≤g.items.length
 blob:g.kind=3→g.level=0∧g.items.length=0
theorem form_of_check {g:PageV}(h:checkP g=0):FormP g:=by
 unfold checkP at h;split at h
 · cases h
 · rename_i hk
   split at h
   · cases h
   · rename_i hf
     have hk2:1≤g.kind∧g.kind≤3:=by simpa [kindOk] using hk
     have hf2:formP g.kind g.level g.items.length g.data.length g.next=true:=by simpa using hf
     unfold formP at hf2;refine⟨by omega,fun e=> ?_,fun e=> ?_,fun e=> ?_⟩
     · rw [if_pos e,decide_eq_true_eq] at hf2
       omega
     · rw [if_neg (by omega),if_pos e,decide_eq_true_eq] at hf2
       omega
     · rw [if_neg (by omega),if_neg (by omega),decide_eq_true_eq] at hf2
       omega
end Go.Cop
namespace Go.Cop
def pagesTo(s:PoolS)(k:Int)(m:Nat):List Int:=((List.range m).filter fun i:Nat=>s.state ((i:Int)+1) == k).map fun i:Nat=>(i:Int)+1
abbrev pagesIn(s:PoolS)(k:Int):List Int:=pagesTo s k s.counts.length
end Go.Cop
namespace Go.Proofs.YtkfjilnmnbeokaaGreat.F4
open ChangeShapes WideShapes ChangeAt RowKit Sl Cop Go.Shelf D2 D3 J3 M3 V3 G2 Y3
attribute [local go_sem] Oper.semAt_some
def PagesOwn(lb:Nat)(lv:Value)(xs:List Int):Pr:=(Pr.pts lb (.cells #[lv] 31)).star (IntsRow lv xs)
def encI(n:Int):Array Value:= #[.int .i64 n]
end Go.Proofs.YtkfjilnmnbeokaaGreat.F4
namespace Go.Cop
theorem cmp_eq:∀ {a b:List Int},cmpI a b=0→a=b
 | [],[],_=>rfl
 | [],_ :: _,h=>by simp [cmpI] at h
 | _ :: _,[],h=>by simp [cmpI] at h
 | x :: a,y :: b,h=>by
   unfold cmpI at h;split at h
   · cases h
   · split at h
     · cases h
     · rw [cmp_eq h,show x=y by omega]
theorem cmp_trans:∀ {a b c:List Int},cmpI a b≤0→cmpI b c≤0→cmpI a c≤0∧(cmpI a b<0∨cmpI b c<0→cmpI a c<0)
 | [],_,[],_,h2=>by
   refine⟨by simp [cmpI],fun h=> ?_⟩;rename_i b _;cases b with
   | nil=>simp [cmpI] at h
   | cons y b=>simp [cmpI] at h2
 | [],_,_ :: _,_,_=>⟨by simp [cmpI],fun _=>by simp [cmpI]⟩
 | x :: a,[],c,h1,_=>by simp [cmpI] at h1
 | x :: a,y :: b,[],_,h2=>by simp [cmpI] at h2
 | x :: a,y :: b,z :: c,h1,h2=>by
   unfold cmpI at h1 h2 ⊢;by_cases h3:x<y
   · by_cases h4:y<z
     · rw [if_pos (show x<z by omega)];exact⟨by omega,fun _=>by omega⟩
     · rw [if_neg h4] at h2
       by_cases h5:z<y
       · rw [if_pos h5] at h2;omega
       · rw [if_pos (show x<z by omega)];exact⟨by omega,fun _=>by omega⟩
   · rw [if_neg h3] at h1 ⊢
     by_cases h5:y<x
     · rw [if_pos h5] at h1;omega
     · rw [if_neg h5] at h1 ⊢
       have e:x=y:=by omega
       subst e;by_cases h4:x<z
       · rw [if_pos h4];exact⟨by omega,fun _=>by omega⟩
       · rw [if_neg h4] at h2 ⊢
         by_cases h6:z<x
         · rw [if_pos h6] at h2;omega
         · rw [if_neg h6] at h2 ⊢
           have:=cmp_trans h1 h2
           simpa [h4,h6] using this
theorem cmp_le {a b c:List Int}(h1:cmpI a b≤0)(h2:cmpI b c≤0):cmpI a c≤0:=(cmp_trans h1 h2).1
theorem cmp_lt_le {a b c:List Int}(h1:cmpI a b<0)(h2:cmpI b c≤0):cmpI a c<0:=(cmp_trans (by omega) h2).2 (.inl h1)
theorem cmp_neg {a b:List Int}:0≤cmpI a b↔cmpI b a≤0:=by rw [cmp_anti a b];omega
theorem more_le(a b k:List Int):0≤cmpI k (moreL a b)↔0≤cmpI k a∧0≤cmpI k b:=by
 unfold moreL;rw [cmp_neg,cmp_neg,cmp_neg];split
 · rename_i h
   exact⟨fun h2=>⟨cmp_le (by omega) h2,h2⟩,fun h2=>h2.2⟩
 · rename_i h
   have h3:cmpI b a≤0:=by rw [cmp_anti];omega
   exact⟨fun h2=>⟨h2,cmp_le h3 h2⟩,fun h2=>h2.1⟩
theorem less_lt(a b k:List Int):cmpI k (lessL a b)<0↔cmpI k a<0∧cmpI k b<0:=by
 unfold lessL;split
 · rename_i h
   have h3:cmpI b a≤0:=by rw [cmp_anti];omega
   exact⟨fun h2=>⟨cmp_lt_le h2 h3,h2⟩,fun h2=>h2.2⟩
 · rename_i h
   exact⟨fun h2=>⟨h2,cmp_lt_le h2 (by omega)⟩,fun h2=>h2.1⟩
theorem has_meet(a b:RangeV)(k:List Int):hasR (meetR a b) k=(hasR a k && hasR b k):=by
 unfold hasR meetR;dsimp only;have h1:=more_le a.lo b.lo k;cases keyR k with
 | false=>simp
 | true=>
   have e1:decide (0≤cmpI k (moreL a.lo b.lo))=(decide (0≤cmpI k a.lo) && decide (0≤cmpI k b.lo)):=by
    rw [← Bool.decide_and];exact decide_eq_decide.2 h1
   rw [e1];cases ha:a.op<;>cases hb:b.op<;>simp
   · have e2:decide (cmpI k (lessL a.hi b.hi)<0)=(decide (cmpI k a.hi<0) && decide (cmpI k b.hi<0)):=by
      rw [← Bool.decide_and];exact decide_eq_decide.2 (less_lt a.hi b.hi k)
     rw [e2];cases decide (0≤cmpI k a.lo)<;>cases decide (0≤cmpI k b.lo)<;>cases decide (cmpI k a.hi<0)<;>cases decide (cmpI k b.hi<0)<;>rfl
   · cases decide (0≤cmpI k a.lo)<;>cases decide (0≤cmpI k b.lo)<;>cases decide (cmpI k a.hi<0)<;>rfl
   · cases decide (0≤cmpI k a.lo)<;>cases decide (0≤cmpI k b.lo)<;>cases decide (cmpI k b.hi<0)<;>rfl
def upL:List Int→List Int
 | []=> []
 | x :: l=>if upL l= [] then(if x=255 then [] else [x+1]) else x :: upL l
def fromL(k:List Int):List Int:=if keyR k then k else if k.length<24 then k++ [0] else upL (k.take 24)
def emptyR(r:RangeV):Bool:= !hasR r (fromL r.lo)
end Go.Cop
namespace Go.Cop
structure PgsOk(look:Int→Option PageV):Prop where
 chk:∀n g,look n=some g→checkP g=0
 u8:∀n g,look n=some g→∀x∈g.items,U8 x.key
inductive TrK (look : Int → Option PageV) : Nat → Int → RangeV → List ItemV → Prop where
  | leaf (n : Int) (r : RangeV) (g : PageV) : look n = some g → g.kind = 1 → (∀ x ∈ g.items, hasR r x.key = true ∧ (valueL look x.size x.child x.value).2 = 0) → TrK look 0 n r g.items
  | index (lv : Nat) (n : Int) (r : RangeV) (g : PageV) (LL : List (List ItemV)) : look n = some g → g.kind = 2 → g.level = (lv : Int) + 1 → LL.length = g.items.length →
      (∀ i (h : i < LL.length), TrK look lv (itemAt g.items i).child (meetR r (ownR g.items i)) LL[i]) → TrK look (lv + 1) n r LL.flatten
theorem items_of_check {g:PageV}(h:checkP g=0):itemsE g.kind 0 [] g.items=0:=by
 unfold checkP at h;split at h
 · cases h
 · split at h
   · cases h
   · unfold thenE at h
     split at h
     · assumption
     · exact absurd h (by assumption)
theorem getD_mem {l:List ItemV}{i:Nat}(h:i<l.length):itemAt l i∈l:=by
 unfold itemAt;rw [List.getD_eq_getElem?_getD,List.getElem?_eq_getElem h];exact List.getElem_mem h
end Go.Cop
namespace Go.Cop
def KeyLt(a b:ItemV):Prop:=cmpI a.key b.key<0
theorem items_sorted(k:Int):∀(l:List ItemV) (i:Nat) (p:List Int),itemsE k i p l=0→(i≠0→∀x∈l,cmpI p x.key<0)∧l.Pairwise KeyLt
 | [],_,_,_=>⟨fun _ x hx=>by(cases hx),List.Pairwise.nil⟩
 | y :: l,i,p,h=>by
   rw [itemsE_cons] at h
   have h1:itemE k i p y=0:=by
    unfold thenE at h;split at h
    · assumption
    · exact absurd h (by assumption)
   have h2:itemsE k (i+1) y.key l=0:=by unfold thenE at h;rw [if_pos h1] at h;exact h
   obtain⟨a1,a2⟩:=items_sorted k l (i+1) y.key h2;have a3:=a1 (by omega);refine⟨fun hi x hx=> ?_,List.Pairwise.cons (fun x hx=>a3 x hx) a2⟩
   have hy:cmpI p y.key<0:=by
    unfold itemE at h1;split at h1
    · cases h1
    · split at h1
      · cases h1
      · rename_i ho
        have ho2:i=0∨0<cmpI y.key p:=by
         cases hq:ordOk i p y with
         | false=>exact absurd hq ho
         | true=>exact of_decide_eq_true hq
        rcases ho2 with e | e
        · exact absurd e hi
        · rw [cmp_anti] at e;omega
   rcases List.mem_cons.1 hx with rfl | hx
   · exact hy
   · exact cmp_lt_le hy (by have:=a3 x hx;omega)
theorem page_sorted {g:PageV}(h:checkP g=0):g.items.Pairwise KeyLt:=(items_sorted g.kind g.items 0 [] (items_of_check h)).2
theorem itemAt_get {l:List ItemV}{i:Nat}(h:i<l.length):itemAt l i=l[i]:=by
 unfold itemAt;rw [List.getD_eq_getElem?_getD,List.getElem?_eq_getElem h];rfl
theorem page_lt {g:PageV}(h:checkP g=0){i j:Nat}(hij:i<j)(hj:j<g.items.length):cmpI (itemAt g.items i).key (itemAt g.items j).key<0:=by
 rw [itemAt_get (by omega),itemAt_get hj];exact List.pairwise_iff_getElem.1 (page_sorted h) i j (by omega) hj hij
theorem tr_has {look:Int→Option PageV}{lv:Nat}{n:Int}{r:RangeV}{L:List ItemV}(h:TrK look lv n r L):∀x∈L,hasR r x.key=true∧(valueL look x.size x.child x.value).2=0:=by
 induction h with
 | leaf n r g _ _ h=>exact h
 | index lv n r g LL _ _ _ _ _ ih=>
   intro x hx;obtain⟨l,hl,hx⟩:=List.mem_flatten.1 hx;obtain⟨i,hi,rfl⟩:=List.getElem_of_mem hl;obtain⟨h1,h2⟩:=ih i hi x hx;rw [has_meet,Bool.and_eq_true] at h1;exact⟨h1.1,h2⟩
theorem has_lo {r:RangeV}{k:List Int}(h:hasR r k=true):0≤cmpI k r.lo∧(r.op=false→cmpI k r.hi<0)∧keyR k=true:=by
 unfold hasR at h;simp only [Bool.and_eq_true,decide_eq_true_eq,Bool.or_eq_true] at h;refine⟨h.2.1,fun e=> ?_,h.1⟩;rcases h.2.2 with e2 | e2
 · rw [e] at e2;cases e2
 · exact e2
theorem own_lo(l:List ItemV)(i:Nat):(ownR l i).lo=(itemAt l i).key:=by unfold ownR;split<;>rfl
theorem own_hi {l:List ItemV}{i:Nat}(h:i+1<l.length):(ownR l i).op=false∧(ownR l i).hi=(itemAt l (i+1)).key:=by unfold ownR;rw [if_pos h];exact⟨rfl,rfl⟩
theorem tr_sorted {look:Int→Option PageV}(ok:PgsOk look){lv:Nat}{n:Int}{r:RangeV}{L:List ItemV}(h:TrK look lv n r L):L.Pairwise KeyLt:=by
 induction h with
 | leaf n r g hl _ _=>exact page_sorted (ok.chk n g hl)
 | index lv n r g LL hl hk _ hlen hT ih=>
   refine List.pairwise_flatten.2 ⟨fun l hm=> ?_,List.pairwise_iff_getElem.2 fun i j hi hj hij x hx y hy=> ?_⟩
   · obtain⟨i,hi,rfl⟩:=List.getElem_of_mem hm
     exact ih i hi
   · have h1:=(tr_has (hT i hi) x hx).1
     have h2:=(tr_has (hT j hj) y hy).1;rw [has_meet,Bool.and_eq_true] at h1 h2;obtain⟨e1,e2⟩:=own_hi (l:=g.items) (i:=i) (by omega);have h3:=(has_lo h1.2).2.1 e1;have h4:=(has_lo h2.2).1;rw [e2] at h3;rw [own_lo,cmp_neg] at h4
     have h5:cmpI (itemAt g.items (i+1)).key (itemAt g.items j).key≤0:=by
      by_cases e:i+1=j
      · rw [e,cmp_self];exact Int.le_refl _
      · have:=page_lt (ok.chk n g hl) (i:=i+1) (j:=j) (by omega) (by omega)
        omega
     exact cmp_lt_le h3 (cmp_le h5 h4)
def withinK(g:PageV)(r:RangeV):List Int:=((List.range g.items.length).filter fun i=> !emptyR (meetR (ownR g.items i) r)).map fun i=>(itemAt g.items i).child
inductive TravK (look : Int → Option PageV) (r : RangeV) : List Int → List ItemV → Nat → Prop where
  | nil : TravK look r [] [] 0
  | leaf (n : Int) (st : List Int) (g : PageV) (out : List ItemV) (k : Nat) : look n = some g → g.kind ≠ 2 → TravK look r st out k → TravK look r (n :: st) (g.items.filter (fun x => hasR r x.key) ++ out) (k + 1)
  | index (n : Int) (st : List Int) (g : PageV) (out : List ItemV) (k : Nat) : look n = some g → g.kind = 2 → TravK look r (withinK g r ++ st) out k → TravK look r (n :: st) out (k + 1)
inductive TravA (look : Int → Option PageV) : List Int → List ItemV → Nat → Prop where
  | nil : TravA look [] [] 0
  | leaf (n : Int) (st : List Int) (g : PageV) (out : List ItemV) (k : Nat) : look n = some g → g.kind = 1 → TravA look st out k → TravA look (n :: st) (g.items ++ out) (k + 1)
  | index (n : Int) (st : List Int) (g : PageV) (out : List ItemV) (k : Nat) : look n = some g → g.kind = 2 → TravA look (g.items.map (·.child) ++ st) out k → TravA look (n :: st) out (k + 1)
end Go.Cop
namespace Go.Cop
def skipR(key:List Int):List ItemV→Nat
 | []=>0
 | x :: l=>if 0<cmpI x.key key then 0 else skipR key l+1
def routeK(l:List ItemV)(key:List Int):Nat:=skipR key l.tail
theorem skip_spec(key:List Int):∀l:List ItemV,skipR key l≤l.length∧(∀j,j<skipR key l→cmpI (itemAt l j).key key≤0)∧(skipR key l<l.length→0<cmpI (itemAt l (skipR key l)).key key)
 | []=>⟨Nat.le_refl _,fun j h=>absurd h (Nat.not_lt_zero j),fun h=>absurd h (Nat.lt_irrefl _)⟩
 | x :: l=>by
   obtain⟨h1,h2,h3⟩:=skip_spec key l;unfold skipR;split
   · rename_i h
     exact⟨Nat.zero_le _,fun j hj=>absurd hj (Nat.not_lt_zero j),fun _=>h⟩
   · rename_i h
     refine⟨by simp;omega,fun j hj=> ?_,fun hl=> ?_⟩
     · cases j with
       | zero=>show cmpI x.key key≤0;omega
       | succ j=>exact h2 j (by omega)
     · exact h3 (by simpa using hl)
theorem route_spec(key:List Int){l:List ItemV}(hl:l≠ []):routeK l key<l.length∧(∀j,1≤j→j≤routeK l key→cmpI (itemAt l j).key key≤0)∧(routeK l key+1<l.length→0<cmpI (itemAt l (routeK l key+1)).key key):=by
 cases l with
 | nil=>exact absurd rfl hl
 | cons x l=>
   obtain⟨h1,h2,h3⟩:=skip_spec key l;show skipR key l< _∧(∀j,1≤j→j≤skipR key l→ _)∧(skipR key l+1< _→ _)
   refine⟨by simp;omega,fun j g1 g2=> ?_,fun h=> ?_⟩
   · obtain⟨j,rfl⟩:∃i,j=i+1:=⟨j-1,by omega⟩
     exact h2 j (by omega)
   · exact h3 (by simpa using h)
def pathK(look:Int→Option PageV)(key:List Int):Nat→Int→List Int
 | 0,n=> [n]
 | lv+1,n=>n :: match look n with
   | some g=>pathK look key lv (itemAt g.items (routeK g.items key)).child
   | none=> []
def leafK(look:Int→Option PageV)(key:List Int):Nat→Int→Int
 | 0,n=>n
 | lv+1,n=>match look n with
   | some g=>leafK look key lv (itemAt g.items (routeK g.items key)).child
   | none=>0
theorem path_tr {look:Int→Option PageV}(ok:PgsOk look)(key:List Int){lv:Nat}{n:Int}{q:RangeV}{L:List ItemV}(h:TrK look lv n q L):((pathK look key lv n).length=lv+1∧(pathK look key lv n)[lv]? =some (leafK look key lv n)∧(pathK look key lv n)[0]? =some n)∧
 ∃g,look (leafK look key lv n)=some g∧g.kind=1∧(∀x∈g.items,x∈L)∧∀x∈L,x.key=key→x∈g.items:=by
 induction h with
 | leaf n q g hl hk _=>exact⟨⟨rfl,rfl,rfl⟩,g,hl,hk,fun x hx=>hx,fun x hx _=>hx⟩
 | index lv n q g LL hl hk _ hlen hT ih=>
   unfold pathK leafK;rw [hl];have h2:=((form_of_check (ok.chk n g hl)).index hk).2.2;obtain⟨r1,r2,r3⟩:=route_spec key (l:=g.items) (fun e=>by rw [e] at h2;simp at h2);obtain⟨⟨a1,a2,_⟩,g1,b1,b2,b3,b4⟩:=ih (routeK g.items key) (by omega)
   refine⟨⟨by rw [List.length_cons];exact congrArg (· +1) a1,by rw [List.getElem?_cons_succ];exact a2,rfl⟩,g1,b1,b2,fun x hx=>List.mem_flatten.2 ⟨_,List.getElem_mem (by omega),b3 x hx⟩,fun x hx hxk=> ?_⟩;obtain⟨l,hm,hx⟩:=List.mem_flatten.1 hx;obtain⟨j,hj,rfl⟩:=List.getElem_of_mem hm;have hh:=(tr_has (hT j hj) x hx).1;rw [has_meet,Bool.and_eq_true] at hh;obtain⟨c1,c2,_⟩:=has_lo hh.2
   rw [own_lo,hxk,cmp_neg] at c1
   have e:j=routeK g.items key:=by
    rcases Nat.lt_trichotomy j (routeK g.items key) with h | h | h
    · exfalso
      obtain⟨e1,e2⟩:=own_hi (l:=g.items) (i:=j) (by omega);have d1:=c2 e1;rw [e2,hxk] at d1;have d2:=r2 (j+1) (by omega) (by omega);rw [cmp_anti] at d1;omega
    · exact h
    · exfalso
      have d1:=r3 (by omega)
      have d2:cmpI (itemAt g.items (routeK g.items key+1)).key (itemAt g.items j).key≤0:=by
       by_cases e:routeK g.items key+1=j
       · rw [e,cmp_self];exact Int.le_refl _
       · have:=page_lt (ok.chk n g hl) (i:=routeK g.items key+1) (j:=j) (by omega) (by omega)
         omega
      have:=cmp_le d2 c1
      omega
   subst e;exact b4 x hx hxk
def searchK(key:List Int):List ItemV→Nat × Bool
 | []=>(0,false)
 | x :: l=>if 0≤cmpI x.key key then(0,cmpI x.key key == 0) else((searchK key l).1+1,(searchK key l).2)
def findK(key:List Int)(l:List ItemV):Option ItemV:=l.find? fun x=>cmpI x.key key == 0
theorem search_spec(key:List Int):∀ {l:List ItemV},l.Pairwise KeyLt→(searchK key l).1≤l.length∧((searchK key l).2=true→(searchK key l).1<l.length∧(itemAt l (searchK key l).1).key=key)∧((searchK key l).2=false→∀x∈l,x.key≠key)
 | [],_=>⟨Nat.le_refl _,fun h=>by(cases h),fun _ x hx=>by(cases hx)⟩
 | x :: l,h=>by
   obtain⟨p1,p2⟩:=List.pairwise_cons.1 h;obtain⟨h1,h2,h3⟩:=search_spec key p2;unfold searchK;split
   · rename_i h0
     refine⟨Nat.zero_le _,fun e=>⟨by simp,cmp_eq (eq_of_beq e)⟩,fun e y hy hk=> ?_⟩;rcases List.mem_cons.1 hy with rfl | hy
     · rw [hk,cmp_self] at e
       cases e
     · have:=p1 y hy
       unfold KeyLt at this;rw [hk] at this;omega
   · rename_i h0
     refine⟨by simp;exact h1,fun e=> ?_,fun e y hy hk=> ?_⟩
     · obtain⟨g1,g2⟩:=h2 e
       exact⟨by simp;exact g1,g2⟩
     · rcases List.mem_cons.1 hy with rfl | hy
       · rw [hk,cmp_self] at h0
         omega
       · exact h3 e y hy hk
theorem sorted_uniq {L:List ItemV}(h:L.Pairwise KeyLt){x y:ItemV}(hx:x∈L)(hy:y∈L)(e:x.key=y.key):x=y:=by
 obtain⟨i,hi,rfl⟩:=List.getElem_of_mem hx;obtain⟨j,hj,rfl⟩:=List.getElem_of_mem hy;rcases Nat.lt_trichotomy i j with h1 | h1 | h1
 · have:=List.pairwise_iff_getElem.1 h i j hi hj h1
   unfold KeyLt at this;rw [e,cmp_self] at this;omega
 · subst h1;rfl
 · have:=List.pairwise_iff_getElem.1 h j i hj hi h1
   unfold KeyLt at this;rw [e,cmp_self] at this;omega
theorem find_tr {look:Int→Option PageV}(ok:PgsOk look)(key:List Int){lv:Nat}{n:Int}{q:RangeV}{L:List ItemV}(h:TrK look lv n q L){g:PageV}(hg:look (leafK look key lv n)=some g):
 ((searchK key g.items).2=true→(searchK key g.items).1<g.items.length∧findK key L=some (itemAt g.items (searchK key g.items).1))∧((searchK key g.items).2=false→findK key L=none):=by
 obtain⟨_,g1,b1,b2,b3,b4⟩:=path_tr ok key h;obtain rfl:g1=g:=Option.some.inj (b1.symm.trans hg);obtain⟨_,s2,s3⟩:=search_spec key (page_sorted (ok.chk _ g1 b1));refine⟨fun e=> ?_,fun e=> ?_⟩
 · obtain⟨c1,c2⟩:=s2 e
   refine⟨c1,?_⟩;have hm:=b3 _ (getD_mem c1);cases hf:findK key L with
   | none=>
     have:=List.find?_eq_none.1 hf _ hm
     rw [c2,cmp_self] at this;exact absurd rfl this
   | some y=>
     have h1:=List.mem_of_find?_eq_some hf;have h2:=List.find?_some hf;exact congrArg some (sorted_uniq (tr_sorted ok h) h1 hm (by rw [c2];exact cmp_eq (eq_of_beq h2)))
 · refine List.find?_eq_none.2 fun x hx hk=> ?_
   have hk2:=cmp_eq (eq_of_beq hk);exact s3 e x (b4 x hx hk2) hk2
end Go.Cop
