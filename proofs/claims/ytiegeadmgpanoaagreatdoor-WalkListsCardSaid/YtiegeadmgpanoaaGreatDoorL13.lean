/- What the document says of walks over trees: ranges, what Check tells. No program in sight. -/
import Derived.Test.YtiegeadmgpanoaaGreatDoorL11
set_option maxRecDepth 100000
set_option maxHeartbeats 16000000
namespace Go.fB
structure fw where
 lo:List Int
 hi:List Int
 op:Bool
def oM(k:List Int):Bool:=decide (1≤k.length∧k.length≤24)
def iV(r:fw)(k:List Int):Bool:=oM k && (decide (0≤eX k r.lo) && (r.op || decide (eX k r.hi<0)))
def eY(a b:List Int):List Int:=if eX a b<0 then b else a
def ji(a b:List Int):List Int:=if 0<eX a b then b else a
def gW(a b:fw):fw:=⟨eY a.lo b.lo,if a.op && b.op then [] else if a.op then b.hi else if b.op then a.hi else ji a.hi b.hi,a.op && b.op⟩
def ju:fw:=⟨[],[],true⟩
structure wT(r:fw):Prop where
 lo:U8 r.lo
 hi:U8 r.hi
structure nN(n:Nat)(r:fw):Prop where
 lo:r.lo.length≤n
 hi:r.hi.length≤n
theorem C6(a b:List Int):eY a b=a∨eY a b=b:=by unfold eY;split<;>simp
theorem C9(a b:List Int):ji a b=a∨ji a b=b:=by unfold ji;split<;>simp
theorem tV {a b:fw}(ha:wT a)(hb:wT b):wT (gW a b):=by
 constructor
 · show U8 (eY a.lo b.lo)
   rcases C6 a.lo b.lo with h | h<;>rw [h]
   · exact ha.lo
   · exact hb.lo
 · show U8 (if a.op && b.op then [] else if a.op then b.hi else if b.op then a.hi else ji a.hi b.hi)
   split
   · exact fun z hz=>by cases hz
   · split
     · exact hb.hi
     · split
       · exact ha.hi
       · rcases C9 a.hi b.hi with h | h<;>rw [h]
         · exact ha.hi
         · exact hb.hi
theorem rI {n:Nat}{a b:fw}(ha:nN n a)(hb:nN n b):nN n (gW a b):=by
 constructor
 · show (eY a.lo b.lo).length≤n
   rcases C6 a.lo b.lo with h | h<;>rw [h]
   · exact ha.lo
   · exact hb.lo
 · show (if a.op && b.op then [] else if a.op then b.hi else if b.op then a.hi else ji a.hi b.hi).length≤n
   split
   · exact aG _
   · split
     · exact hb.hi
     · split
       · exact ha.hi
       · rcases C9 a.hi b.hi with h | h<;>rw [h]
         · exact ha.hi
         · exact hb.hi
def PO:en:=⟨[],[],0,0⟩
abbrev d5(l:List en)(i:Nat):en:=l.getD i PO
def gG(l:List en)(i:Nat):fw:=if i+1<l.length then⟨(d5 l i).key,(d5 l (i+1)).key,false⟩ else⟨(d5 l i).key,[],true⟩
abbrev nm:=List Int × Int
def gy(look:Int→Option dR)(M:List Int)(n:Int):Option dR:=if n∈M then none else look n
def jv(look:Int→Option dR):Nat→Int→Int→List Int→Int × List Int
 | 0,_,_,M=>(0,M)
 | f+1,lack,n,M=>if lack≤0 then(0,M) else match gy look M n with
   | none=>(15,M)
   | some g=>if g.kind≠3 then(15,n :: M) else if(g.data.length:Int)≠min lack 480∨¬(g.next=0↔lack≤480) then(5,n :: M) else jv look f (lack-min lack 480) g.next (n :: M)
def g_(look:Int→Option dR)(x:en)(r:fw)(s:nm):Int × nm:=
 if iV r x.key=false then(11,s) else if x.size≤32 then(0,(s.1,s.2+1)) else((jv look x.size.toNat x.size x.child s.1).1,((jv look x.size.toNat x.size x.child s.1).2,s.2+1))
def jE {σ:Type}(step:Nat→σ→Int × σ):Nat→Nat→σ→Int × σ
 | _,0,s=>(0,s)
 | i,k+1,s=>if(step i s).1≠0 then step i s else jE step (i+1) k (step i s).2
def fq(look:Int→Option dR):Nat→Int→Int→fw→nm→Int × nm
 | 0,n,least,r,s=>match gy look s.1 n with
   | none=>(15,s)
   | some g=>if g.kind≠1 then(15,(n :: s.1,s.2)) else if(g.items.length:Int)<least then(5,(n :: s.1,s.2)) else
     jE (fun i s=>g_ look (d5 g.items i) r s) 0 g.items.length (n :: s.1,s.2)
 | lv+1,n,least,r,s=>match gy look s.1 n with
   | none=>(15,s)
   | some g=>if ¬(g.kind=2∧g.level=(lv:Int)+1) then(15,(n :: s.1,s.2)) else if(g.items.length:Int)<least then(5,(n :: s.1,s.2)) else
     jE (fun i s=>fq look lv (d5 g.items i).child 4 (gW r (gG g.items i)) s) 0 g.items.length (n :: s.1,s.2)
def iW(look:Int→Option dR)(root dT items:Int):Int:=
 if root=0∧dT=0∧items=0 then 0 else if root=0∨dT<1∨12<dT∨items<1 then 5
 else if(fq look (dT-1).toNat root (min dT 2) ju ([],0)).1≠0 then(fq look (dT-1).toNat root (min dT 2) ju ([],0)).1
 else if(fq look (dT-1).toNat root (min dT 2) ju ([],0)).2.2≠items then 4 else 0
structure Tb(g:dR):Prop where
 kind:g.kind=1∨g.kind=2∨g.kind=3
 leaf:g.kind=1→g.level=0∧1≤g.items.length
 index:g.kind=2→1≤g.level∧g.level<12∧2≤g.items.length
 Tc:g.kind=3→g.level=0∧g.items.length=0
theorem je {g:dR}(h:iU g=0):Tb g:=by
 unfold iU at h;split at h
 · cases h
 · rename_i hk
   split at h
   · cases h
   · rename_i hf
     have hk2:1≤g.kind∧g.kind≤3:=by simpa [kindOk] using hk
     have Ng:iR g.kind g.level g.items.length g.data.length g.next=true:=by simpa using hf
     unfold iR at Ng;refine⟨by omega,fun e=> ?_,fun e=> ?_,fun e=> ?_⟩
     · rw [if_pos e,decide_eq_true_eq] at Ng
       omega
     · rw [if_neg (by omega),if_pos e,decide_eq_true_eq] at Ng
       omega
     · rw [if_neg (by omega),if_neg (by omega),decide_eq_true_eq] at Ng
       omega
theorem Bh {P:dR→Prop}{cs:List Int}:∀(l:List mG) (on:Int→Option dR),(∀x∈l,iU x.page=0→P x.page)→(∀n g,on n=some g→P g)→∀n g,(lay cs l on).2 n=some g→P g
 | [],on,_,h=>h
 | x :: l,on,hl,h=>by
   unfold lay;split
   · exact h
   · split
     · exact h
     · split
       · exact h
       · rename_i hc
         refine Bh l _ (fun y hy=>hl y (by simp [hy])) fun n g hg=> ?_
         split at hg
         · cases hg
           exact hl x (by simp) (by simpa using hc)
         · exact h n g hg
theorem xM {P:dR→Prop}{refs:Int}{cs:List Int}{l:List mG}(hl:∀x∈l,iU x.page=0→P x.page){n:Int}{g:dR}(h:(jw refs cs l).2 n=some g):P g:=by
 unfold jw at h;split at h
 · cases h
 · split at h
   · cases h
   · split at h
     · exact Bh l _ hl (fun _ _ e=>by cases e) n g h
     · split at h
       · cases h
       · exact Bh l _ hl (fun _ _ e=>by cases e) n g h
theorem qS(look:Int→Option dR):∀(f:Nat) (lack:Int) (n:Int) (M:List Int),lack.toNat≤f→jv look f lack n M=jv look lack.toNat lack n M
 | 0,lack,n,M,h=>by
   have:lack.toNat=0:=by omega
   rw [this]
 | f+1,lack,n,M,h=>by
   by_cases h0:lack≤0
   · have e:lack.toNat=0:=by omega
     rw [e];unfold jv;rw [if_pos h0]
   · obtain⟨k,hk⟩:∃k,lack.toNat=k+1:=⟨lack.toNat-1,by omega⟩
     rw [hk];unfold jv;rw [if_neg h0,if_neg h0];cases gy look M n with
     | none=>rfl
     | some g=>
       dsimp only;split
       · rfl
       · split
         · rfl
         · rw [qS look f _ _ _ (by omega),qS look k _ _ _ (by omega)]
end Go.fB
namespace Go.fB
theorem cmp_eq:∀ {a b:List Int},eX a b=0→a=b
 | [],[],_=>rfl
 | [],_ :: _,h=>by simp [eX] at h
 | _ :: _,[],h=>by simp [eX] at h
 | x :: a,y :: b,h=>by
   unfold eX at h;split at h
   · cases h
   · split at h
     · cases h
     · rw [cmp_eq h,show x=y by omega]
theorem rJ:∀ {a b c:List Int},eX a b≤0→eX b c≤0→eX a c≤0∧(eX a b<0∨eX b c<0→eX a c<0)
 | [],_,[],_,h2=>by
   refine⟨by simp [eX],fun h=> ?_⟩;rename_i b _;cases b with
   | nil=>simp [eX] at h
   | cons y b=>simp [eX] at h2
 | [],_,_ :: _,_,_=>⟨by simp [eX],fun _=>by simp [eX]⟩
 | x :: a,[],c,h1,_=>by simp [eX] at h1
 | x :: a,y :: b,[],_,h2=>by simp [eX] at h2
 | x :: a,y :: b,z :: c,h1,h2=>by
   unfold eX at h1 h2 ⊢;by_cases h3:x<y
   · by_cases h4:y<z
     · rw [if_pos (show x<z by omega)];exact⟨by omega,fun _=>by omega⟩
     · rw [if_neg h4] at h2
       by_cases h5:z<y
       · rw [if_pos h5] at h2;omega
       · rw [if_pos (show x<z by omega)];exact⟨by omega,fun _=>by omega⟩
   · rw [if_neg h3] at h1 ⊢
     by_cases h5:y<x
     · rw [if_pos h5] at h1;omega
     · rw [if_neg h5] at h1 ⊢
       have e:x=y:=by omega
       subst e;by_cases h4:x<z
       · rw [if_pos h4];exact⟨by omega,fun _=>by omega⟩
       · rw [if_neg h4] at h2 ⊢
         by_cases h6:z<x
         · rw [if_pos h6] at h2;omega
         · rw [if_neg h6] at h2 ⊢
           have:=rJ h1 h2
           simpa [h4,h6] using this
theorem Bi {a b c:List Int}(h1:eX a b≤0)(h2:eX b c≤0):eX a c≤0:=(rJ h1 h2).1
theorem rK {a b c:List Int}(h1:eX a b<0)(h2:eX b c≤0):eX a c<0:=(rJ (by omega) h2).2 (.inl h1)
theorem II {a b c:List Int}(h1:eX a b≤0)(h2:eX b c<0):eX a c<0:=(rJ h1 (by omega)).2 (.inr h2)
theorem qc {a b:List Int}:0≤eX a b↔eX b a≤0:=by rw [qH a b];omega
theorem N2(a b k:List Int):0≤eX k (eY a b)↔0≤eX k a∧0≤eX k b:=by
 unfold eY;rw [qc,qc,qc];split
 · rename_i h
   exact⟨fun h2=>⟨Bi (by omega) h2,h2⟩,fun h2=>h2.2⟩
 · rename_i h
   have h3:eX b a≤0:=by rw [qH];omega
   exact⟨fun h2=>⟨h2,Bi h3 h2⟩,fun h2=>h2.1⟩
theorem N4(a b k:List Int):eX k (ji a b)<0↔eX k a<0∧eX k b<0:=by
 unfold ji;split
 · rename_i h
   have h3:eX b a≤0:=by rw [qH];omega
   exact⟨fun h2=>⟨rK h2 h3,h2⟩,fun h2=>h2.2⟩
 · rename_i h
   exact⟨fun h2=>⟨h2,rK h2 (by omega)⟩,fun h2=>h2.1⟩
theorem qT(a b:fw)(k:List Int):iV (gW a b) k=(iV a k && iV b k):=by
 unfold iV gW;dsimp only;have h1:=N2 a.lo b.lo k;cases oM k with
 | false=>simp
 | true=>
   have e1:decide (0≤eX k (eY a.lo b.lo))=(decide (0≤eX k a.lo) && decide (0≤eX k b.lo)):=by
    rw [← Bool.decide_and];exact decide_eq_decide.2 h1
   rw [e1];cases ha:a.op<;>cases hb:b.op<;>simp
   · have e2:decide (eX k (ji a.hi b.hi)<0)=(decide (eX k a.hi<0) && decide (eX k b.hi<0)):=by
      rw [← Bool.decide_and];exact decide_eq_decide.2 (N4 a.hi b.hi k)
     rw [e2];cases decide (0≤eX k a.lo)<;>cases decide (0≤eX k b.lo)<;>cases decide (eX k a.hi<0)<;>cases decide (eX k b.hi<0)<;>rfl
   · cases decide (0≤eX k a.lo)<;>cases decide (0≤eX k b.lo)<;>cases decide (eX k a.hi<0)<;>rfl
   · cases decide (0≤eX k a.lo)<;>cases decide (0≤eX k b.lo)<;>cases decide (eX k b.hi<0)<;>rfl
def uG:List Int→List Int
 | []=> []
 | x :: l=>if uG l= [] then(if x=255 then [] else [x+1]) else x :: uG l
def pw(k:List Int):List Int:=if oM k then k else if k.length<24 then k++ [0] else uG (k.take 24)
def nE(r:fw):Bool:= !iV r (pw r.lo)
theorem Fv:∀l:List Int,(uG l).length≤l.length
 | []=>aD _
 | x :: l=>by
   have:=Fv l
   unfold uG;split
   · split<;>simp
   · simp;omega
theorem PQ:∀ {l:List Int},U8 l→U8 (uG l)
 | [],_=>fun z hz=>by cases hz
 | x :: l,h=>by
   have hx:=h x (by simp);have ih:=PQ (l:=l) fun z hz=>h z (by simp [hz])
   unfold uG;split
   · split
     · exact fun z hz=>by cases hz
     · intro z hz
       rw [aC.1 hz];omega
   · intro z hz
     rcases aR.1 hz with rfl | hz
     · exact hx
     · exact ih z hz
theorem PR:∀(n:Nat) (p t k:List Int),p.length=n→t≠ []→k.length≤n→U8 k→U8 p→eX (p++t) k≤0→uG p≠ []∧eX p (uG p)<0∧eX (uG p) k≤0
 | 0,p,t,k,hp,ht,hk,_,_,h=>by
   obtain rfl:=List.length_eq_zero_iff.1 hp;obtain rfl:=List.length_eq_zero_iff.1 (Nat.le_zero.1 hk);cases t with
   | nil=>exact absurd rfl ht
   | cons y t=>simp [eX] at h
 | n+1,[],_,_,hp,_,_,_,_,_=>by simp at hp
 | n+1,x :: p,t,[],_,_,_,_,_,h=>by simp [eX] at h
 | n+1,x :: p,t,y :: k,hp,ht,hk,uk,up,h=>by
   have hx:=up x (by simp);have hy:=uk y (by simp);have ups:U8 p:=fun z hz=>up z (by simp [hz])
   have uks:U8 k:=fun z hz=>uk z (by simp [hz])
   simp only [List.cons_append] at h;unfold eX at h;by_cases h1:x<y
   · unfold uG
     split
     · rw [if_neg (by omega)]
       refine⟨by simp,?_,?_⟩
       · unfold eX;rw [if_pos (by omega)];omega
       · unfold eX
         split
         · omega
         · rw [if_neg (by omega)]
           cases k<;>simp [eX]
     · rename_i h2
       refine⟨by simp,?_,?_⟩
       · unfold eX
         rw [if_neg (by omega),if_neg (by omega)];exact PT p h2
       · unfold eX;rw [if_pos h1];omega
   · rw [if_neg h1] at h
     by_cases h2:y<x
     · rw [if_pos h2] at h;omega
     · rw [if_neg h2] at h
       have e:x=y:=by omega
       subst e;obtain⟨a1,a2,a3⟩:=PR n p t k (by simpa using hp) ht (by simpa using hk) uks ups h;unfold uG;rw [if_neg a1];refine⟨by simp,?_,?_⟩
       · unfold eX;rw [if_neg (by omega),if_neg (by omega)];exact a2
       · unfold eX;rw [if_neg (by omega),if_neg (by omega)];exact a3
where
  PT : ∀ p : List Int, uG p ≠ [] → eX p (uG p) < 0
  | [], h => absurd rfl h
  | x :: p, h => by
    unfold uG at h ⊢
    by_cases h1 : uG p = []
    · rw [if_pos h1] at h ⊢
      by_cases h2 : x = 255
      · rw [if_pos h2] at h; exact absurd rfl h
      · rw [if_neg h2]
        unfold eX
        rw [if_pos (by omega)]; omega
    · rw [if_neg h1]
      unfold eX
      rw [if_neg (by omega), if_neg (by omega)]
      exact PT p h1
theorem C_:∀(p t:List Int),uG p≠ []→eX (p++t) (uG p)≤0
 | [],_,h=>absurd rfl h
 | x :: p,t,h=>by
   unfold uG at h ⊢;simp only [List.cons_append];by_cases h1:uG p= []
   · rw [if_pos h1] at h ⊢
     by_cases h2:x=255
     · rw [if_pos h2] at h;exact absurd rfl h
     · rw [if_neg h2]
       unfold eX;rw [if_pos (by omega)];omega
   · rw [if_neg h1]
     unfold eX;rw [if_neg (by omega),if_neg (by omega)];exact C_ p t h1
theorem Fw {lo k:List Int}(hk:oM k=true)(uk:U8 k)(ul:U8 lo)(h:0≤eX k lo):oM (pw lo)=true∧0≤eX (pw lo) lo∧eX (pw lo) k≤0:=by
 have hk2:1≤k.length∧k.length≤24:=by simpa [oM] using hk
 rw [qc] at h;rw [qc];unfold pw;split
 · rename_i h1
   exact⟨h1,by rw [nc];omega,h⟩
 · rename_i h1
   have h1':¬(1≤lo.length∧lo.length≤24):=by simpa [oM] using h1
   split
   · have:lo= []:=List.length_eq_zero_iff.1 (by omega)
     subst this;refine⟨by simp [oM],by simp [eX],?_⟩;cases k with
     | nil=>simp at hk2
     | cons z k=>
       have:=uk z (by simp)
       show eX [0] (z :: k)≤0
       unfold eX;split
       · omega
       · split
         · omega
         · cases k<;>simp [eX]
   · have e:lo=lo.take 24++lo.drop 24:=(dc 24 lo).symm
     have ht:lo.drop 24≠ []:=fun e2=>by
      have:=congrArg List.length e2
      rw [dq] at this;simp at this
      omega
     have hl:(lo.take 24).length=24:=by rw [aW];omega
     rw [e] at h;obtain⟨a1,a2,a3⟩:=PR 24 (lo.take 24) (lo.drop 24) k hl ht hk2.2 uk (fun z hz=>ul z (dj hz)) h;have yJ:=Fv (lo.take 24);refine⟨?_,?_,a3⟩
     · have:1≤(uG (lo.take 24)).length:=by
        cases hq:uG (lo.take 24) with
        | nil=>exact absurd hq a1
        | cons _ _=>simp
       simp [oM]
       omega
     · have h7:=C_ (lo.take 24) (lo.drop 24) a1
       rw [← e] at h7;exact h7
theorem Fx {r:fw}(h:nE r=true)(ul:U8 r.lo){k:List Int}(uk:U8 k):iV r k=false:=by
 cases hk:iV r k with
 | false=>rfl
 | true=>
   exfalso;unfold iV at hk;simp only [aJ,decide_eq_true_eq,bU] at hk;obtain⟨h1,h2,h3⟩:=hk;obtain⟨f1,f2,f3⟩:=Fw h1 uk ul h2
   have:iV r (pw r.lo)=true:=by
    unfold iV;rw [f1];simp only [Bool.true_and,aJ,decide_eq_true_eq,bU];exact⟨f2,h3.imp id fun h4=>II f3 h4⟩
   unfold nE at h;rw [this] at h;cases h
end Go.fB
namespace Go.fB
structure iT(look:Int→Option dR):Prop where
 uH:∀n g,look n=some g→iU g=0
 u8:∀n g,look n=some g→∀x∈g.items,U8 x.key
inductive yS (look : Int → Option dR) : Nat → Int → fw → List en → Prop where
  | leaf (n : Int) (r : fw) (g : dR) : look n = some g → g.kind = 1 → (∀ x ∈ g.items, iV r x.key = true ∧ (iI look x.size x.child x.value).2 = 0) → yS look 0 n r g.items
  | index (lv : Nat) (n : Int) (r : fw) (g : dR) (LL : List (List en)) : look n = some g → g.kind = 2 → g.level = (lv : Int) + 1 → LL.length = g.items.length →
      (∀ i (h : i < LL.length), yS look lv (d5 g.items i).child (gW r (gG g.items i)) LL[i]) → yS look (lv + 1) n r LL.flatten
theorem uV {α:Type}{step:Nat→nm→Int × nm}{P:Nat→List α→Prop}(hs:∀i s s',step i s=(0,s')→∃L,P i L∧s'.2=s.2+(L.length:Int)):
 ∀(k i:Nat) (s s':nm),jE step i k s=(0,s')→∃LL:List (List α),LL.length=k∧(∀j (h:j<LL.length),P (i+j) LL[j])∧s'.2=s.2+(LL.flatten.length:Int)
 | 0,i,s,s',h=>by
   cases h;exact⟨[],rfl,fun j h=>absurd h (Nat.not_lt_zero j),by simp⟩
 | k+1,i,s,s',h=>by
   unfold jE at h;split at h
   · rename_i h1
     exact absurd (by rw [h]) h1
   · rename_i h1
     obtain⟨L,hL,e1⟩:=hs i s (step i s).2 (Prod.ext (by simpa using h1) rfl);obtain⟨LL,h2,h3,e2⟩:=uV hs k (i+1) _ _ h;refine⟨L :: LL,by simp [h2],fun j hj=> ?_,?_⟩
     · cases j with
       | zero=>exact hL
       | succ j=>
         have:=h3 j (by simpa using hj)
         rw [show i+1+j=i+(j+1) by omega] at this;simpa using this
     · rw [e2,e1]
       simp only [List.flatten_cons,au];omega
theorem xN(look:Int→Option dR)(size:Nat):∀(f:Nat) (lack:Int) (n:Int) (M M':List Int) (out:List Int) (k:Nat),jv look f lack n M=(0,M')→0≤lack→lack.toNat≤f→lack.toNat≤k→(out.length:Int)+lack=size→(iz look size k out n).2=0
 | 0,lack,n,M,M',out,k,_,h0,hf,_,hs=>by rw [xO (by omega)]
 | f+1,lack,n,M,M',out,k,h,h0,hf,hk,hs=>by
   by_cases hz:lack≤0
   · rw [xO (by omega)]
   · obtain⟨k,rfl⟩:∃q,k=q+1:=⟨k-1,by omega⟩
     unfold jv at h;rw [if_neg hz] at h;have hle:gy look M n=none∨gy look M n=look n:=by unfold gy;split<;>simp
     cases he:gy look M n with
     | none=>rw [he] at h;cases h
     | some g=>
       rw [he] at h
       have hl:look n=some g:=by
        rcases hle with e | e
        · rw [e] at he;cases he
        · rw [← e,he]
       simp only at h;by_cases hk3:g.kind≠3
       · rw [if_pos hk3] at h;cases h
       · rw [if_neg hk3] at h
         by_cases hd:(g.data.length:Int)≠min lack 480∨¬(g.next=0↔lack≤480)
         · rw [if_pos hd] at h;cases h
         · rw [if_neg hd] at h
           have hd1:(g.data.length:Int)=min lack 480:=Classical.byContradiction fun e=>hd (.inl e)
           have zq:g.next=0↔lack≤480:=Classical.byContradiction fun e=>hd (.inr e)
           unfold iz;rw [if_neg (by omega),hl];simp only;rw [if_neg hk3,if_pos ⟨by omega,by rw [zq];omega⟩];exact xN look size f _ _ _ M' _ _ h (by omega) (by omega) (by omega) (by rw [au];omega)
where
  xO {look : Int → Option dR} {N k : Nat} {out : List Int} {n : Int} (h : N ≤ out.length) : iz look N k out n = (out, 0) := by
    cases k with
    | zero => rfl
    | succ k => unfold iz; rw [if_pos h]
theorem rL(k:Int):∀(l:List en) (i:Nat) (p:List Int),jr k i p l=0→∀x∈l,jB k x=true
 | [],_,_,_,x,hx=>by cases hx
 | y :: l,i,p,h,x,hx=>by
   rw [li] at h
   have h1:ie k i p y=0:=by
    unfold gK at h;split at h
    · assumption
    · exact absurd h (by assumption)
   have h2:jr k (i+1) y.key l=0:=by unfold gK at h;rw [if_pos h1] at h;exact h
   rcases aR.1 hx with rfl | hx
   · unfold ie at h1
     split at h1
     · cases h1
     · split at h1
       · cases h1
       · split at h1
         · cases h1
         · rename_i hv;simpa using hv
   · exact rL k l (i+1) y.key h2 x hx
theorem ln {g:dR}(h:iU g=0):jr g.kind 0 [] g.items=0:=by
 unfold iU at h;split at h
 · cases h
 · split at h
   · cases h
   · unfold gK at h
     split at h
     · assumption
     · exact absurd h (by assumption)
theorem jF {l:List en}{i:Nat}(h:i<l.length):d5 l i∈l:=by
 unfold d5;rw [az,ag h];exact aE h
theorem N6 {look:Int→Option dR}{g:dR}(hc:iU g=0)(hk:g.kind=1){x:en}(hx:x∈g.items){r:fw}{s s':nm}(h:g_ look x r s=(0,s')):(iV r x.key=true∧(iI look x.size x.child x.value).2=0)∧s'.2=s.2+1:=by
 have hv:=rL g.kind g.items 0 [] (ln hc) x hx;unfold jB at hv;rw [if_neg (by omega)] at hv;unfold g_ at h;split at h
 · cases h
 · rename_i h1
   have h1':iV r x.key=true:=by simpa using h1
   split at h
   · rename_i h2
     cases h;refine⟨⟨h1',?_⟩,rfl⟩;split at hv
     · rw [decide_eq_true_eq] at hv
       unfold iI;rw [if_neg (by omega),if_pos h2]
     · cases hv
   · rename_i h2
     have e1:(jv look x.size.toNat x.size x.child s.1).1=0:=congrArg Prod.fst h;refine⟨⟨h1',?_⟩,by have:=congrArg (fun p=>p.2.2) h;exact this.symm⟩;split at hv
     · unfold iI
       rw [if_neg (by omega),if_neg h2];exact xN look x.size.toNat x.size.toNat x.size x.child s.1 _ [] x.size.toNat (Prod.ext e1 rfl) (by omega) (by omega) (by omega) (by simp;omega)
     · cases hv
theorem G8 {look:Int→Option dR}(ok:iT look):∀(lv:Nat) (n least:Int) (r:fw) (s s':nm),fq look lv n least r s=(0,s')→∃L,yS look lv n r L∧s'.2=s.2+(L.length:Int)
 | 0,n,least,r,s,s',h=>by
   unfold fq at h;cases he:gy look s.1 n with
   | none=>rw [he] at h;cases h
   | some g=>
     rw [he] at h
     have hl:look n=some g:=by
      unfold gy at he;split at he
      · cases he
      · exact he
     simp only at h;by_cases h1:g.kind≠1
     · rw [if_pos h1] at h;cases h
     · rw [if_neg h1] at h
       by_cases h2:(g.items.length:Int)<least
       · rw [if_pos h2] at h;cases h
       · rw [if_neg h2] at h
         have hk:g.kind=1:=by omega
         obtain⟨LL,e1,e2,e3⟩:=uV (P:=fun i L=>L= [d5 g.items i]∧(i<g.items.length→iV r (d5 g.items i).key=true∧(iI look (d5 g.items i).size (d5 g.items i).child (d5 g.items i).value).2=0)) (fun i s s' hs=>by
          by_cases hi:i<g.items.length
          · obtain⟨a1,a2⟩:=N6 (ok.uH n g hl) hk (jF hi) hs
            exact⟨[d5 g.items i],⟨rfl,fun _=>a1⟩,by simpa using a2⟩
          · refine⟨[d5 g.items i],⟨rfl,fun h=>absurd h hi⟩,?_⟩
            unfold g_ at hs
            split at hs
            · cases hs
            · split at hs
              · cases hs;simp
              · have:=congrArg (fun p=>p.2.2) hs
                simpa using this.symm) _ _ _ _ h
         have hf:LL.flatten=g.items:=by
          have hm:LL=g.items.map fun x=> [x]:=by
           refine cq (by simp [e1]) fun i g1 g2=> ?_
           rw [(e2 i g1).1,bQ];unfold d5;rw [Nat.zero_add,az,ag (by omega)];rfl
          rw [hm];induction g.items with
          | nil=>rfl
          | cons x l ih=>simp only [aT,List.flatten_cons,ih];rfl
         refine⟨g.items,.leaf n r g hl hk fun x hx=> ?_,by rw [hf] at e3;exact e3⟩;obtain⟨i,hi,rfl⟩:=bF hx;have:=(e2 i (by omega)).2 (by omega)
         unfold d5 at this;rw [Nat.zero_add,az,ag hi] at this;exact this
 | lv+1,n,least,r,s,s',h=>by
   unfold fq at h;cases he:gy look s.1 n with
   | none=>rw [he] at h;cases h
   | some g=>
     rw [he] at h
     have hl:look n=some g:=by
      unfold gy at he;split at he
      · cases he
      · exact he
     simp only at h;by_cases h1:¬(g.kind=2∧g.level=(lv:Int)+1)
     · rw [if_pos h1] at h;cases h
     · rw [if_neg h1] at h
       by_cases h2:(g.items.length:Int)<least
       · rw [if_pos h2] at h;cases h
       · rw [if_neg h2] at h
         obtain⟨LL,e1,e2,e3⟩:=uV (P:=fun i L=>yS look lv (d5 g.items i).child (gW r (gG g.items i)) L) (fun i s s' hs=>G8 ok lv _ _ _ s s' hs) _ _ _ _ h;have h1':g.kind=2∧g.level=(lv:Int)+1:=Classical.byContradiction h1;refine⟨LL.flatten,.index lv n r g LL hl h1'.1 h1'.2 e1 fun i hi=> ?_,e3⟩;have:=e2 i hi
         rw [Nat.zero_add] at this;exact this
theorem sg {look:Int→Option dR}(ok:iT look){root dT items:Int}(h:iW look root dT items=0):(root=0∧dT=0∧items=0)∨(root≠0∧1≤dT∧dT≤12∧∃L,yS look (dT-1).toNat root ju L∧items=(L.length:Int)):=by
 unfold iW at h;split at h
 · rename_i h1;exact .inl h1
 · split at h
   · cases h
   · rename_i h2
     split at h
     · rename_i h3;exact absurd h h3
     · rename_i h3
       split at h
       · cases h
       · rename_i h4
         obtain⟨L,hL,e⟩:=G8 ok _ root (min dT 2) ju ([],0) (fq look (dT-1).toNat root (min dT 2) ju ([],0)).2 (Prod.ext (by simpa using h3) rfl);refine .inr ⟨fun e=>h2 (.inl e),by omega,by omega,L,hL,?_⟩;have:(fq look (dT-1).toNat root (min dT 2) ju ([],0)).2.2=items:=by simpa using h4
         rw [← this,e];simp
end Go.fB
namespace Go.fB
def tW(a b:en):Prop:=eX a.key b.key<0
theorem tX(k:Int):∀(l:List en) (i:Nat) (p:List Int),jr k i p l=0→(i≠0→∀x∈l,eX p x.key<0)∧l.Pairwise tW
 | [],_,_,_=>⟨fun _ x hx=>by(cases hx),List.Pairwise.nil⟩
 | y :: l,i,p,h=>by
   rw [li] at h
   have h1:ie k i p y=0:=by
    unfold gK at h;split at h
    · assumption
    · exact absurd h (by assumption)
   have h2:jr k (i+1) y.key l=0:=by unfold gK at h;rw [if_pos h1] at h;exact h
   obtain⟨a1,a2⟩:=tX k l (i+1) y.key h2;have a3:=a1 (by omega);refine⟨fun hi x hx=> ?_,List.Pairwise.cons (fun x hx=>a3 x hx) a2⟩
   have hy:eX p y.key<0:=by
    unfold ie at h1;split at h1
    · cases h1
    · split at h1
      · cases h1
      · rename_i ho
        have G7:i=0∨0<eX y.key p:=by
         cases hq:kC i p y with
         | false=>exact absurd hq ho
         | true=>exact of_decide_eq_true hq
        rcases G7 with e | e
        · exact absurd e hi
        · rw [qH] at e;omega
   rcases aR.1 hx with rfl | hx
   · exact hy
   · exact rK hy (by have:=a3 x hx;omega)
theorem oU {g:dR}(h:iU g=0):g.items.Pairwise tW:=(tX g.kind g.items 0 [] (ln h)).2
theorem gn {l:List en}{i:Nat}(h:i<l.length):d5 l i=l[i]:=by
 unfold d5;rw [az,ag h];rfl
theorem G9 {g:dR}(h:iU g=0){i j:Nat}(hij:i<j)(hj:j<g.items.length):eX (d5 g.items i).key (d5 g.items j).key<0:=by
 rw [gn (by omega),gn hj];exact df.1 (oU h) i j (by omega) hj hij
theorem sN {look:Int→Option dR}{lv:Nat}{n:Int}{r:fw}{L:List en}(h:yS look lv n r L):∀x∈L,iV r x.key=true∧(iI look x.size x.child x.value).2=0:=by
 induction h with
 | leaf n r g _ _ h=>exact h
 | index lv n r g LL _ _ _ _ _ ih=>
   intro x hx;obtain⟨l,hl,hx⟩:=List.mem_flatten.1 hx;obtain⟨i,hi,rfl⟩:=bF hl;obtain⟨h1,h2⟩:=ih i hi x hx;rw [qT,aJ] at h1;exact⟨h1.1,h2⟩
theorem Bj {r:fw}{k:List Int}(h:iV r k=true):0≤eX k r.lo∧(r.op=false→eX k r.hi<0)∧oM k=true:=by
 unfold iV at h;simp only [aJ,decide_eq_true_eq,bU] at h;refine⟨h.2.1,fun e=> ?_,h.1⟩;rcases h.2.2 with e2 | e2
 · rw [e] at e2;cases e2
 · exact e2
theorem Fy(l:List en)(i:Nat):(gG l i).lo=(d5 l i).key:=by unfold gG;split<;>rfl
theorem Bl {l:List en}{i:Nat}(h:i+1<l.length):(gG l i).op=false∧(gG l i).hi=(d5 l (i+1)).key:=by unfold gG;rw [if_pos h];exact⟨rfl,rfl⟩
theorem IJ {look:Int→Option dR}(ok:iT look){lv:Nat}{n:Int}{r:fw}{L:List en}(h:yS look lv n r L):L.Pairwise tW:=by
 induction h with
 | leaf n r g hl _ _=>exact oU (ok.uH n g hl)
 | index lv n r g LL hl hk _ hlen hT ih=>
   refine List.pairwise_flatten.2 ⟨fun l hm=> ?_,df.2 fun i j hi hj hij x hx y hy=> ?_⟩
   · obtain⟨i,hi,rfl⟩:=bF hm
     exact ih i hi
   · have h1:=(sN (hT i hi) x hx).1
     have h2:=(sN (hT j hj) y hy).1;rw [qT,aJ] at h1 h2;obtain⟨e1,e2⟩:=Bl (l:=g.items) (i:=i) (by omega);have h3:=(Bj h1.2).2.1 e1;have h4:=(Bj h2.2).1;rw [e2] at h3;rw [Fy,qc] at h4
     have h5:eX (d5 g.items (i+1)).key (d5 g.items j).key≤0:=by
      by_cases e:i+1=j
      · rw [e,nc];exact aY _
      · have:=G9 (ok.uH n g hl) (i:=i+1) (j:=j) (by omega) (by omega)
        omega
     exact rK h3 (Bi h5 h4)
def oV(g:dR)(r:fw):List Int:=((List.range g.items.length).filter fun i=> !nE (gW (gG g.items i) r)).map fun i=>(d5 g.items i).child
inductive py (look : Int → Option dR) (r : fw) : List Int → List en → Nat → Prop where
  | nil : py look r [] [] 0
  | leaf (n : Int) (st : List Int) (g : dR) (out : List en) (k : Nat) : look n = some g → g.kind ≠ 2 → py look r st out k → py look r (n :: st) (g.items.filter (fun x => iV r x.key) ++ out) (k + 1)
  | index (n : Int) (st : List Int) (g : dR) (out : List en) (k : Nat) : look n = some g → g.kind = 2 → py look r (oV g r ++ st) out k → py look r (n :: st) out (k + 1)
inductive pA (look : Int → Option dR) : List Int → List en → Nat → Prop where
  | nil : pA look [] [] 0
  | leaf (n : Int) (st : List Int) (g : dR) (out : List en) (k : Nat) : look n = some g → g.kind = 1 → pA look st out k → pA look (n :: st) (g.items ++ out) (k + 1)
  | index (n : Int) (st : List Int) (g : dR) (out : List en) (k : Nat) : look n = some g → g.kind = 2 → pA look (g.items.map (·.child) ++ st) out k → pA look (n :: st) out (k + 1)
theorem Lb {l:List en}(h:∀x∈l,U8 x.key){i:Nat}(hi:i<l.length):wT (gG l i):=by
 unfold gG;split
 · rename_i h2
   exact⟨h _ (jF hi),h _ (jF h2)⟩
 · exact⟨h _ (jF hi),fun z hz=>by cases hz⟩
theorem N7 {n:Nat}{l:List en}(h:∀x∈l,x.key.length≤n){i:Nat}(hi:i<l.length):nN n (gG l i):=by
 unfold gG;split
 · rename_i h2
   exact⟨h _ (jF hi),h _ (jF h2)⟩
 · exact⟨h _ (jF hi),aG _⟩
theorem Td {look:Int→Option dR}(ok:iT look){lv:Nat}{n:Int}{r:fw}{L:List en}(h:yS look lv n r L):∀x∈L,U8 x.key:=by
 induction h with
 | leaf n r g hl _ _=>exact ok.u8 n g hl
 | index lv n r g LL _ _ _ _ _ ih=>
   intro x hx;obtain⟨l,hl,hx⟩:=List.mem_flatten.1 hx;obtain⟨i,hi,rfl⟩:=bF hl;exact ih i hi x hx
end Go.fB
namespace Go.fB
def kt(look:Int→Option dR)(c:Int)(s s':nm):Prop:= ∃X:List Int,s'.1=X++s.1∧(s.1.Nodup→s'.1.Nodup)∧(∀m∈X,look m≠none)∧s'.2≤s.2+8*(X.length:Int)+c
theorem kt.refl(look:Int→Option dR)(s:nm):kt look 0 s s:=⟨[],rfl,id,fun m hm=>(by cases hm),by simp⟩
theorem kt.le {look:Int→Option dR}{c c':Int}{s s':nm}(h:kt look c s s')(hc:c≤c'):kt look c' s s':=by
 obtain⟨X,h1,h2,h3,h4⟩:=h;exact⟨X,h1,h2,h3,by omega⟩
theorem kt.trans {look:Int→Option dR}{c c':Int}{s s' Zq:nm}(h:kt look c s s')(h':kt look c' s' Zq):kt look (c+c') s Zq:=by
 obtain⟨X,h1,h2,h3,h4⟩:=h;obtain⟨Y,g1,g2,g3,g4⟩:=h';refine⟨Y++X,by rw [g1,h1,bZ],fun h=>g2 (h2 h),fun m hm=> ?_,?_⟩
 · rcases aK.1 hm with h | h
   · exact g3 m h
   · exact h3 m h
 · rw [au]
   omega
theorem sO {look:Int→Option dR}{s:nm}{n:Int}{g:dR}(h:gy look s.1 n=some g)(k:Int):kt look (-8+k) s (n :: s.1,s.2+k):=by
 unfold gy at h;split at h
 · cases h
 · rename_i hn
   refine⟨[n],rfl,fun hs=>List.nodup_cons.2 ⟨hn,hs⟩,fun m hm=> ?_,?_⟩
   · obtain rfl:=aC.1 hm
     rw [h];simp
   · show s.2+k≤ _
     simp only [List.length_singleton];omega
theorem xP(look:Int→Option dR):∀(f:Nat) (lack n:Int) (M:List Int) (k:Int),kt look 0 (M,k) ((jv look f lack n M).2,k)
 | 0,_,_,M,k=>kt.refl look _
 | f+1,lack,n,M,k=>by
   unfold jv;split
   · exact kt.refl look _
   · cases he:gy look M n with
     | none=>exact kt.refl look _
     | some g=>
       have h1:kt look (-8) (M,k) (n :: M,k):=by have:=sO (s:=(M,k)) he 0;simpa using this
       dsimp only;split
       · exact h1.le (by omega)
       · split
         · exact h1.le (by omega)
         · exact(h1.trans (xP look f _ _ (n :: M) k)).le (by omega)
theorem IL(look:Int→Option dR)(x:en)(r:fw)(s:nm):kt look 1 s (g_ look x r s).2:=by
 unfold g_;split
 · exact(kt.refl look s).le (by omega)
 · have h0:kt look 1 s (s.1,s.2+1):=⟨[],rfl,id,fun m hm=>(by cases hm),by simp⟩
   split
   · exact h0
   · have h1:=xP look x.size.toNat x.size x.child s.1 (s.2+1)
     exact h0.trans h1
theorem uW {look:Int→Option dR}{step:Nat→nm→Int × nm}{c:Int}(hc:0≤c)(hs:∀i s,kt look c s (step i s).2):∀(k i:Nat) (s:nm),kt look (c*k) s (jE step i k s).2
 | 0,i,s=>by
   show kt look _ s s
   exact(kt.refl look s).le (by simp)
 | k+1,i,s=>by
   unfold jE;have e:c*((k+1:Nat):Int)=c+c*k:=by rw [Int.natCast_add,Int.mul_add];simp;omega
   have hk:0≤c*(k:Int):=Int.mul_nonneg hc (by omega);split
   · exact(hs i s).le (by omega)
   · rw [e]
     exact(hs i s).trans (uW hc hs k (i+1) _)
theorem zC {look:Int→Option dR}(ok:iT look):∀(lv:Nat) (n least:Int) (r:fw) (s:nm),kt look 0 s (fq look lv n least r s).2
 | 0,n,least,r,s=>by
   unfold fq;cases he:gy look s.1 n with
   | none=>exact kt.refl look s
   | some g=>
     have h1:kt look (-8) s (n :: s.1,s.2):=by have:=sO he 0;simpa using this
     have h8:g.items.length≤8:=by
      have hl:look n=some g:=by
       unfold gy at he;split at he
       · cases he
       · exact he
      exact(fU (ok.uH n g hl)).n
     dsimp only;split
     · exact h1.le (by omega)
     · split
       · exact h1.le (by omega)
       · exact(h1.trans (uW (c:=1) (by omega) (fun i s=>IL look (d5 g.items i) r s) g.items.length 0 _)).le (by omega)
 | lv+1,n,least,r,s=>by
   unfold fq;cases he:gy look s.1 n with
   | none=>exact kt.refl look s
   | some g=>
     have h1:kt look (-8) s (n :: s.1,s.2):=by have:=sO he 0;simpa using this
     dsimp only;split
     · exact h1.le (by omega)
     · split
       · exact h1.le (by omega)
       · exact(h1.trans (uW (c:=0) (by omega) (fun i s=>zC ok lv (d5 g.items i).child 4 (gW r (gG g.items i)) s) g.items.length 0 _)).le (by omega)
theorem qU:∀(n:Nat) (X:List Int),X.Nodup→(∀m∈X,1≤m∧m≤(n:Int))→X.length≤n
 | 0,X,_,h=>by
   cases X with
   | nil=>simp
   | cons x X=>have:=h x (by simp);omega
 | n+1,X,hx,h=>by
   by_cases hm:((n+1:Nat):Int)∈X
   · have h1:=qU n (X.erase ((n+1:Nat):Int)) (hx.erase _) (fun m hm2=>by
      have h2:=List.mem_of_mem_erase hm2
      have h3:=h m h2
      have h4:m≠((n+1:Nat):Int):=fun e=>by
       subst e
       exact(List.Nodup.not_mem_erase hx) hm2
      omega)
     rw [List.length_erase_of_mem hm] at h1;omega
   · have h1:=qU n X hx (fun m hm2=>by
      have h3:=h m hm2
      have h4:m≠((n+1:Nat):Int):=fun e=>hm (e ▸ hm2)
      omega)
     omega
theorem C' {look:Int→Option dR}(ok:iT look){root dT items:Int}(h:iW look root dT items=0){n:Nat}(hn:∀m,look m≠none→1≤m∧m≤(n:Int)):items≤8*(n:Int):=by
 unfold iW at h;split at h
 · rename_i h0;omega
 · split at h
   · cases h
   · split at h
     · rename_i h1;exact absurd h h1
     · split at h
       · cases h
       · rename_i _ _ _ he
         obtain⟨X,h1,h2,h3,h4⟩:=zC ok (dT-1).toNat root (min dT 2) ju (([],0):nm);have h5:=h2 List.nodup_nil;rw [h1,aV] at h5;have h6:=qU n X h5 (fun m hm=>hn m (h3 m hm));have h7:(fq look (dT-1).toNat root (min dT 2) ju ([],0)).2.2=items:=by omega
         rw [h7] at h4;have h8:(([],0):nm).2=0:=rfl;omega
end Go.fB
