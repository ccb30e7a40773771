/- How many pages are gone into when a tree is gone over. No program in sight. -/
import Derived.Test.YtiegeadmgpanoaaGreatDoorL13
set_option maxRecDepth 100000
set_option maxHeartbeats 16000000
namespace Go.fB
theorem Le {look:Int→Option dR}{r:fw}{st:List Int}{out:List en}{k:Nat}(h:py look r st out k):st.length≤k:=by
 induction h with
 | nil=>exact aD _
 | leaf n st g out k _ _ _ ih=>simp;omega
 | index n st g out k _ _ _ ih=>rw [au] at ih;simp;omega
theorem IV {look:Int→Option dR}{st:List Int}{out:List en}{k:Nat}(h:pA look st out k):st.length≤k:=by
 induction h with
 | nil=>exact aD _
 | leaf n st g out k _ _ _ ih=>simp;omega
 | index n st g out k _ _ _ ih=>rw [au] at ih;simp;omega
theorem zK {a lv c:Nat}(ha:a≤8)(hc:c≤a*9 ^ lv):c+1≤9 ^ (lv+1):=by
 have h1:a*9 ^ lv≤8*9 ^ lv:=bM _ ha;have h2:1≤9 ^ lv:=Nat.one_le_pow _ _ (by omega);rw [Nat.pow_succ];omega
theorem Lf {look:Int→Option dR}(ok:iT look)(r:fw)(hr:wT r){lv:Nat}{n:Int}{q:fw}{L:List en}(h:yS look lv n q L):∃c,c≤9 ^ lv∧∀st out m,py look r st out m→py look r (n :: st) (L.filter (fun x=>iV r x.key)++out) (c+m):=by
 induction h with
 | leaf n q g hl hk _=>exact⟨1,by simp,fun st out m ht=>by rw [Nat.add_comm];exact .leaf n st g out m hl (by omega) ht⟩
 | index lv n q g LL hl hk _ hlen hT ih=>
   have key:∀d,d≤LL.length→∃c,c≤d*9 ^ lv∧∀st out m,py look r st out m→py look r ((((List.range' (LL.length-d) d).filter fun i=> !nE (gW (gG g.items i) r)).map fun i=>(d5 g.items i).child)++st) ((LL.drop (LL.length-d)).flatten.filter (fun x=>iV r x.key)++out) (c+m):=by
    intro d;induction d with
    | zero=>exact fun _=>⟨0,by simp,fun st out m ht=>by simpa using ht⟩
    | succ d Xx=>
      intro hd;obtain⟨c1,hc1,h1⟩:=Xx (by omega);obtain⟨i,hi⟩:∃i,LL.length-(d+1)=i:=⟨_,rfl⟩;have xd:LL.length-d=i+1:=by omega
      have hil:i<LL.length:=by omega
      obtain⟨c2,o7,h2⟩:=ih i hil;rw [xd] at h1;rw [hi,List.range'_succ,aQ hil,List.flatten_cons,cG];by_cases he:nE (gW (gG g.items i) r)=true
      · rw [dt (by rw [he];simp)]
        have hz:(LL[i].filter fun x=>iV r x.key)= []:=by
         refine cu.2 fun x hx=> ?_
         have g1:=(sN (hT i hil) x hx).1;rw [qT,aJ] at g1;have g2:=Fx he (tV (Lb (ok.u8 n g hl) (by omega)) hr).lo (Td ok (hT i hil) x hx);rw [qT,g1.2,Bool.true_and] at g2;rw [g2];simp
        rw [hz,List.nil_append];exact⟨c1,by rw [bJ];omega,h1⟩
      · rw [du (by simpa using he),aT]
        refine⟨c2+c1,by rw [bJ];omega,fun st out m ht=> ?_⟩;rw [List.cons_append,bZ,cN];exact h2 _ _ _ (h1 st out m ht)
   obtain⟨c,hc,h1⟩:=key LL.length (aD _);refine⟨c+1,zK (a:=LL.length) (by have:=(fU (ok.uH n g hl)).n;omega) hc,fun st out m ht=> ?_⟩;have h2:=h1 st out m ht;rw [b_,cH, ← List.range_eq_range',hlen] at h2;rw [show c+1+m=c+m+1 by omega];exact .index n st g _ _ hl hk h2
theorem IW {look:Int→Option dR}(ok:iT look){lv:Nat}{n:Int}{q:fw}{L:List en}(h:yS look lv n q L):∃c,c≤9 ^ lv∧∀st out m,pA look st out m→pA look (n :: st) (L++out) (c+m):=by
 induction h with
 | leaf n q g hl hk _=>exact⟨1,by simp,fun st out m ht=>by rw [Nat.add_comm];exact .leaf n st g out m hl hk ht⟩
 | index lv n q g LL hl hk _ hlen hT ih=>
   have key:∀d,d≤LL.length→∃c,c≤d*9 ^ lv∧∀st out m,pA look st out m→pA look (((g.items.drop (LL.length-d)).map (·.child))++st) ((LL.drop (LL.length-d)).flatten++out) (c+m):=by
    intro d;induction d with
    | zero=>exact fun _=>⟨0,by simp,fun st out m ht=>by
      rw [Nat.sub_zero,bP,hlen,bP]
      simpa using ht⟩
    | succ d Xx=>
      intro hd;obtain⟨c1,hc1,h1⟩:=Xx (by omega);obtain⟨i,hi⟩:∃i,LL.length-(d+1)=i:=⟨_,rfl⟩;have xd:LL.length-d=i+1:=by omega
      have hil:i<LL.length:=by omega
      obtain⟨c2,o7,h2⟩:=ih i hil;rw [xd] at h1;refine⟨c2+c1,by rw [bJ];omega,fun st out m ht=> ?_⟩;rw [hi,aQ hil,aQ (by omega:i<g.items.length),List.flatten_cons,aT,List.cons_append,bZ,cN, ← gn (by omega:i<g.items.length)];exact h2 _ _ _ (h1 st out m ht)
   obtain⟨c,hc,h1⟩:=key LL.length (aD _);refine⟨c+1,zK (a:=LL.length) (by have:=(fU (ok.uH n g hl)).n;omega) hc,fun st out m ht=> ?_⟩;have h2:=h1 st out m ht;rw [b_,cH,cH] at h2;rw [show c+1+m=c+m+1 by omega];exact .index n st g _ _ hl hk h2
theorem Ha {lv c:Nat}(h:c≤9 ^ lv)(hlv:lv≤11):c≤31381059609:=bK h (bK (dF (by omega) hlv) (by decide))
end Go.fB
namespace Go.fB
def pE(key:List Int):List en→Nat
 | []=>0
 | x :: l=>if 0<eX x.key key then 0 else pE key l+1
def ku(l:List en)(key:List Int):Nat:=pE key l.tail
theorem zL(key:List Int):∀l:List en,pE key l≤l.length∧(∀j,j<pE key l→eX (d5 l j).key key≤0)∧(pE key l<l.length→0<eX (d5 l (pE key l)).key key)
 | []=>⟨aD _,fun j h=>absurd h (Nat.not_lt_zero j),fun h=>absurd h (Nat.lt_irrefl _)⟩
 | x :: l=>by
   obtain⟨h1,h2,h3⟩:=zL key l;unfold pE;split
   · rename_i h
     exact⟨aG _,fun j hj=>absurd hj (Nat.not_lt_zero j),fun _=>h⟩
   · rename_i h
     refine⟨by simp;omega,fun j hj=> ?_,fun hl=> ?_⟩
     · cases j with
       | zero=>show eX x.key key≤0;omega
       | succ j=>exact h2 j (by omega)
     · exact h3 (by simpa using hl)
theorem xW(key:List Int){l:List en}(hl:l≠ []):ku l key<l.length∧(∀j,1≤j→j≤ku l key→eX (d5 l j).key key≤0)∧(ku l key+1<l.length→0<eX (d5 l (ku l key+1)).key key):=by
 cases l with
 | nil=>exact absurd rfl hl
 | cons x l=>
   obtain⟨h1,h2,h3⟩:=zL key l;show pE key l< _∧(∀j,1≤j→j≤pE key l→ _)∧(pE key l+1< _→ _)
   refine⟨by simp;omega,fun j g1 g2=> ?_,fun h=> ?_⟩
   · obtain⟨j,rfl⟩:∃i,j=i+1:=⟨j-1,by omega⟩
     exact h2 j (by omega)
   · exact h3 (by simpa using h)
def oz(look:Int→Option dR)(key:List Int):Nat→Int→List Int
 | 0,n=> [n]
 | lv+1,n=>n :: match look n with
   | some g=>oz look key lv (d5 g.items (ku g.items key)).child
   | none=> []
def xX(look:Int→Option dR)(key:List Int):Nat→Int→Int
 | 0,n=>n
 | lv+1,n=>match look n with
   | some g=>xX look key lv (d5 g.items (ku g.items key)).child
   | none=>0
theorem Hb {look:Int→Option dR}(ok:iT look)(key:List Int){lv:Nat}{n:Int}{q:fw}{L:List en}(h:yS look lv n q L):((oz look key lv n).length=lv+1∧(oz look key lv n)[lv]? =some (xX look key lv n)∧(oz look key lv n)[0]? =some n)∧
 ∃g,look (xX look key lv n)=some g∧g.kind=1∧(∀x∈g.items,x∈L)∧∀x∈L,x.key=key→x∈g.items:=by
 induction h with
 | leaf n q g hl hk _=>exact⟨⟨rfl,rfl,rfl⟩,g,hl,hk,fun x hx=>hx,fun x hx _=>hx⟩
 | index lv n q g LL hl hk _ hlen hT ih=>
   unfold oz xX;rw [hl];have h2:=((je (ok.uH n g hl)).index hk).2.2;obtain⟨r1,r2,r3⟩:=xW key (l:=g.items) (fun e=>by rw [e] at h2;simp at h2);obtain⟨⟨a1,a2,_⟩,g1,b1,b2,b3,b4⟩:=ih (ku g.items key) (by omega)
   refine⟨⟨by rw [List.length_cons];exact congrArg (· +1) a1,by rw [List.getElem?_cons_succ];exact a2,rfl⟩,g1,b1,b2,fun x hx=>List.mem_flatten.2 ⟨_,aE (by omega),b3 x hx⟩,fun x hx hxk=> ?_⟩;obtain⟨l,hm,hx⟩:=List.mem_flatten.1 hx;obtain⟨j,hj,rfl⟩:=bF hm;have hh:=(sN (hT j hj) x hx).1;rw [qT,aJ] at hh;obtain⟨c1,c2,_⟩:=Bj hh.2
   rw [Fy,hxk,qc] at c1
   have e:j=ku g.items key:=by
    rcases Nat.lt_trichotomy j (ku g.items key) with h | h | h
    · exfalso
      obtain⟨e1,e2⟩:=Bl (l:=g.items) (i:=j) (by omega);have d1:=c2 e1;rw [e2,hxk] at d1;have d2:=r2 (j+1) (by omega) (by omega);rw [qH] at d1;omega
    · exact h
    · exfalso
      have d1:=r3 (by omega)
      have d2:eX (d5 g.items (ku g.items key+1)).key (d5 g.items j).key≤0:=by
       by_cases e:ku g.items key+1=j
       · rw [e,nc];exact aY _
       · have:=G9 (ok.uH n g hl) (i:=ku g.items key+1) (j:=j) (by omega) (by omega)
         omega
      have:=Bi d2 c1
      omega
   subst e;exact b4 x hx hxk
def i_(key:List Int):List en→Nat × Bool
 | []=>(0,false)
 | x :: l=>if 0≤eX x.key key then(0,eX x.key key == 0) else((i_ key l).1+1,(i_ key l).2)
def vI(key:List Int)(l:List en):Option en:=l.find? fun x=>eX x.key key == 0
theorem qX(key:List Int):∀ {l:List en},l.Pairwise tW→(i_ key l).1≤l.length∧((i_ key l).2=true→(i_ key l).1<l.length∧(d5 l (i_ key l).1).key=key)∧((i_ key l).2=false→∀x∈l,x.key≠key)
 | [],_=>⟨aD _,fun h=>by(cases h),fun _ x hx=>by(cases hx)⟩
 | x :: l,h=>by
   obtain⟨p1,p2⟩:=cF.1 h;obtain⟨h1,h2,h3⟩:=qX key p2;unfold i_;split
   · rename_i h0
     refine⟨aG _,fun e=>⟨by simp,cmp_eq (eq_of_beq e)⟩,fun e y hy hk=> ?_⟩;rcases aR.1 hy with rfl | hy
     · rw [hk,nc] at e
       cases e
     · have:=p1 y hy
       unfold tW at this;rw [hk] at this;omega
   · rename_i h0
     refine⟨by simp;exact h1,fun e=> ?_,fun e y hy hk=> ?_⟩
     · obtain⟨g1,g2⟩:=h2 e
       exact⟨by simp;exact g1,g2⟩
     · rcases aR.1 hy with rfl | hy
       · rw [hk,nc] at h0
         omega
       · exact h3 e y hy hk
theorem Dd {L:List en}(h:L.Pairwise tW){x y:en}(hx:x∈L)(hy:y∈L)(e:x.key=y.key):x=y:=by
 obtain⟨i,hi,rfl⟩:=bF hx;obtain⟨j,hj,rfl⟩:=bF hy;rcases Nat.lt_trichotomy i j with h1 | h1 | h1
 · have:=df.1 h i j hi hj h1
   unfold tW at this;rw [e,nc] at this;omega
 · subst h1;rfl
 · have:=df.1 h j i hj hi h1
   unfold tW at this;rw [e,nc] at this;omega
theorem Oc {look:Int→Option dR}(ok:iT look)(key:List Int){lv:Nat}{n:Int}{q:fw}{L:List en}(h:yS look lv n q L){g:dR}(hg:look (xX look key lv n)=some g):
 ((i_ key g.items).2=true→(i_ key g.items).1<g.items.length∧vI key L=some (d5 g.items (i_ key g.items).1))∧((i_ key g.items).2=false→vI key L=none):=by
 obtain⟨_,g1,b1,b2,b3,b4⟩:=Hb ok key h;obtain rfl:g1=g:=Option.some.inj (b1.symm.trans hg);obtain⟨_,s2,s3⟩:=qX key (oU (ok.uH _ g1 b1));refine⟨fun e=> ?_,fun e=> ?_⟩
 · obtain⟨c1,c2⟩:=s2 e
   refine⟨c1,?_⟩;have hm:=b3 _ (jF c1);cases hf:vI key L with
   | none=>
     have:=List.find?_eq_none.1 hf _ hm
     rw [c2,nc] at this;exact absurd rfl this
   | some y=>
     have h1:=List.mem_of_find?_eq_some hf;have h2:=List.find?_some hf;exact congrArg some (Dd (IJ ok h) h1 hm (by rw [c2];exact cmp_eq (eq_of_beq h2)))
 · refine List.find?_eq_none.2 fun x hx hk=> ?_
   have hk2:=cmp_eq (eq_of_beq hk);exact s3 e x (b4 x hx hk2) hk2
end Go.fB
