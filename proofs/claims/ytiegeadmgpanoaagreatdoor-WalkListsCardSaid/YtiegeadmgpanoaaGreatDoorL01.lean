/- A region that draws its order, walked once: its acts (calls, stores, appends) come in one forced order, all else only reads. Plain lemmas over any program. -/
import Derived.Orders
import Derived.Lib.Hide
set_option maxRecDepth 100000
set_option maxHeartbeats 16000000
namespace Go
theorem RowKit.Hid.af {p:Prop}(h:RowKit.Hid p):p:=h
abbrev ag:=@List.getElem?_eq_getElem
abbrev au:=@List.length_append
abbrev ay:=@World.block_lt_of_cell?
abbrev az:=@List.getD_eq_getElem?_getD
abbrev aA:=@Array.getElem?_eq_some_iff
abbrev aB:=@Nat.lt_or_ge
abbrev aC:=@List.mem_singleton
abbrev aD:=@Nat.le_refl
abbrev aE:=@List.getElem_mem
abbrev aF:=@List.take_succ_eq_append_getElem
abbrev aG:=@Nat.zero_le
abbrev aH:=@List.length_map
abbrev aI:=@List.map_append
abbrev aJ:=@Bool.and_eq_true
abbrev aK:=@List.mem_append
abbrev aL:=@Bool.eq_iff_iff
abbrev aM:=@List.eq_nil_of_length_eq_zero
abbrev aN:=@List.flatMap_append
abbrev aO:=@List.getElem?_map
abbrev aP:=@List.mem_range
abbrev aQ:=@List.drop_eq_getElem_cons
abbrev aR:=@List.mem_cons
abbrev aS:=@Array.getD_eq_getD_getElem?
abbrev aT:=@List.map_cons
abbrev aU:=@List.length_set
abbrev aV:=@List.append_nil
abbrev aW:=@List.length_take
abbrev aX:=@List.flatMap_cons
abbrev aY:=@Int.le_refl
abbrev aZ:=@List.map_nil
abbrev a_:=@List.append_toArray
abbrev bf:=@List.mem_append_left
abbrev bj:=@List.getElem_append_right
abbrev bm:=@List.mem_filter
abbrev bq:=@List.mem_cons_self
abbrev bu:=@List.size_toArray
abbrev bz:=@List.getElem_append_left
abbrev bA:=@Bool.false_eq_true
abbrev bB:=@List.push_toArray
abbrev bC:=@List.all_eq_true
abbrev bD:=@List.zip_append
abbrev bE:=@List.take_length
abbrev bF:=@List.getElem_of_mem
abbrev bG:=@List.getElem?_append_left
abbrev bH:=@List.mem_map
abbrev bI:=@Nat.eq_zero_or_pos
abbrev bJ:=@Nat.succ_mul
abbrev bK:=@Nat.le_trans
abbrev bL:=@List.mem_cons_of_mem
abbrev bM:=@Nat.mul_le_mul_right
abbrev bN:=@List.map_set
abbrev bO:=@Array.getElem?_eq_getElem
abbrev bP:=@List.drop_length
abbrev bQ:=@List.getElem_map
abbrev bR:=@Array.all_eq_true_iff_forall_mem
abbrev bS:=@List.take_of_length_le
abbrev bT:=@List.mem_append_right
abbrev bU:=@Bool.or_eq_true
abbrev bV:=@List.getElem?_append_right
abbrev bW:=@List.take_append_of_le_length
abbrev bX:=@List.length_filter_le
abbrev bY:=@List.set_append_right
abbrev bZ:=@List.append_assoc
abbrev b_:=@Nat.sub_self
abbrev cf:=@Nat.lt_succ_self
abbrev cg:=@List.exists_mem_of_ne_nil
abbrev cn:=@List.getElem?_set_ne
abbrev cq:=@List.ext_getElem
abbrev cu:=@List.filter_eq_nil_iff
abbrev cy:=@List.drop_eq_nil_of_le
abbrev cB:=@Nat.zero_mul
abbrev cC:=@List.mem_or_eq_of_mem_set
abbrev cE:=@List.getElem?_eq_some_iff
abbrev cF:=@List.pairwise_cons
abbrev cG:=@List.filter_append
abbrev cH:=@List.drop_zero
abbrev cJ:=@List.filter_eq_self
abbrev cK:=@List.getElem?_set_self
abbrev cM:=@Nat.mul_one
abbrev cN:=@Nat.add_assoc
abbrev cT:=@List.map_toArray
abbrev cV:=@List.flatMap_nil
abbrev cX:=@List.setIfInBounds_toArray
abbrev cY:=@Nat.lt_of_lt_of_le
abbrev cZ:=@List.map_replicate
abbrev c_:=@List.getElem?_eq_none
abbrev dc:=@List.take_append_drop
abbrev de:=@List.getElem_set_self
abbrev df:=@List.pairwise_iff_getElem
abbrev dj:=@List.mem_of_mem_take
abbrev dk:=@Array.getElem?_setIfInBounds_ne
abbrev dm:=@Array.getElem?_push
abbrev dn:=@List.length_reverse
abbrev dp:=@List.getElem_zip
abbrev dq:=@List.length_drop
abbrev dr:=@List.not_mem_nil
abbrev dt:=@List.filter_cons_of_neg
abbrev du:=@List.filter_cons_of_pos
abbrev dx:=@List.mem_singleton_self
abbrev dy:=@List.drop_of_length_le
abbrev dA:=@List.getElem_range
abbrev dB:=@Array.size_push
abbrev dC:=@List.range_succ
abbrev dD:=@List.set_getElem_self
abbrev dE:=@List.set_append_left
abbrev dF:=@Nat.pow_le_pow_right
abbrev dG:=@List.mem_of_getElem?
abbrev dH:=@List.filter_cons
abbrev dI:=@List.any_eq_true
abbrev dJ:=@List.reverse_append
end Go
namespace Go
theorem hQ {p : Prop} (h : p) : RowKit.Hid p := h
theorem pQ : (∀ (α : Type) (a : α) (l : List α) (n : Nat), (a :: l).drop (n + 1) = l.drop n) ∧ (∀ (α : Type) (l : List α), l.drop 0 = l) ∧ (∀ (α : Type) (a : α) (l : List α) (n : Nat), (a :: l).take (n + 1) = a :: l.take n) ∧ (∀ (α : Type) (l : List α), l.take 0 = []) ∧ (∀ (α : Type) (a : α) (l m : List α), (a :: l) ++ m = a :: (l ++ m)) ∧ (∀ (α : Type) (l : List α), [] ++ l = l) := ⟨fun _ _ _ _ => rfl, fun _ _ => rfl, fun _ _ _ _ => rfl, fun _ _ => rfl, fun _ _ _ _ => rfl, fun _ _ => rfl⟩
end Go
namespace Go.Sl
def lR(o:Oper)(j:Nat):Bool:=o.after.any fun e=>Region.binds .any e && e.on == j
def lH(ops:Array Oper)(j:Nat):Option Tmp:=(ops[j]?).bind (·.dst)
def B':Op→Bool
 | .select .. =>true
 | _=>false
def kD(ops:Array Oper)(sz:Nat):Bool:=
 (List.range ops.size).all fun i=>match ops[i]? with
   | none=>true
   | some o=> !B' o.op && (o.dst.all fun d=>decide (d<sz)) && (o.after.all fun e=> !Region.binds .any e || decide (e.on<i)) &&
     (List.range ops.size).all fun j=>match lH ops j with
       | none=>true
       | some d=>(!(o.looksAt ops).contains d || lR o j) && (i == j || o.dst != some d)
def kE(ops:Array Oper):List Nat→List Nat→Bool
 | _,[]=>true
 | D,i :: l=> !D.contains i && decide (i<ops.size) && (match ops[i]? with
     | none=>true
     | some o=>(List.range ops.size).all fun j=>match lH ops j with
       | none=>true
       | some d=> !(o.looksAt ops).contains d || D.contains j) && kE ops (D++ [i]) l
def mL(ops:Array Oper):List Nat→List Nat→List (Nat × List Nat × List Nat)→Bool
 | D,_,[]=>(List.range ops.size).all fun i=>D.contains i
 | D,Fd,(x,E,C) :: rest=>
   !D.contains x && decide (x<ops.size) &&
   ((List.range ops.size).all fun i=>D.contains i || i == x || (match ops[i]? with
     | none=>true
     | some o=>o.after.any fun e=>Region.binds .any e && !D.contains e.on)) &&
   (D.all fun i=>C.contains i || Fd.contains i || (ops[x]?).any fun o=>lR o i) &&
   kE ops (D++ [x]) E &&
   mL ops (D++x :: E) (Fd++x :: D.filter fun i=>(ops[x]?).any fun o=>lR o i) rest
def kV(P:Program)(ops:Array Oper)(i:Nat)(f:Act)(w:World):Prop:=
 match ops[i]? with
 | none=>True
 | some o=>
   (Region.wanted o (yielded ops f.tmps)=true∧∃v,(execOp f.eval o).run P w= .ok (.value v) w∧∀d,o.dst=some d→f.tmps[d]? =some v)∨
   (Region.wanted o (yielded ops f.tmps)=false∧∀d,o.dst=some d→f.tmps[d]? =some undef)
def pO(P:Program)(ops:Array Oper):List Nat→(Act→Prop)→Act→World→Prop
 | [],N,a,_=>N a
 | i :: l,N,a,w=>match ops[i]? with
   | none=>False
   | some o=>(Region.wanted o (yielded ops a.tmps)=true∧∃v,(execOp a.eval o).run P w= .ok (.value v) w∧pO P ops l N (a.put o.dst v) w)∨
      (Region.wanted o (yielded ops a.tmps)=false∧pO P ops l N (a.put o.dst undef) w)
def B9(P:Program)(ops:Array Oper)(C:List Nat)(f:Act)(w:World):Prop:= ∀i∈C,kV P ops i f w
def Kn(K:Act→World→Prop):Exit→Act→World→Prop
 | .normal,a,w=>K a w
 | _,_,_=>False
def kF(P:Program)(ops:Array Oper)(Q:Exit→Act→World→Prop):List (Nat × List Nat × List Nat)→Act→World→Prop
 | [],f,w=>Q .normal f w
 | (x,E,C) :: rest,f,w=>match ops[x]? with
   | none=>False
   | some o=>wpList P ops (Kn fun f1 w1=>pO P ops E (fun f2=>B9 P ops C f2 w1∧kF P ops Q rest f2 w1) f1 w1) [o] f w
section
variable {P:Program}{ops:Array Oper}{sz:Nat}
theorem mo(hs:kD ops sz=true){i:Nat}{o:Oper}(ho:ops[i]? =some o):
 (∀cs b,o.op≠ .select cs b)∧(∀d,o.dst=some d→d<sz)∧(∀e∈o.after,Region.binds .any e=true→e.on<i)∧
 (∀j d,lH ops j=some d→(d∈o.looksAt ops→lR o j=true)∧(i≠j→o.dst≠some d)):=by
 have hi:i<ops.size:=(aA.1 ho).1;have h:=bC.1 hs i (aP.2 hi);simp only [ho,aJ] at h;obtain⟨⟨⟨h1,h2⟩,h3⟩,h4⟩:=h;refine⟨fun cs b e=>by rw [e] at h1;simp [B'] at h1,fun d hd=>by rw [hd] at h2;simpa using h2,fun e he hb=> ?_,fun j d hj=> ?_⟩
 · have:=bR.1 h3 e he
   simpa [hb] using this
 · have hjs:j<ops.size:=by
    unfold lH at hj;cases hx:ops[j]? with
    | none=>simp [hx] at hj
    | some _=>exact(aA.1 hx).1
   have:=bC.1 h4 j (aP.2 hjs)
   simp only [hj,aJ,bU] at this;obtain⟨t1,t2⟩:=this;refine⟨fun hm=> ?_,fun hne hd=> ?_⟩
   · rcases t1 with t | t
     · simp [hm] at t
     · exact t
   · rcases t2 with t | t
     · exact hne (by simpa using t)
     · simp [hd] at t
theorem nR {o:Oper}{a f:Act}(hn:∀cs b,o.op≠ .select cs b)(h:∀t∈o.looksAt ops,a.tmps[t]? =f.tmps[t]?):
 execOp a.eval o=execOp f.eval o∧Region.wanted o (yielded ops a.tmps)=Region.wanted o (yielded ops f.tmps):=by
 constructor
 · refine execOp_congr o hn fun x hx=> ?_
   cases x with
   | tmp t=>
     have:=h t (bf _ (List.mem_filterMap.2 ⟨.tmp t,by simpa using hx,rfl⟩))
     simp [Act.eval,this]
   | _=>rfl
 · unfold Region.wanted
   cases hg:o.guard with
   | none=>rfl
   | some gw=>
     obtain⟨g,want⟩:=gw
     have:yielded ops a.tmps g=yielded ops f.tmps g:=by
      unfold yielded;cases ht:(ops[g]?).bind (·.dst) with
      | none=>rfl
      | some t=>
        have:=h t (bT _ (by simp [hg,ht]))
        simp [this]
     simp only [this]
theorem lD {a:Act}{d:Option Tmp}{v:Value}{t:Tmp}(h:d≠some t):(a.put d v).tmps[t]? =a.tmps[t]? :=by
 cases d with
 | none=>rfl
 | some d=>simp [Act.put,dk (show d≠t from fun e=>h (by rw [e]))]
theorem kp {a:Act}{d:Tmp}{v:Value}(h:d<a.tmps.size):(a.put (some d) v).tmps[d]? =some v:=by
 simp [Act.put,h]
theorem jP {a:Act}{d:Option Tmp}{v:Value}:(a.put d v).tmps.size=a.tmps.size:=by cases d<;>simp [Act.put]
theorem jQ {a:Act}{d:Option Tmp}{v:Value}:(a.put d v).defers=a.defers:=by cases d<;>rfl
theorem kq:∀(l D:List Nat),kE ops D l=true→∀i∈l,i ∉ D∧i<ops.size:=by
 intro l;induction l with
 | nil=>intro D _ i hi;cases hi
 | cons x l ih=>
   intro D h i hi;simp only [kE,aJ] at h;obtain⟨⟨⟨h1,h2⟩,_⟩,h4⟩:=h;cases hi with
   | head=>exact⟨by simpa using h1,by simpa using h2⟩
   | tail _ hi=>
     have:=ih _ h4 i hi
     exact⟨fun hd=>this.1 (bf _ hd),this.2⟩
theorem lI {i:Nat}{o:Oper}(ho:ops[i]? =some o):lH ops i=o.dst:=by simp [lH,ho]
theorem mU(hs:kD ops sz=true){w:World}:∀(l D:List Nat) (N:Act→Prop) (a:Act),kE ops D l=true→a.tmps.size=sz→pO P ops l N a w→
 ∃f,N f∧f.tmps.size=sz∧f.defers=a.defers∧(∀t,(∀i∈l,lH ops i≠some t)→f.tmps[t]? =a.tmps[t]?)∧∀i∈l,kV P ops i f w:=by
 intro l;induction l with
 | nil=>intro D N a _ hsz h;exact⟨a,h,hsz,rfl,fun _ _=>rfl,fun i hi=>by cases hi⟩
 | cons x l ih=>
   intro D N a Qd hsz h;have Za:=Qd;simp only [kE,aJ] at Qd;obtain⟨⟨⟨h1,h2⟩,h3⟩,h4⟩:=Qd;simp only [pO] at h;cases ho:ops[x]? with
   | none=>simp [ho] at h
   | some o=>
     simp only [ho] at h h3;obtain⟨hn,hlt,_,wG⟩:=mo hs ho;have yL:=kq _ _ h4
     have key:∀(v:Value) (f:Act),(∀t,(∀i∈l,lH ops i≠some t)→f.tmps[t]? =(a.put o.dst v).tmps[t]?)→
      (∀t∈o.looksAt ops,a.tmps[t]? =f.tmps[t]?)∧(∀d,o.dst=some d→f.tmps[d]? =some v)∧(∀t,(∀i∈x :: l,lH ops i≠some t)→f.tmps[t]? =a.tmps[t]?):=by
      intro v f hf;refine⟨fun t ht=> ?_,fun d hd=> ?_,fun t ht=> ?_⟩
      · have Pq:∀j,lH ops j=some t→j∈D:=fun j hj=>by
         have hjs:j<ops.size:=by
          unfold lH at hj;cases hx:ops[j]? with
          | none=>simp [hx] at hj
          | some _=>exact(aA.1 hx).1
         have:=bC.1 h3 j (aP.2 hjs)
         simp only [hj,bU] at this;rcases this with t' | t'
         · simp [ht] at t'
         · simpa using t'
        rw [hf t (fun i hi e=>(yL i hi).1 (bf _ (Pq i e)))];rw [lD];intro e;have:=Pq x (by rw [lI ho];exact e)
        simp [this] at h1
      · rw [hf d (fun i hi e=> ?_),hd,kp (by rw [hsz];exact hlt d hd)]
        have hne:x≠i:=fun e'=>(yL i hi).1 (by rw [← e'];simp)
        exact(wG i d e).2 hne hd
      · rw [hf t (fun i hi=>ht i (bL _ hi)),lD]
        have:=ht x bq
        rw [lI ho] at this;exact this
     rcases h with⟨hw,v,hr,hq⟩ | ⟨hw,hq⟩
     · obtain⟨f,hN,hfs,AB,hft,Et⟩:=ih _ N _ h4 (by rw [jP];exact hsz) hq
       obtain⟨k1,k2,k3⟩:=key v f hft;refine⟨f,hN,hfs,AB.trans jQ,k3,fun i hi=> ?_⟩;cases hi with
       | head=>
         obtain⟨e1,e2⟩:=nR hn k1;simp only [kV,ho];exact .inl ⟨by rw [← e2];exact hw,v,by rw [← e1];exact hr,k2⟩
       | tail _ hi=>exact Et i hi
     · obtain⟨f,hN,hfs,AB,hft,Et⟩:=ih _ N _ h4 (by rw [jP];exact hsz) hq
       obtain⟨k1,k2,k3⟩:=key undef f hft;refine⟨f,hN,hfs,AB.trans jQ,k3,fun i hi=> ?_⟩;cases hi with
       | head=>
         obtain⟨_,e2⟩:=nR hn k1;simp only [kV,ho];exact .inr ⟨by rw [← e2];exact hw,k2⟩
       | tail _ hi=>exact Et i hi
def lG(L:Array Bool)(i:Nat):Prop:=L.getD i true=true
def Ca(ops:Array Oper)(L:Array Bool)(a f:Act):Prop:=
 a.tmps.size=f.tmps.size∧a.defers=f.defers∧∀t,(∀j,lH ops j=some t→lG L j)→a.tmps[t]? =f.tmps[t]?
theorem ft {L:Array Bool}{i j:Nat}:lG (L.setIfInBounds i true) j↔(j=i∨lG L j):=by
 unfold lG;by_cases h:i<L.size
 · by_cases hj:j=i
   · subst hj;simp [h]
   · simp [dk (fun e=>hj e.symm),hj]
 · have:L.setIfInBounds i true=L:=by simp [Array.setIfInBounds,h]
   rw [this];constructor
   · exact .inr
   · rintro(rfl | h')
     · simp [Array.getElem?_eq_none (Nat.le_of_not_lt h)]
     · exact h'
theorem iH {L:Array Bool}{i:Nat}:i∈Region.ready .any ops L↔i<ops.size∧¬lG L i∧∃o,ops[i]? =some o∧∀e∈o.after,Region.binds .any e=true→L.getD e.on false=true:=by
 unfold Region.ready lG;rw [bm,aP];constructor
 · rintro⟨hi,h⟩
   simp only [aJ] at h;obtain⟨h1,h2⟩:=h;refine⟨hi,by simpa using h1,ops[i],bO hi,fun e he hb=> ?_⟩;rw [bO hi] at h2;simp only [Option.map_some,Option.getD_some] at h2;have:=bR.1 h2 e he
   simpa [hb] using this
 · rintro⟨hi,h1,o,ho,h2⟩
   refine⟨hi,?_⟩;simp only [ho,Option.map_some,Option.getD_some,aJ];refine⟨by simpa using h1,?_⟩;rw [bR];intro e he;by_cases hb:Region.binds .any e=true
   · simp [h2 e he hb]
   · simp [hb]
theorem kW(hs:kD ops sz=true){L:Array Bool}(hL:L.size=ops.size):∀(n i:Nat),i≤n→i<ops.size→¬lG L i→∃j,j∈Region.ready .any ops L:=by
 intro n;induction n with
 | zero=>
   intro i hi hlt hu;obtain rfl:i=0:=by omega
   have ho:=bO hlt;obtain⟨_,_,hd,_⟩:=mo hs ho;exact⟨0,iH.2 ⟨hlt,hu,_,ho,fun e he hb=>absurd (hd e he hb) (by omega)⟩⟩
 | succ n ih=>
   intro i hi hlt hu;have ho:=bO hlt;obtain⟨_,_,hd,_⟩:=mo hs ho;by_cases hall:∀e∈ops[i].after,Region.binds .any e=true→L.getD e.on false=true
   · exact⟨i,iH.2 ⟨hlt,hu,_,ho,hall⟩⟩
   · simp only [Classical.not_forall] at hall
     obtain⟨e,he,hb,hn⟩:=hall;have oZ:=hd e he hb;refine ih e.on (by omega) (by omega) ?_;unfold lG;have:e.on<L.size:=by omega
     simp only [aS,bO this,Option.getD_some] at hn ⊢;exact hn
def zi(ops:Array Oper)(L:Array Bool):Nat:=((List.range ops.size).filter fun i=> !L.getD i true).length
theorem wH {L:Array Bool}{i:Nat}(hi:i<ops.size)(hu:¬lG L i):zi ops (L.setIfInBounds i true)+1=zi ops L:=by
 have uI:∀(l:List Nat),l.Nodup→(l.filter fun j=> !(L.setIfInBounds i true).getD j true).length+(if i∈l then 1 else 0)=(l.filter fun j=> !L.getD j true).length:=by
  intro l;induction l with
  | nil=>intro _;simp
  | cons x l ih=>
    intro hnd;have hx:=(List.nodup_cons.1 hnd).1;have:=ih (List.nodup_cons.1 hnd).2
    by_cases Nt:x=i
    · subst Nt
      have h1:(L.setIfInBounds x true).getD x true=true:=ft.2 (.inl rfl);have h2:L.getD x true=false:=by unfold lG at hu;simpa using hu
      rw [if_neg hx] at this;simp only [dH,h1,h2,Bool.not_true,Bool.not_false,if_true,aR,true_or,List.length_cons,bA,if_false];omega
    · have h1:(L.setIfInBounds i true).getD x true=L.getD x true:=by
       simp [dk (fun e=>Nt e.symm)]
      have h3:(i∈x :: l)=(i∈l):=by simp [show (i=x)=False from eq_false (fun e=>Nt e.symm)]
      simp only [dH,h1,h3];split<;>(try simp only [List.length_cons])<;>omega
 have:=uI (List.range ops.size) List.nodup_range
 rw [if_pos (aP.2 hi)] at this;exact this
theorem uJ {L:Array Bool}{a f:Act}(h:Ca ops L a f)(hall:∀i,i<ops.size→lG L i):a=f:=by
 obtain⟨h1,h2,h3⟩:=h
 have:a.tmps=f.tmps:=by
  apply Array.ext_getElem?;intro t
  exact h3 t fun j hj=>hall j (by
   unfold lH at hj
   cases hx:ops[j]? with
   | none=>simp [hx] at hj
   | some _=>exact(aA.1 hx).1)
 cases a;cases f;simp_all
theorem qA {o:Oper}{a f:Act}{w:World}{K Kr:Act→World→Prop}{Q:Exit→Act→World→Prop}{K2:Act→World→Prop}(he:execOp a.eval o=execOp f.eval o)(hd:a.defers=f.defers)
 (hK:∀v ds w',K (({ f with defers:=ds }:Act).put o.dst v) w'→Kr (({ a with defers:=ds }:Act).put o.dst v) w') (h:o.wp P f w K (Kn K2)):o.wp P a w Kr Q:=by
 unfold Oper.wp at*;rw [he];generalize (execOp f.eval o).run P w=r at*
 have lS:∀v w',K (f.put o.dst v) w'→Kr (a.put o.dst v) w':=fun v w' h=>by
  have:=hK v f.defers w' h
  rw [← hd] at this;exact this
 cases r with
 | ok n w'=>
   cases n<;>simp only [Oper.upon] at h ⊢ <;>
    first
     | exact lS _ _ h
     | (rw [hd];exact hK _ _ _ h)
     | exact Calls.mono h (fun e w'' he=>by
        cases e with
        | returned v=>exact lS _ _ he
        | panicked c=>exact(he:False).elim
        | outgrown=>obtain⟨_,_,hf⟩:=he;exact(hf:False).elim)
     | exact Rows.mono h (fun _ _ he=>lS _ _ he)
 | halt x w'=>cases x<;>simp only [Oper.upon] at h ⊢ <;>first | exact h | exact(h:False).elim
theorem mZ {L:Array Bool}{j:Nat}(h:L.getD j false=true):lG L j∧j<L.size:=by
 unfold lG;by_cases hj:j<L.size
 · simp only [aS,bO hj,Option.getD_some] at h ⊢
   exact⟨h,hj⟩
 · simp [Array.getElem?_eq_none (Nat.le_of_not_lt hj)] at h
theorem rq {α:Type}{arr:Array α}{p:α→Bool}(h:arr.any p=true):∃x∈arr,p x=true:=by
 rw [← Array.any_toList] at h;obtain⟨x,hx,hp⟩:=dI.1 h;exact⟨x,Array.mem_toList_iff.1 hx,hp⟩
theorem jo {L:Array Bool}{o:Oper}(lJ:∀e∈o.after,Region.binds .any e=true→L.getD e.on false=true){j:Nat}(h:lR o j=true):lG L j∧j<L.size:=by
 unfold lR at h;obtain⟨e,he,hb⟩:=rq h;simp only [aJ,beq_iff_eq] at hb;rw [← hb.2];exact mZ (lJ e he hb.1)
theorem pP {Q:Exit→Act→World→Prop}(hs:kD ops sz=true):∀(fuel:Nat) (L:Array Bool) (a:Act) (w:World) (D Fd:List Nat) (rest:List (Nat × List Nat × List Nat)) (f:Act),
 mL ops D Fd rest=true→L.size=ops.size→zi ops L=fuel→f.tmps.size=sz→Ca ops L a f→(∀i,i<ops.size→lG L i→i∈D)→(∀i∈Fd,lG L i)→
 (∀i∈D,¬lG L i→kV P ops i f w)→kF P ops Q rest f w→wpAny P .any ops Q fuel L a w:=by
 intro fuel;induction fuel with
 | zero=>
   intro L a w D Fd rest f hp hL hu hfs hA hsub AE hY hc
   have hall:∀i,i<ops.size→lG L i:=fun i hi=>by
    have h0:(List.range ops.size).filter (fun i=> !L.getD i true)= []:=aM hu;have:=cu.1 h0 i (aP.2 hi)
    simpa [lG] using this
   have hnil:Region.ready .any ops L= []:=by
    cases hr:Region.ready .any ops L with
    | nil=>rfl
    | cons j js=>
      have hj:j∈Region.ready .any ops L:=by rw [hr];exact bq
      obtain⟨h1,h2,_⟩:=iH.1 hj;exact absurd (hall j h1) h2
   refine⟨hnil,?_⟩;cases rest with
   | nil=>rw [uJ hA hall];exact hc
   | cons s rest=>
     obtain⟨x,E,C⟩:=s;simp only [mL,aJ] at hp;obtain⟨⟨⟨⟨⟨h1,h2⟩,_⟩,_⟩,_⟩,_⟩:=hp;have hx:x<ops.size:=by simpa using h2
     have:=hsub x hx (hall x hx)
     simp [this] at h1
 | succ fuel ih=>
   intro L a w D Fd rest f hp hL hu hfs hA hsub AE hY hc;refine⟨fun hnil=> ?_,fun i hi=> ?_⟩
   · exfalso
     have hne:(List.range ops.size).filter (fun i=> !L.getD i true)≠ []:=fun e=>by unfold zi at hu;rw [e] at hu;simp at hu
     obtain⟨j,hj⟩:=cg _ hne;rw [bm,aP] at hj;obtain⟨k,hk⟩:=kW hs hL j j (aD _) hj.1 (by unfold lG;simpa using hj.2);rw [hnil] at hk;cases hk
   · obtain⟨hin,yJ,o,ho,lJ⟩:=iH.1 hi
     obtain⟨hn,hlt,_,wG⟩:=mo hs ho;have wW:∀t∈o.looksAt ops,a.tmps[t]? =f.tmps[t]? :=fun t ht=>hA.2.2 t fun j hj=>(jo lJ ((wG j t hj).1 ht)).1
     obtain⟨he,hw⟩:=nR hn wW;have Ko:(L.setIfInBounds i true).size=ops.size:=by simpa using hL
     have hu':zi ops (L.setIfInBounds i true)=fuel:=by have:=wH (L:=L) hin yJ;omega
     have Qe:∀j t,lH ops j=some t→j<ops.size:=fun j t hj=>by
      unfold lH at hj;cases hx:ops[j]? with
      | none=>simp [hx] at hj
      | some _=>exact(aA.1 hx).1
     by_cases hD:i∈D
     ·
      have put:∀v,(∀d,o.dst=some d→f.tmps[d]? =some v)→wpAny P .any ops Q fuel (L.setIfInBounds i true) (a.put o.dst v) w:=by
       intro v hv;refine ih _ _ w D Fd rest f hp Ko hu' hfs ⟨by rw [jP];exact hA.1,by rw [jQ];exact hA.2.1,fun t ht=> ?_⟩ (fun j hj hl=> ?_) (fun j hj=>ft.2 (.inr (AE j hj))) (fun j hj hl=>hY j hj fun h=>hl (ft.2 (.inr h))) hc
       · by_cases mV:o.dst=some t
         · rw [mV,kp (by rw [hA.1,hfs];exact hlt t mV),hv t mV]
         · rw [lD mV]
           refine hA.2.2 t fun j hj=> ?_
           rcases ft.1 (ht j hj) with rfl | h
           · rw [lI ho] at hj;exact absurd hj mV
           · exact h
       · rcases ft.1 hl with rfl | h
         · exact hD
         · exact hsub j hj h
      have hy:=hY i hD yJ;simp only [kV,ho] at hy;unfold wpOp;simp only [ho];rcases hy with⟨Eu,v,hr,hv⟩ | ⟨hwf,hv⟩
      · rw [hw,Eu]
        simp only [if_true];refine .inl ?_;unfold Oper.wp;rw [he,hr];exact put v hv
      · rw [hw,hwf]
        simp only [bA,if_false];exact put undef hv
     ·
      cases rest with
      | nil=>
        have:=bC.1 hp i (aP.2 hin)
        exact absurd (by simpa using this) hD
      | cons s rest=>
        obtain⟨x,E,C⟩:=s;simp only [mL,aJ] at hp;obtain⟨⟨⟨⟨⟨h1,h2⟩,h3⟩,h4⟩,h5⟩,h6⟩:=hp;have hxD:x ∉ D:=by simpa using h1
        have Pt:i=x:=by
         have:=bC.1 h3 i (aP.2 hin)
         simp only [bU,ho] at this;rcases this with(t | t) | t
         · exact absurd (by simpa using t) hD
         · simpa using t
         · exfalso
           obtain⟨e,hem,AG⟩:=rq t;simp only [aJ] at AG;obtain⟨hl,oZ⟩:=mZ (lJ e hem AG.1);have:=hsub e.on (by omega) hl
           simp [this] at AG
        subst Pt;have yL:=kq _ _ h5
        have step:∀v ds w',pO P ops E (fun f2=>B9 P ops C f2 w'∧kF P ops Q rest f2 w') (({ f with defers:=ds }:Act).put o.dst v) w'→
         wpAny P .any ops Q fuel (L.setIfInBounds i true) (({ a with defers:=ds }:Act).put o.dst v) w':=by
         intro v ds w' hq;obtain⟨f2,⟨hC,wX⟩,wY,Ev,Ew,Ex⟩:=mU hs E _ _ _ h5 (by rw [jP];exact hfs) hq;refine ih _ _ w' (D++i :: E) _ rest f2 h6 Ko hu' wY ⟨by rw [jP,wY];exact hA.1.trans hfs,by rw [jQ,Ev,jQ],fun t ht=> ?_⟩ (fun j hj hl=> ?_) (fun j hj=> ?_) (fun j hj hl=> ?_) wX
         · rw [Ew t (fun j hj e=>by
            have hl:=ht j e
            obtain⟨rY,hj2⟩:=yL j hj
            rcases ft.1 hl with rfl | h
            · exact rY (by simp)
            · exact rY (bf _ (hsub j hj2 h)))]
           by_cases mV:o.dst=some t
           · rw [mV,kp (by show t<a.tmps.size;rw [hA.1,hfs];exact hlt t mV),kp (by show t<f.tmps.size;rw [hfs];exact hlt t mV)]
           · rw [lD mV,lD mV]
             refine hA.2.2 t fun j hj=> ?_
             rcases ft.1 (ht j hj) with rfl | h
             · rw [lI ho] at hj;exact absurd hj mV
             · exact h
         · rcases ft.1 hl with rfl | h
           · simp
           · exact bf _ (hsub j hj h)
         · rcases aK.1 hj with h | h
           · exact ft.2 (.inr (AE j h))
           · rcases aR.1 h with rfl | h
             · exact ft.2 (.inl rfl)
             · rw [bm] at h
               have hb:=h.2;simp only [ho,Option.any_some] at hb;exact ft.2 (.inr (jo lJ hb).1)
         · rcases aK.1 hj with h | h
           · have:=bC.1 h4 j h
             simp only [bU,ho,Option.any_some] at this;rcases this with(t | t) | t
             · exact hC j (by simpa using t)
             · exact absurd (ft.2 (.inr (AE j (by simpa using t)))) hl
             · exact absurd (ft.2 (.inr (jo lJ t).1)) hl
           · rcases aR.1 h with rfl | h
             · exact absurd (ft.2 (.inl rfl)) hl
             · exact Ex j h
        simp only [kF,ho,wpList] at hc;unfold wpOp;simp only [ho];rw [hw];split
        · rename_i Eu
          rw [if_pos Eu] at hc;rcases hc with hc | ⟨_,_,_,hf⟩
          · exact .inl (qA he hA.2.1 (fun v ds w' h=>step v ds w' h) hc)
          · exact(hf:False).elim
        · rename_i hwf
          rw [if_neg hwf] at hc;have:=step undef f.defers w hc
          rw [← hA.2.1] at this;exact this
theorem uK {Q:Exit→Act→World→Prop}{id:Nat}{a:Act}{w:World}(hm:P.follows .mixedOrders=true)(E0:List Nat)(rest:List (Nat × List Nat × List Nat))
 (hsz:a.tmps.size=sz) (hs:kD ops sz=true) (ho:kE ops [] E0=true) (hp:mL ops E0 [] rest=true)
 (h:pO P ops E0 (fun f=>kF P ops Q rest f w.drew) a w.drew):(Code.region id ops true).wp P Q a w:=by
 refine wp_region_any hm ?_;obtain⟨f,hc,hfs,AB,hft,Et⟩:=mU hs E0 _ _ _ ho hsz h;have hno:∀i,i<ops.size→¬lG (Array.replicate ops.size false) i:=fun i hi h=>by simp [lG,hi] at h
 refine pP hs _ _ _ _ E0 [] rest f hp (by simp) ?_ hfs ⟨hsz.trans hfs.symm,AB.symm,fun t ht=>(hft t fun j hj e=> ?_).symm⟩ (fun i hi hl=>absurd hl (hno i hi)) (fun i hi=>by cases hi) (fun i hi _=>Et i hi) hc
 · unfold zi
   rw [cJ.2]
   · simp
   · intro i hi
     have:=hno i (aP.1 hi)
     simpa [lG] using this
 · have hj2:=(kq _ _ ho j hj).2
   exact hno j hj2 (ht j e)
def Pu(K:Act→Prop)(o:Oper)(a:Act)(w:World):Result Next→Prop
 | .ok (.value v) w'=>w'=w∧K (a.put o.dst v)
 | _=>False
@[go_sem] theorem Pv(K:Act→Prop)(o:Oper)(a:Act)(w w':World)(v:Value):Pu K o a w (.ok (.value v) w')=(w'=w∧K (a.put o.dst v)):=rfl
theorem fH {i:Nat}{l:List Nat}{N:Act→Prop}{a:Act}{w:World}{o:Oper}(ho:ops[i]? =some o)(hw:Region.wanted o (yielded ops a.tmps)=true)
 (h:∀K:Act→Prop,(∀a',pO P ops l N a' w→K a')→Pu K o a w ((execOp a.eval o).run P w)):pO P ops (i :: l) N a w:=by
 have h':=h (fun a'=>pO P ops l N a' w) (fun _ h=>h);simp only [pO,ho];refine .inl ⟨hw,?_⟩;cases hr:(execOp a.eval o).run P w with
 | ok n w'=>
   rw [hr] at h';cases n<;>first | (obtain⟨rfl,h2⟩:=h';exact⟨_,rfl,h2⟩) | exact(h':False).elim
 | halt x w'=>rw [hr] at h';exact(h':False).elim
theorem dU {N:Act→Prop}{a:Act}{w:World}(h:N a):pO P ops [] N a w:=h
theorem dW {Q:Exit→Act→World→Prop}{f:Act}{w:World}(h:Q .normal f w):kF P ops Q [] f w:=h
theorem dK {Q:Exit→Act→World→Prop}{x:Nat}{E C:List Nat}{rest:List (Nat × List Nat × List Nat)}{f:Act}{w:World}{o:Oper}(ho:ops[x]? =some o)
 (h:wpList P ops (Kn fun f1 w1=>pO P ops E (fun f2=>B9 P ops C f2 w1∧kF P ops Q rest f2 w1) f1 w1) [o] f w):kF P ops Q ((x,E,C) :: rest) f w:=by
 simp only [kF,ho];exact h
theorem dQ {K:Act→World→Prop}{a:Act}{w:World}(h:K a w):Kn K .normal a w:=h
theorem eM {f:Act}{w:World}:B9 P ops [] f w:=fun _ h=>by cases h
theorem d6 {c:Nat}{C:List Nat}{f:Act}{w:World}(h:kV P ops c f w)(hC:B9 P ops C f w):B9 P ops (c :: C) f w:=fun i hi=>by
 cases hi with
 | head=>exact h
 | tail _ hi=>exact hC i hi
theorem fj {c:Nat}{o:Oper}{d:Nat}{v:Value}{f:Act}{w:World}(ho:ops[c]? =some o)(hw:Region.wanted o (yielded ops f.tmps)=true)(hd:o.dst=some d)(hv:f.tmps[d]? =some v)
 (hr:(execOp f.eval o).run P w= .ok (.value v) w):kV P ops c f w:=by
 simp only [kV,ho];exact .inl ⟨hw,v,hr,fun d' hd'=>by rw [hd] at hd';cases hd';exact hv⟩
end
end Go.Sl
namespace Go.Sl
theorem wS {P:Program}{ops:Array Oper}(sz:Nat){Q:Exit→Act→World→Prop}{id:Nat}{a:Act}{w:World}(E0:List Nat)(rest:List (Nat×List Nat×List Nat))(h:pO P ops E0 (fun f=>kF P ops Q rest f w.drew) a w.drew)(hm:P.follows .mixedOrders=true:=by kernel_rfl)(hsz:a.tmps.size=sz:=by rfl)(hs:kD ops sz=true:=by kernel_rfl)(ho:kE ops [] E0=true:=by kernel_rfl)(hp:mL ops E0 [] rest=true:=by kernel_rfl):(Code.region id ops true).wp P Q a w:=uK hm E0 rest hsz hs ho hp h
end Go.Sl
