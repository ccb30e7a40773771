/- A region that draws its order, walked once: its acts (calls, stores, appends) come in one forced order, all else only reads. Plain lemmas over any program. -/
import Derived.Orders
import Derived.Tactics
import Derived.Lib.Hide
set_option maxRecDepth 100000
set_option maxHeartbeats 16000000
namespace Go
theorem hQ {p : Prop} (h : p) : RowKit.Hid p := h
theorem pQ : (∀ (α : Type) (a : α) (l : List α) (n : Nat), (a :: l).drop (n + 1) = l.drop n) ∧ (∀ (α : Type) (l : List α), l.drop 0 = l) ∧ (∀ (α : Type) (a : α) (l : List α) (n : Nat), (a :: l).take (n + 1) = a :: l.take n) ∧ (∀ (α : Type) (l : List α), l.take 0 = []) ∧ (∀ (α : Type) (a : α) (l m : List α), (a :: l) ++ m = a :: (l ++ m)) ∧ (∀ (α : Type) (l : List α), [] ++ l = l) := ⟨fun _ _ _ _ => rfl, fun _ _ => rfl, fun _ _ _ _ => rfl, fun _ _ => rfl, fun _ _ _ _ => rfl, fun _ _ => rfl⟩
end Go
namespace Go.Sl
def bindsOn(o:Oper)(j:Nat):Bool:=o.after.any fun e=>Region.binds .any e && e.on == j
def dstOf(ops:Array Oper)(j:Nat):Option Tmp:=(ops[j]?).bind (·.dst)
def isSelect:Op→Bool
 | .select .. =>true
 | _=>false
def slotsOk(ops:Array Oper)(sz:Nat):Bool:=
 (List.range ops.size).all fun i=>match ops[i]? with
   | none=>true
   | some o=> !isSelect o.op && (o.dst.all fun d=>decide (d<sz)) && (o.after.all fun e=> !Region.binds .any e || decide (e.on<i)) &&
     (List.range ops.size).all fun j=>match dstOf ops j with
       | none=>true
       | some d=>(!(o.looksAt ops).contains d || bindsOn o j) && (i == j || o.dst != some d)
def orderOk(ops:Array Oper):List Nat→List Nat→Bool
 | _,[]=>true
 | D,i :: l=> !D.contains i && decide (i<ops.size) && (match ops[i]? with
     | none=>true
     | some o=>(List.range ops.size).all fun j=>match dstOf ops j with
       | none=>true
       | some d=> !(o.looksAt ops).contains d || D.contains j) && orderOk ops (D++ [i]) l
def planOk(ops:Array Oper):List Nat→List Nat→List (Nat × List Nat × List Nat)→Bool
 | D,_,[]=>(List.range ops.size).all fun i=>D.contains i
 | D,Fd,(x,E,C) :: rest=>
   !D.contains x && decide (x<ops.size) &&
   ((List.range ops.size).all fun i=>D.contains i || i == x || (match ops[i]? with
     | none=>true
     | some o=>o.after.any fun e=>Region.binds .any e && !D.contains e.on)) &&
   (D.all fun i=>C.contains i || Fd.contains i || (ops[x]?).any fun o=>bindsOn o i) &&
   orderOk ops (D++ [x]) E &&
   planOk ops (D++x :: E) (Fd++x :: D.filter fun i=>(ops[x]?).any fun o=>bindsOn o i) rest
def YieldF(P:Program)(ops:Array Oper)(i:Nat)(f:Act)(w:World):Prop:=
 match ops[i]? with
 | none=>True
 | some o=>
   (Region.wanted o (yielded ops f.tmps)=true∧∃v,(execOp f.eval o).run P w= .ok (.value v) w∧∀d,o.dst=some d→f.tmps[d]? =some v)∨
   (Region.wanted o (yielded ops f.tmps)=false∧∀d,o.dst=some d→f.tmps[d]? =some undef)
def wpQ(P:Program)(ops:Array Oper):List Nat→(Act→Prop)→Act→World→Prop
 | [],N,a,_=>N a
 | i :: l,N,a,w=>match ops[i]? with
   | none=>False
   | some o=>(Region.wanted o (yielded ops a.tmps)=true∧∃v,(execOp a.eval o).run P w= .ok (.value v) w∧wpQ P ops l N (a.put o.dst v) w)∨
      (Region.wanted o (yielded ops a.tmps)=false∧wpQ P ops l N (a.put o.dst undef) w)
def Chk(P:Program)(ops:Array Oper)(C:List Nat)(f:Act)(w:World):Prop:= ∀i∈C,YieldF P ops i f w
def onN(K:Act→World→Prop):Exit→Act→World→Prop
 | .normal,a,w=>K a w
 | _,_,_=>False
def wpRest(P:Program)(ops:Array Oper)(Q:Exit→Act→World→Prop):List (Nat × List Nat × List Nat)→Act→World→Prop
 | [],f,w=>Q .normal f w
 | (x,E,C) :: rest,f,w=>match ops[x]? with
   | none=>False
   | some o=>wpList P ops (onN fun f1 w1=>wpQ P ops E (fun f2=>Chk P ops C f2 w1∧wpRest P ops Q rest f2 w1) f1 w1) [o] f w
section
variable {P:Program}{ops:Array Oper}{sz:Nat}
theorem slots_at(hs:slotsOk ops sz=true){i:Nat}{o:Oper}(ho:ops[i]? =some o):
 (∀cs b,o.op≠ .select cs b)∧(∀d,o.dst=some d→d<sz)∧(∀e∈o.after,Region.binds .any e=true→e.on<i)∧
 (∀j d,dstOf ops j=some d→(d∈o.looksAt ops→bindsOn o j=true)∧(i≠j→o.dst≠some d)):=by
 have hi:i<ops.size:=(Array.getElem?_eq_some_iff.1 ho).1;have h:=List.all_eq_true.1 hs i (List.mem_range.2 hi);simp only [ho,Bool.and_eq_true] at h;obtain⟨⟨⟨h1,h2⟩,h3⟩,h4⟩:=h;refine⟨fun cs b e=>by rw [e] at h1;simp [isSelect] at h1,fun d hd=>by rw [hd] at h2;simpa using h2,fun e he hb=> ?_,fun j d hj=> ?_⟩
 · have:=Array.all_eq_true_iff_forall_mem.1 h3 e he
   simpa [hb] using this
 · have hjs:j<ops.size:=by
    unfold dstOf at hj;cases hx:ops[j]? with
    | none=>simp [hx] at hj
    | some _=>exact(Array.getElem?_eq_some_iff.1 hx).1
   have:=List.all_eq_true.1 h4 j (List.mem_range.2 hjs)
   simp only [hj,Bool.and_eq_true,Bool.or_eq_true] at this;obtain⟨t1,t2⟩:=this;refine⟨fun hm=> ?_,fun hne hd=> ?_⟩
   · rcases t1 with t | t
     · simp [hm] at t
     · exact t
   · rcases t2 with t | t
     · exact hne (by simpa using t)
     · simp [hd] at t
theorem exec_same {o:Oper}{a f:Act}(hn:∀cs b,o.op≠ .select cs b)(h:∀t∈o.looksAt ops,a.tmps[t]? =f.tmps[t]?):
 execOp a.eval o=execOp f.eval o∧Region.wanted o (yielded ops a.tmps)=Region.wanted o (yielded ops f.tmps):=by
 constructor
 · refine execOp_congr o hn fun x hx=> ?_
   cases x with
   | tmp t=>
     have:=h t (List.mem_append_left _ (List.mem_filterMap.2 ⟨.tmp t,by simpa using hx,rfl⟩))
     simp [Act.eval,this]
   | _=>rfl
 · unfold Region.wanted
   cases hg:o.guard with
   | none=>rfl
   | some gw=>
     obtain⟨g,want⟩:=gw
     have:yielded ops a.tmps g=yielded ops f.tmps g:=by
      unfold yielded;cases ht:(ops[g]?).bind (·.dst) with
      | none=>rfl
      | some t=>
        have:=h t (List.mem_append_right _ (by simp [hg,ht]))
        simp [this]
     simp only [this]
theorem put_at {a:Act}{d:Option Tmp}{v:Value}{t:Tmp}(h:d≠some t):(a.put d v).tmps[t]? =a.tmps[t]? :=by
 cases d with
 | none=>rfl
 | some d=>simp [Act.put,Array.getElem?_setIfInBounds_ne (show d≠t from fun e=>h (by rw [e]))]
theorem put_self {a:Act}{d:Tmp}{v:Value}(h:d<a.tmps.size):(a.put (some d) v).tmps[d]? =some v:=by
 simp [Act.put,h]
theorem put_size {a:Act}{d:Option Tmp}{v:Value}:(a.put d v).tmps.size=a.tmps.size:=by cases d<;>simp [Act.put]
theorem put_defs {a:Act}{d:Option Tmp}{v:Value}:(a.put d v).defers=a.defers:=by cases d<;>rfl
theorem order_nin:∀(l D:List Nat),orderOk ops D l=true→∀i∈l,i ∉ D∧i<ops.size:=by
 intro l;induction l with
 | nil=>intro D _ i hi;cases hi
 | cons x l ih=>
   intro D h i hi;simp only [orderOk,Bool.and_eq_true] at h;obtain⟨⟨⟨h1,h2⟩,_⟩,h4⟩:=h;cases hi with
   | head=>exact⟨by simpa using h1,by simpa using h2⟩
   | tail _ hi=>
     have:=ih _ h4 i hi
     exact⟨fun hd=>this.1 (List.mem_append_left _ hd),this.2⟩
theorem dstOf_at {i:Nat}{o:Oper}(ho:ops[i]? =some o):dstOf ops i=o.dst:=by simp [dstOf,ho]
theorem wpQ_out(hs:slotsOk ops sz=true){w:World}:∀(l D:List Nat) (N:Act→Prop) (a:Act),orderOk ops D l=true→a.tmps.size=sz→wpQ P ops l N a w→
 ∃f,N f∧f.tmps.size=sz∧f.defers=a.defers∧(∀t,(∀i∈l,dstOf ops i≠some t)→f.tmps[t]? =a.tmps[t]?)∧∀i∈l,YieldF P ops i f w:=by
 intro l;induction l with
 | nil=>intro D N a _ hsz h;exact⟨a,h,hsz,rfl,fun _ _=>rfl,fun i hi=>by cases hi⟩
 | cons x l ih=>
   intro D N a hord hsz h;have hord':=hord;simp only [orderOk,Bool.and_eq_true] at hord;obtain⟨⟨⟨h1,h2⟩,h3⟩,h4⟩:=hord;simp only [wpQ] at h;cases ho:ops[x]? with
   | none=>simp [ho] at h
   | some o=>
     simp only [ho] at h h3;obtain⟨hn,hlt,_,hdd⟩:=slots_at hs ho;have hnin:=order_nin _ _ h4
     have key:∀(v:Value) (f:Act),(∀t,(∀i∈l,dstOf ops i≠some t)→f.tmps[t]? =(a.put o.dst v).tmps[t]?)→
      (∀t∈o.looksAt ops,a.tmps[t]? =f.tmps[t]?)∧(∀d,o.dst=some d→f.tmps[d]? =some v)∧(∀t,(∀i∈x :: l,dstOf ops i≠some t)→f.tmps[t]? =a.tmps[t]?):=by
      intro v f hf;refine⟨fun t ht=> ?_,fun d hd=> ?_,fun t ht=> ?_⟩
      · have hprod:∀j,dstOf ops j=some t→j∈D:=fun j hj=>by
         have hjs:j<ops.size:=by
          unfold dstOf at hj;cases hx:ops[j]? with
          | none=>simp [hx] at hj
          | some _=>exact(Array.getElem?_eq_some_iff.1 hx).1
         have:=List.all_eq_true.1 h3 j (List.mem_range.2 hjs)
         simp only [hj,Bool.or_eq_true] at this;rcases this with t' | t'
         · simp [ht] at t'
         · simpa using t'
        rw [hf t (fun i hi e=>(hnin i hi).1 (List.mem_append_left _ (hprod i e)))];rw [put_at];intro e;have:=hprod x (by rw [dstOf_at ho];exact e)
        simp [this] at h1
      · rw [hf d (fun i hi e=> ?_),hd,put_self (by rw [hsz];exact hlt d hd)]
        have hne:x≠i:=fun e'=>(hnin i hi).1 (by rw [← e'];simp)
        exact(hdd i d e).2 hne hd
      · rw [hf t (fun i hi=>ht i (List.mem_cons_of_mem _ hi)),put_at]
        have:=ht x List.mem_cons_self
        rw [dstOf_at ho] at this;exact this
     rcases h with⟨hw,v,hr,hq⟩ | ⟨hw,hq⟩
     · obtain⟨f,hN,hfs,hfd,hft,hfy⟩:=ih _ N _ h4 (by rw [put_size];exact hsz) hq
       obtain⟨k1,k2,k3⟩:=key v f hft;refine⟨f,hN,hfs,hfd.trans put_defs,k3,fun i hi=> ?_⟩;cases hi with
       | head=>
         obtain⟨e1,e2⟩:=exec_same hn k1;simp only [YieldF,ho];exact .inl ⟨by rw [← e2];exact hw,v,by rw [← e1];exact hr,k2⟩
       | tail _ hi=>exact hfy i hi
     · obtain⟨f,hN,hfs,hfd,hft,hfy⟩:=ih _ N _ h4 (by rw [put_size];exact hsz) hq
       obtain⟨k1,k2,k3⟩:=key undef f hft;refine⟨f,hN,hfs,hfd.trans put_defs,k3,fun i hi=> ?_⟩;cases hi with
       | head=>
         obtain⟨_,e2⟩:=exec_same hn k1;simp only [YieldF,ho];exact .inr ⟨by rw [← e2];exact hw,k2⟩
       | tail _ hi=>exact hfy i hi
def Lst(L:Array Bool)(i:Nat):Prop:=L.getD i true=true
def Agree(ops:Array Oper)(L:Array Bool)(a f:Act):Prop:=
 a.tmps.size=f.tmps.size∧a.defers=f.defers∧∀t,(∀j,dstOf ops j=some t→Lst L j)→a.tmps[t]? =f.tmps[t]?
theorem lst_set {L:Array Bool}{i j:Nat}:Lst (L.setIfInBounds i true) j↔(j=i∨Lst L j):=by
 unfold Lst;by_cases h:i<L.size
 · by_cases hj:j=i
   · subst hj;simp [Array.getD_eq_getD_getElem?,h]
   · simp [Array.getD_eq_getD_getElem?,Array.getElem?_setIfInBounds_ne (fun e=>hj e.symm),hj]
 · have:L.setIfInBounds i true=L:=by simp [Array.setIfInBounds,h]
   rw [this];constructor
   · exact .inr
   · rintro(rfl | h')
     · simp [Array.getD_eq_getD_getElem?,Array.getElem?_eq_none (Nat.le_of_not_lt h)]
     · exact h'
theorem ready_mem {L:Array Bool}{i:Nat}:i∈Region.ready .any ops L↔i<ops.size∧¬Lst L i∧∃o,ops[i]? =some o∧∀e∈o.after,Region.binds .any e=true→L.getD e.on false=true:=by
 unfold Region.ready Lst;rw [List.mem_filter,List.mem_range];constructor
 · rintro⟨hi,h⟩
   simp only [Bool.and_eq_true] at h;obtain⟨h1,h2⟩:=h;refine⟨hi,by simpa using h1,ops[i],Array.getElem?_eq_getElem hi,fun e he hb=> ?_⟩;rw [Array.getElem?_eq_getElem hi] at h2;simp only [Option.map_some,Option.getD_some] at h2;have:=Array.all_eq_true_iff_forall_mem.1 h2 e he
   simpa [hb] using this
 · rintro⟨hi,h1,o,ho,h2⟩
   refine⟨hi,?_⟩;simp only [ho,Option.map_some,Option.getD_some,Bool.and_eq_true];refine⟨by simpa using h1,?_⟩;rw [Array.all_eq_true_iff_forall_mem];intro e he;by_cases hb:Region.binds .any e=true
   · simp [h2 e he hb]
   · simp [hb]
theorem unlisted_ready(hs:slotsOk ops sz=true){L:Array Bool}(hL:L.size=ops.size):∀(n i:Nat),i≤n→i<ops.size→¬Lst L i→∃j,j∈Region.ready .any ops L:=by
 intro n;induction n with
 | zero=>
   intro i hi hlt hu;obtain rfl:i=0:=by omega
   have ho:=Array.getElem?_eq_getElem hlt;obtain⟨_,_,hd,_⟩:=slots_at hs ho;exact⟨0,ready_mem.2 ⟨hlt,hu,_,ho,fun e he hb=>absurd (hd e he hb) (by omega)⟩⟩
 | succ n ih=>
   intro i hi hlt hu;have ho:=Array.getElem?_eq_getElem hlt;obtain⟨_,_,hd,_⟩:=slots_at hs ho;by_cases hall:∀e∈ops[i].after,Region.binds .any e=true→L.getD e.on false=true
   · exact⟨i,ready_mem.2 ⟨hlt,hu,_,ho,hall⟩⟩
   · simp only [Classical.not_forall] at hall
     obtain⟨e,he,hb,hn⟩:=hall;have hlt2:=hd e he hb;refine ih e.on (by omega) (by omega) ?_;unfold Lst;have:e.on<L.size:=by omega
     simp only [Array.getD_eq_getD_getElem?,Array.getElem?_eq_getElem this,Option.getD_some] at hn ⊢;exact hn
def unl(ops:Array Oper)(L:Array Bool):Nat:=((List.range ops.size).filter fun i=> !L.getD i true).length
theorem unl_set {L:Array Bool}{i:Nat}(hi:i<ops.size)(hu:¬Lst L i):unl ops (L.setIfInBounds i true)+1=unl ops L:=by
 have hcount:∀(l:List Nat),l.Nodup→(l.filter fun j=> !(L.setIfInBounds i true).getD j true).length+(if i∈l then 1 else 0)=(l.filter fun j=> !L.getD j true).length:=by
  intro l;induction l with
  | nil=>intro _;simp
  | cons x l ih=>
    intro hnd;have hx:=(List.nodup_cons.1 hnd).1;have:=ih (List.nodup_cons.1 hnd).2
    by_cases hxi:x=i
    · subst hxi
      have h1:(L.setIfInBounds x true).getD x true=true:=lst_set.2 (.inl rfl);have h2:L.getD x true=false:=by unfold Lst at hu;simpa using hu
      rw [if_neg hx] at this;simp only [List.filter_cons,h1,h2,Bool.not_true,Bool.not_false,if_true,List.mem_cons,true_or,List.length_cons,Bool.false_eq_true,if_false];omega
    · have h1:(L.setIfInBounds i true).getD x true=L.getD x true:=by
       simp [Array.getD_eq_getD_getElem?,Array.getElem?_setIfInBounds_ne (fun e=>hxi e.symm)]
      have h3:(i∈x :: l)=(i∈l):=by simp [show (i=x)=False from eq_false (fun e=>hxi e.symm)]
      simp only [List.filter_cons,h1,h3];split<;>(try simp only [List.length_cons])<;>omega
 have:=hcount (List.range ops.size) List.nodup_range
 rw [if_pos (List.mem_range.2 hi)] at this;exact this
theorem agree_all {L:Array Bool}{a f:Act}(h:Agree ops L a f)(hall:∀i,i<ops.size→Lst L i):a=f:=by
 obtain⟨h1,h2,h3⟩:=h
 have:a.tmps=f.tmps:=by
  apply Array.ext_getElem?;intro t
  exact h3 t fun j hj=>hall j (by
   unfold dstOf at hj
   cases hx:ops[j]? with
   | none=>simp [hx] at hj
   | some _=>exact(Array.getElem?_eq_some_iff.1 hx).1)
 cases a;cases f;simp_all
theorem oper_wp_rel {o:Oper}{a f:Act}{w:World}{K Kr:Act→World→Prop}{Q:Exit→Act→World→Prop}{K2:Act→World→Prop}(he:execOp a.eval o=execOp f.eval o)(hd:a.defers=f.defers)
 (hK:∀v ds w',K (({ f with defers:=ds }:Act).put o.dst v) w'→Kr (({ a with defers:=ds }:Act).put o.dst v) w') (h:o.wp P f w K (onN K2)):o.wp P a w Kr Q:=by
 unfold Oper.wp at*;rw [he];generalize (execOp f.eval o).run P w=r at*
 have hK0:∀v w',K (f.put o.dst v) w'→Kr (a.put o.dst v) w':=fun v w' h=>by
  have:=hK v f.defers w' h
  rw [← hd] at this;exact this
 cases r with
 | ok n w'=>
   cases n<;>simp only [Oper.upon] at h ⊢ <;>
    first
     | exact hK0 _ _ h
     | (rw [hd];exact hK _ _ _ h)
     | exact Calls.mono h (fun e w'' he=>by
        cases e with
        | returned v=>exact hK0 _ _ he
        | panicked c=>exact(he:False).elim
        | outgrown=>obtain⟨_,_,hf⟩:=he;exact(hf:False).elim)
     | exact Rows.mono h (fun _ _ he=>hK0 _ _ he)
 | halt x w'=>cases x<;>simp only [Oper.upon] at h ⊢ <;>first | exact h | exact(h:False).elim
theorem lst_of_getD {L:Array Bool}{j:Nat}(h:L.getD j false=true):Lst L j∧j<L.size:=by
 unfold Lst;by_cases hj:j<L.size
 · simp only [Array.getD_eq_getD_getElem?,Array.getElem?_eq_getElem hj,Option.getD_some] at h ⊢
   exact⟨h,hj⟩
 · simp [Array.getD_eq_getD_getElem?,Array.getElem?_eq_none (Nat.le_of_not_lt hj)] at h
theorem any_mem {α:Type}{arr:Array α}{p:α→Bool}(h:arr.any p=true):∃x∈arr,p x=true:=by
 rw [← Array.any_toList] at h;obtain⟨x,hx,hp⟩:=List.any_eq_true.1 h;exact⟨x,Array.mem_toList_iff.1 hx,hp⟩
theorem dep_listed {L:Array Bool}{o:Oper}(hdeps:∀e∈o.after,Region.binds .any e=true→L.getD e.on false=true){j:Nat}(h:bindsOn o j=true):Lst L j∧j<L.size:=by
 unfold bindsOn at h;obtain⟨e,he,hb⟩:=any_mem h;simp only [Bool.and_eq_true,beq_iff_eq] at hb;rw [← hb.2];exact lst_of_getD (hdeps e he hb.1)
theorem staged_any {Q:Exit→Act→World→Prop}(hs:slotsOk ops sz=true):∀(fuel:Nat) (L:Array Bool) (a:Act) (w:World) (D Fd:List Nat) (rest:List (Nat × List Nat × List Nat)) (f:Act),
 planOk ops D Fd rest=true→L.size=ops.size→unl ops L=fuel→f.tmps.size=sz→Agree ops L a f→(∀i,i<ops.size→Lst L i→i∈D)→(∀i∈Fd,Lst L i)→
 (∀i∈D,¬Lst L i→YieldF P ops i f w)→wpRest P ops Q rest f w→wpAny P .any ops Q fuel L a w:=by
 intro fuel;induction fuel with
 | zero=>
   intro L a w D Fd rest f hp hL hu hfs hA hsub hFd hY hc
   have hall:∀i,i<ops.size→Lst L i:=fun i hi=>by
    have h0:(List.range ops.size).filter (fun i=> !L.getD i true)= []:=List.eq_nil_of_length_eq_zero hu;have:=List.filter_eq_nil_iff.1 h0 i (List.mem_range.2 hi)
    simpa [Lst] using this
   have hnil:Region.ready .any ops L= []:=by
    cases hr:Region.ready .any ops L with
    | nil=>rfl
    | cons j js=>
      have hj:j∈Region.ready .any ops L:=by rw [hr];exact List.mem_cons_self
      obtain⟨h1,h2,_⟩:=ready_mem.1 hj;exact absurd (hall j h1) h2
   refine⟨hnil,?_⟩;cases rest with
   | nil=>rw [agree_all hA hall];exact hc
   | cons s rest=>
     obtain⟨x,E,C⟩:=s;simp only [planOk,Bool.and_eq_true] at hp;obtain⟨⟨⟨⟨⟨h1,h2⟩,_⟩,_⟩,_⟩,_⟩:=hp;have hx:x<ops.size:=by simpa using h2
     have:=hsub x hx (hall x hx)
     simp [this] at h1
 | succ fuel ih=>
   intro L a w D Fd rest f hp hL hu hfs hA hsub hFd hY hc;refine⟨fun hnil=> ?_,fun i hi=> ?_⟩
   · exfalso
     have hne:(List.range ops.size).filter (fun i=> !L.getD i true)≠ []:=fun e=>by unfold unl at hu;rw [e] at hu;simp at hu
     obtain⟨j,hj⟩:=List.exists_mem_of_ne_nil _ hne;rw [List.mem_filter,List.mem_range] at hj;obtain⟨k,hk⟩:=unlisted_ready hs hL j j (Nat.le_refl _) hj.1 (by unfold Lst;simpa using hj.2);rw [hnil] at hk;cases hk
   · obtain⟨hin,hul,o,ho,hdeps⟩:=ready_mem.1 hi
     obtain⟨hn,hlt,_,hdd⟩:=slots_at hs ho;have hlook:∀t∈o.looksAt ops,a.tmps[t]? =f.tmps[t]? :=fun t ht=>hA.2.2 t fun j hj=>(dep_listed hdeps ((hdd j t hj).1 ht)).1
     obtain⟨he,hw⟩:=exec_same hn hlook;have hL':(L.setIfInBounds i true).size=ops.size:=by simpa using hL
     have hu':unl ops (L.setIfInBounds i true)=fuel:=by have:=unl_set (L:=L) hin hul;omega
     have hdst:∀j t,dstOf ops j=some t→j<ops.size:=fun j t hj=>by
      unfold dstOf at hj;cases hx:ops[j]? with
      | none=>simp [hx] at hj
      | some _=>exact(Array.getElem?_eq_some_iff.1 hx).1
     by_cases hD:i∈D
     ·
      have put:∀v,(∀d,o.dst=some d→f.tmps[d]? =some v)→wpAny P .any ops Q fuel (L.setIfInBounds i true) (a.put o.dst v) w:=by
       intro v hv;refine ih _ _ w D Fd rest f hp hL' hu' hfs ⟨by rw [put_size];exact hA.1,by rw [put_defs];exact hA.2.1,fun t ht=> ?_⟩ (fun j hj hl=> ?_) (fun j hj=>lst_set.2 (.inr (hFd j hj))) (fun j hj hl=>hY j hj fun h=>hl (lst_set.2 (.inr h))) hc
       · by_cases hdt:o.dst=some t
         · rw [hdt,put_self (by rw [hA.1,hfs];exact hlt t hdt),hv t hdt]
         · rw [put_at hdt]
           refine hA.2.2 t fun j hj=> ?_
           rcases lst_set.1 (ht j hj) with rfl | h
           · rw [dstOf_at ho] at hj;exact absurd hj hdt
           · exact h
       · rcases lst_set.1 hl with rfl | h
         · exact hD
         · exact hsub j hj h
      have hy:=hY i hD hul;simp only [YieldF,ho] at hy;unfold wpOp;simp only [ho];rcases hy with⟨hwt,v,hr,hv⟩ | ⟨hwf,hv⟩
      · rw [hw,hwt]
        simp only [if_true];refine .inl ?_;unfold Oper.wp;rw [he,hr];exact put v hv
      · rw [hw,hwf]
        simp only [Bool.false_eq_true,if_false];exact put undef hv
     ·
      cases rest with
      | nil=>
        have:=List.all_eq_true.1 hp i (List.mem_range.2 hin)
        exact absurd (by simpa using this) hD
      | cons s rest=>
        obtain⟨x,E,C⟩:=s;simp only [planOk,Bool.and_eq_true] at hp;obtain⟨⟨⟨⟨⟨h1,h2⟩,h3⟩,h4⟩,h5⟩,h6⟩:=hp;have hxD:x ∉ D:=by simpa using h1
        have hix:i=x:=by
         have:=List.all_eq_true.1 h3 i (List.mem_range.2 hin)
         simp only [Bool.or_eq_true,ho] at this;rcases this with(t | t) | t
         · exact absurd (by simpa using t) hD
         · simpa using t
         · exfalso
           obtain⟨e,hem,heb⟩:=any_mem t;simp only [Bool.and_eq_true] at heb;obtain⟨hl,hlt2⟩:=lst_of_getD (hdeps e hem heb.1);have:=hsub e.on (by omega) hl
           simp [this] at heb
        subst hix;have hnin:=order_nin _ _ h5
        have step:∀v ds w',wpQ P ops E (fun f2=>Chk P ops C f2 w'∧wpRest P ops Q rest f2 w') (({ f with defers:=ds }:Act).put o.dst v) w'→
         wpAny P .any ops Q fuel (L.setIfInBounds i true) (({ a with defers:=ds }:Act).put o.dst v) w':=by
         intro v ds w' hq;obtain⟨f2,⟨hC,hcont⟩,hf2s,hf2d,hf2t,hf2y⟩:=wpQ_out hs E _ _ _ h5 (by rw [put_size];exact hfs) hq;refine ih _ _ w' (D++i :: E) _ rest f2 h6 hL' hu' hf2s ⟨by rw [put_size,hf2s];exact hA.1.trans hfs,by rw [put_defs,hf2d,put_defs],fun t ht=> ?_⟩ (fun j hj hl=> ?_) (fun j hj=> ?_) (fun j hj hl=> ?_) hcont
         · rw [hf2t t (fun j hj e=>by
            have hl:=ht j e
            obtain⟨hj1,hj2⟩:=hnin j hj
            rcases lst_set.1 hl with rfl | h
            · exact hj1 (by simp)
            · exact hj1 (List.mem_append_left _ (hsub j hj2 h)))]
           by_cases hdt:o.dst=some t
           · rw [hdt,put_self (by show t<a.tmps.size;rw [hA.1,hfs];exact hlt t hdt),put_self (by show t<f.tmps.size;rw [hfs];exact hlt t hdt)]
           · rw [put_at hdt,put_at hdt]
             refine hA.2.2 t fun j hj=> ?_
             rcases lst_set.1 (ht j hj) with rfl | h
             · rw [dstOf_at ho] at hj;exact absurd hj hdt
             · exact h
         · rcases lst_set.1 hl with rfl | h
           · simp
           · exact List.mem_append_left _ (hsub j hj h)
         · rcases List.mem_append.1 hj with h | h
           · exact lst_set.2 (.inr (hFd j h))
           · rcases List.mem_cons.1 h with rfl | h
             · exact lst_set.2 (.inl rfl)
             · rw [List.mem_filter] at h
               have hb:=h.2;simp only [ho,Option.any_some] at hb;exact lst_set.2 (.inr (dep_listed hdeps hb).1)
         · rcases List.mem_append.1 hj with h | h
           · have:=List.all_eq_true.1 h4 j h
             simp only [Bool.or_eq_true,ho,Option.any_some] at this;rcases this with(t | t) | t
             · exact hC j (by simpa using t)
             · exact absurd (lst_set.2 (.inr (hFd j (by simpa using t)))) hl
             · exact absurd (lst_set.2 (.inr (dep_listed hdeps t).1)) hl
           · rcases List.mem_cons.1 h with rfl | h
             · exact absurd (lst_set.2 (.inl rfl)) hl
             · exact hf2y j h
        simp only [wpRest,ho,wpList] at hc;unfold wpOp;simp only [ho];rw [hw];split
        · rename_i hwt
          rw [if_pos hwt] at hc;rcases hc with hc | ⟨_,_,_,hf⟩
          · exact .inl (oper_wp_rel he hA.2.1 (fun v ds w' h=>step v ds w' h) hc)
          · exact(hf:False).elim
        · rename_i hwf
          rw [if_neg hwf] at hc;have:=step undef f.defers w hc
          rw [← hA.2.1] at this;exact this
theorem wp_region_staged {Q:Exit→Act→World→Prop}{id:Nat}{a:Act}{w:World}(hm:P.follows .mixedOrders=true)(E0:List Nat)(rest:List (Nat × List Nat × List Nat))
 (hsz:a.tmps.size=sz) (hs:slotsOk ops sz=true) (ho:orderOk ops [] E0=true) (hp:planOk ops E0 [] rest=true)
 (h:wpQ P ops E0 (fun f=>wpRest P ops Q rest f w.drew) a w.drew):(Code.region id ops true).wp P Q a w:=by
 refine wp_region_any hm ?_;obtain⟨f,hc,hfs,hfd,hft,hfy⟩:=wpQ_out hs E0 _ _ _ ho hsz h;have hno:∀i,i<ops.size→¬Lst (Array.replicate ops.size false) i:=fun i hi h=>by simp [Lst,hi,Array.getD_eq_getD_getElem?] at h
 refine staged_any hs _ _ _ _ E0 [] rest f hp (by simp) ?_ hfs ⟨hsz.trans hfs.symm,hfd.symm,fun t ht=>(hft t fun j hj e=> ?_).symm⟩ (fun i hi hl=>absurd hl (hno i hi)) (fun i hi=>by cases hi) (fun i hi _=>hfy i hi) hc
 · unfold unl
   rw [List.filter_eq_self.2]
   · simp
   · intro i hi
     have:=hno i (List.mem_range.1 hi)
     simpa [Lst] using this
 · have hj2:=(order_nin _ _ ho j hj).2
   exact hno j hj2 (ht j e)
def qNext(K:Act→Prop)(o:Oper)(a:Act)(w:World):Result Next→Prop
 | .ok (.value v) w'=>w'=w∧K (a.put o.dst v)
 | _=>False
@[go_sem] theorem qNext_value(K:Act→Prop)(o:Oper)(a:Act)(w w':World)(v:Value):qNext K o a w (.ok (.value v) w')=(w'=w∧K (a.put o.dst v)):=rfl
theorem wpQ_step {i:Nat}{l:List Nat}{N:Act→Prop}{a:Act}{w:World}{o:Oper}(ho:ops[i]? =some o)(hw:Region.wanted o (yielded ops a.tmps)=true)
 (h:∀K:Act→Prop,(∀a',wpQ P ops l N a' w→K a')→qNext K o a w ((execOp a.eval o).run P w)):wpQ P ops (i :: l) N a w:=by
 have h':=h (fun a'=>wpQ P ops l N a' w) (fun _ h=>h);simp only [wpQ,ho];refine .inl ⟨hw,?_⟩;cases hr:(execOp a.eval o).run P w with
 | ok n w'=>
   rw [hr] at h';cases n<;>first | (obtain⟨rfl,h2⟩:=h';exact⟨_,rfl,h2⟩) | exact(h':False).elim
 | halt x w'=>rw [hr] at h';exact(h':False).elim
theorem wpQ_nil {N:Act→Prop}{a:Act}{w:World}(h:N a):wpQ P ops [] N a w:=h
theorem wpRest_nil {Q:Exit→Act→World→Prop}{f:Act}{w:World}(h:Q .normal f w):wpRest P ops Q [] f w:=h
theorem wpRest_act {Q:Exit→Act→World→Prop}{x:Nat}{E C:List Nat}{rest:List (Nat × List Nat × List Nat)}{f:Act}{w:World}{o:Oper}(ho:ops[x]? =some o)
 (h:wpList P ops (onN fun f1 w1=>wpQ P ops E (fun f2=>Chk P ops C f2 w1∧wpRest P ops Q rest f2 w1) f1 w1) [o] f w):wpRest P ops Q ((x,E,C) :: rest) f w:=by
 simp only [wpRest,ho];exact h
theorem onN_mk {K:Act→World→Prop}{a:Act}{w:World}(h:K a w):onN K .normal a w:=h
theorem chk_nil {f:Act}{w:World}:Chk P ops [] f w:=fun _ h=>by cases h
theorem chk_cons {c:Nat}{C:List Nat}{f:Act}{w:World}(h:YieldF P ops c f w)(hC:Chk P ops C f w):Chk P ops (c :: C) f w:=fun i hi=>by
 cases hi with
 | head=>exact h
 | tail _ hi=>exact hC i hi
theorem yieldF_of {c:Nat}{o:Oper}{d:Nat}{v:Value}{f:Act}{w:World}(ho:ops[c]? =some o)(hw:Region.wanted o (yielded ops f.tmps)=true)(hd:o.dst=some d)(hv:f.tmps[d]? =some v)
 (hr:(execOp f.eval o).run P w= .ok (.value v) w):YieldF P ops c f w:=by
 simp only [YieldF,ho];exact .inl ⟨hw,v,hr,fun d' hd'=>by rw [hd] at hd';cases hd';exact hv⟩
end
end Go.Sl
namespace Go.Sl
theorem wS {P:Program}{ops:Array Oper}(sz:Nat){Q:Exit→Act→World→Prop}{id:Nat}{a:Act}{w:World}(E0:List Nat)(rest:List (Nat×List Nat×List Nat))(h:wpQ P ops E0 (fun f=>wpRest P ops Q rest f w.drew) a w.drew)(hm:P.follows .mixedOrders=true:=by kernel_rfl)(hsz:a.tmps.size=sz:=by rfl)(hs:slotsOk ops sz=true:=by kernel_rfl)(ho:orderOk ops [] E0=true:=by kernel_rfl)(hp:planOk ops E0 [] rest=true:=by kernel_rfl):(Code.region id ops true).wp P Q a w:=wp_region_staged hm E0 rest hsz hs ho hp h
end Go.Sl
