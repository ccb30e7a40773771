/- Small separation logic over the heap's blocks: what a call owns, and what it leaves as it was. Plain lemmas, no condition. -/
import Derived.WalkKit
import Derived.Below
import Derived.Deep.QuietTactic
import Derived.BigQuiet
import Derived.Test.YtbobcmimkonnoaaGreatRows
import Derived.ProofKit
import Derived.OpenShut
import Derived.WalkSpells
import Derived.WalkLawsBesides
import Derived.OwnWalkIn
import Derived.Lib.AppendZeros
import Derived.Lib.Hide
set_option maxRecDepth 100000
set_option maxHeartbeats 16000000
namespace Go
theorem hQ {p : Prop} (h : p) : RowKit.Hid p := h
theorem pQ : (∀ (α : Type) (a : α) (l : List α) (n : Nat), (a :: l).drop (n + 1) = l.drop n) ∧ (∀ (α : Type) (l : List α), l.drop 0 = l) ∧ (∀ (α : Type) (a : α) (l : List α) (n : Nat), (a :: l).take (n + 1) = a :: l.take n) ∧ (∀ (α : Type) (l : List α), l.take 0 = []) ∧ (∀ (α : Type) (a : α) (l m : List α), (a :: l) ++ m = a :: (l ++ m)) ∧ (∀ (α : Type) (l : List α), [] ++ l = l) := ⟨fun _ _ _ _ => rfl, fun _ _ => rfl, fun _ _ _ _ => rfl, fun _ _ => rfl, fun _ _ _ _ => rfl, fun _ _ => rfl⟩
end Go
namespace Go.Sl
open Go.RowKit
abbrev Hp:=Nat→Option Obj
def Hp.nil:Hp:=fun _=>Option.none
def Hp.dis(a b:Hp):Prop:= ∀k,a k=Option.none∨b k=Option.none
def Hp.un(a b:Hp):Hp:=fun k=>match a k with | some o=>some o | Option.none=>b k
def Hp.le(a:Hp)(w:World):Prop:= ∀k o,a k=some o→w.heap[k]? =some o
theorem Hp.dis_comm {a b:Hp}(h:a.dis b):b.dis a:=fun k=>(h k).symm
theorem Hp.un_comm {a b:Hp}(h:a.dis b):a.un b=b.un a:=by
 funext k;rcases h k with e | e<;>simp only [Hp.un,e]<;>cases h:a k<;>cases h':b k<;>simp_all
theorem Hp.un_assoc(a b c:Hp):(a.un b).un c=a.un (b.un c):=by
 funext k;simp only [Hp.un];cases a k<;>rfl
theorem Hp.nil_un(a:Hp):Hp.nil.un a=a:=rfl
theorem Hp.un_nil(a:Hp):a.un Hp.nil=a:=by funext k;simp only [Hp.un,Hp.nil];cases a k<;>rfl
theorem Hp.dis_un {a b c:Hp}:(a.un b).dis c↔a.dis c∧b.dis c∨((∀k,(a k=Option.none∧b k=Option.none)∨c k=Option.none)):=by
 constructor
 · intro h;right;intro k
   rcases h k with e | e
   · left;simp only [Hp.un] at e;cases ha:a k<;>simp_all
   · exact .inr e
 · rintro(⟨h1,h2⟩ | h) k
   · rcases h1 k with e | e
     · rcases h2 k with e' | e'
       · left;simp [Hp.un,e,e']
       · exact .inr e'
     · exact .inr e
   · rcases h k with⟨e,e'⟩ | e
     · left;simp [Hp.un,e,e']
     · exact .inr e
theorem Hp.dis_un_iff {a b c:Hp}:(a.un b).dis c↔a.dis c∧b.dis c:=by
 constructor
 · intro h
   refine⟨fun k=> ?_,fun k=> ?_⟩<;>(rcases h k with e | e;(left;simp only [Hp.un] at e;cases ha:a k<;>simp_all);exact .inr e)
 · exact fun h=>Hp.dis_un.2 (.inl h)
theorem Hp.le_un {a b:Hp}{w:World}(h:a.dis b):(a.un b).le w↔a.le w∧b.le w:=by
 constructor
 · intro hl
   refine⟨fun k o e=>hl k o (by simp [Hp.un,e]),fun k o e=>hl k o ?_⟩
   rcases h k with e' | e'
   · simp [Hp.un,e',e]
   · rw [e'] at e;cases e
 · rintro⟨h1,h2⟩ k o e
   simp only [Hp.un] at e
   cases ha:a k with
   | some x=>rw [ha] at e;cases e;exact h1 k _ ha
   | none=>rw [ha] at e;exact h2 k _ e
def Pr:=Hp→Prop
def Pr.emp:Pr:=fun h=>h=Hp.nil
def Pr.star(A B:Pr):Pr:=fun h=> ∃a b,A a∧B b∧a.dis b∧h=a.un b
def Pr.pts(b:Nat)(o:Obj):Pr:=fun h=>h=fun k=>if k=b then some o else Option.none
def Pr.own(h0:Hp):Pr:=fun h=>h=h0
def Pr.pure(p:Prop):Pr:=fun h=>p∧h=Hp.nil
def Pr.ex {α:Sort _}(A:α→Pr):Pr:=fun h=> ∃x,A x h
theorem Pr.star_comm(A B:Pr):A.star B=B.star A:=by
 funext h;apply propext
 constructor<;>(rintro⟨a,b,ha,hb,hd,rfl⟩;exact⟨b,a,hb,ha,Hp.dis_comm hd,Hp.un_comm hd⟩)
theorem Pr.star_assoc(A B C:Pr):(A.star B).star C=A.star (B.star C):=by
 funext h;apply propext
 constructor
 · rintro⟨_,c,⟨a,b,ha,hb,hd,rfl⟩,hc,hd',rfl⟩
   obtain⟨h1,h2⟩:=Hp.dis_un_iff.1 hd'
   exact⟨a,b.un c,ha,⟨b,c,hb,hc,h2,rfl⟩,Hp.dis_comm (Hp.dis_un_iff.2 ⟨Hp.dis_comm hd,Hp.dis_comm h1⟩),Hp.un_assoc _ _ _⟩
 · rintro⟨a,_,ha,⟨b,c,hb,hc,hd,rfl⟩,hd',rfl⟩
   obtain⟨h1,h2⟩:=Hp.dis_un_iff.1 (Hp.dis_comm hd')
   exact⟨a.un b,c,⟨a,b,ha,hb,Hp.dis_comm h1,rfl⟩,hc,Hp.dis_un_iff.2 ⟨Hp.dis_comm h2,hd⟩,(Hp.un_assoc _ _ _).symm⟩
instance:Std.Commutative Pr.star:=⟨Pr.star_comm⟩
instance:Std.Associative Pr.star:=⟨Pr.star_assoc⟩
theorem Pr.star_emp(A:Pr):A.star Pr.emp=A:=by
 funext h;apply propext
 constructor
 · rintro⟨a,b,ha,rfl,_,rfl⟩;rw [Hp.un_nil];exact ha
 · intro ha;exact⟨h,Hp.nil,ha,rfl,fun _=> .inr rfl,(Hp.un_nil h).symm⟩
theorem Pr.emp_star(A:Pr):Pr.emp.star A=A:=by rw [Pr.star_comm,Pr.star_emp]
theorem Pr.left_comm(A B C:Pr):A.star (B.star C)=B.star (A.star C):=by rw [← Pr.star_assoc,Pr.star_comm A B,Pr.star_assoc]
theorem Pr.ex_star {α:Sort _}(A:α→Pr)(F:Pr):(Pr.ex A).star F=Pr.ex fun x=>(A x).star F:=by
 funext h;apply propext
 constructor
 · rintro⟨a,b,⟨x,ha⟩,hb,hd,rfl⟩;exact⟨x,a,b,ha,hb,hd,rfl⟩
 · rintro⟨x,a,b,ha,hb,hd,rfl⟩;exact⟨a,b,⟨x,ha⟩,hb,hd,rfl⟩
theorem Pr.star_ex {α:Sort _}(A:α→Pr)(F:Pr):F.star (Pr.ex A)=Pr.ex fun x=>F.star (A x):=by
 rw [Pr.star_comm,Pr.ex_star]
 congr 1;funext x;exact Pr.star_comm _ _
def Sat(A:Pr)(w:World):Prop:= ∃h,A h∧h.le w
theorem Sat.perm {A B:Pr}{w:World}(h:Sat A w)(e:A=B):Sat B w:=e ▸ h
theorem Sat.right {A B:Pr}{w:World}(h:Sat (A.star B) w):Sat B w:=by
 obtain⟨_,⟨a,b,_,hb,hd,rfl⟩,hl⟩:=h;exact⟨b,hb,((Hp.le_un hd).1 hl).2⟩
theorem Sat.left {A B:Pr}{w:World}(h:Sat (A.star B) w):Sat A w:=(h.perm (Pr.star_comm A B)).right
theorem Sat.mono {A B F:Pr}{w:World}(h:Sat (A.star F) w)(hab:∀x,A x→B x):Sat (B.star F) w:=by
 obtain⟨x,⟨a,f,ha,hf,hd,rfl⟩,hl⟩:=h;exact⟨_,⟨a,f,hab a ha,hf,hd,rfl⟩,hl⟩
theorem Sat.ex {α:Sort _}{A:α→Pr}{F:Pr}{w:World}:Sat ((Pr.ex A).star F) w↔∃x,Sat ((A x).star F) w:=by
 constructor
 · rintro⟨_,⟨a,f,⟨x,ha⟩,hf,hd,rfl⟩,hl⟩;exact⟨x,_,⟨a,f,ha,hf,hd,rfl⟩,hl⟩
 · rintro⟨x,_,⟨a,f,ha,hf,hd,rfl⟩,hl⟩;exact⟨_,⟨a,f,⟨x,ha⟩,hf,hd,rfl⟩,hl⟩
theorem Sat.ex0 {α:Sort _}{A:α→Pr}{w:World}:Sat (Pr.ex A) w↔∃x,Sat (A x) w:=
 ⟨fun⟨h,⟨x,hx⟩,hl⟩=>⟨x,h,hx,hl⟩,fun⟨x,h,hx,hl⟩=>⟨h,⟨x,hx⟩,hl⟩⟩
theorem Sat.pure {p:Prop}{F:Pr}{w:World}:Sat ((Pr.pure p).star F) w↔p∧Sat F w:=by
 constructor
 · rintro⟨_,⟨a,f,⟨hp,rfl⟩,hf,hd,rfl⟩,hl⟩;rw [Hp.nil_un] at hl;exact⟨hp,f,hf,hl⟩
 · rintro⟨hp,f,hf,hl⟩;exact⟨f,⟨Hp.nil,f,⟨hp,rfl⟩,hf,fun _=> .inl rfl,rfl⟩,hl⟩
theorem Sat.pts_heap {b:Nat}{o:Obj}{F:Pr}{w:World}(h:Sat ((Pr.pts b o).star F) w):w.heap[b]? =some o:=by
 obtain⟨x,rfl,hl⟩:=h.left;exact hl b o (by simp)
theorem Sat.pts_ne {b c:Nat}{o o':Obj}{F:Pr}{w:World}(h:Sat ((Pr.pts b o).star ((Pr.pts c o').star F)) w):b≠c:=by
 obtain⟨_,⟨a,_,rfl,⟨b',f,rfl,hf,hd',rfl⟩,hd,rfl⟩,hl⟩:=h
 rintro rfl
 rcases hd b with e | e<;>simp [Hp.un] at e
theorem Sat.own {h0:Hp}{F:Pr}{w:World}(h:Sat ((Pr.own h0).star F) w):h0.le w:=by
 obtain⟨x,rfl,hl⟩:=h.left;exact hl
theorem Sat.lt {b:Nat}{o:Obj}{F:Pr}{w:World}(h:Sat ((Pr.pts b o).star F) w):b<w.heap.size:=
 (Array.getElem?_eq_some_iff.1 h.pts_heap).1
structure Stays(w w':World):Prop where
 os:w'.os=w.os
 tape:w'.tape=w.tape
 output:w'.output=w.output
 size:w.heap.size≤w'.heap.size
theorem Stays.refl(w:World):Stays w w:=⟨rfl,rfl,rfl,Nat.le_refl _⟩
theorem Stays.trans {a b c:World}(h:Stays a b)(k:Stays b c):Stays a c:=
 ⟨k.os.trans h.os,k.tape.trans h.tape,k.output.trans h.output,Nat.le_trans h.size k.size⟩
theorem Stays.alloc {a w:World}(h:Stays a w)(o:Obj):Stays a (w.alloc o):=h.trans ⟨rfl,rfl,rfl,by simp⟩
theorem Stays.setCell {a w:World}(h:Stays a w)(p:Addr)(v:Value):Stays a (w.setCell p v):=h.trans ⟨rfl,rfl,rfl,by simp [World.setCell]⟩
theorem Stays.drewN {a w:World}(h:Stays a w)(n:Nat):Stays a (w.drewN n):=h.trans ⟨rfl,rfl,rfl,Nat.le_refl _⟩
theorem Stays.drew {a w:World}(h:Stays a w):Stays a w.drew:=h.trans ⟨rfl,rfl,rfl,Nat.le_refl _⟩
def Apart(S:Nat→Prop)(w w':World):Prop:= ∀k,k<w.heap.size→¬S k→w'.heap[k]? =w.heap[k]?
theorem Sat.ext {A:Pr}{w w':World}(h:Sat A w)(ha:∀k,k<w.heap.size→w'.heap[k]? =w.heap[k]?):Sat A w':=by
 obtain⟨x,hx,hl⟩:=h;exact⟨x,hx,fun k o e=>(ha k (Array.getElem?_eq_some_iff.1 (hl k o e)).1).trans (hl k o e)⟩
theorem Sat.below {A:Pr}{w w':World}(h:Sat A w)(hb:Below w.heap.size w w'):Sat A w':=h.ext hb.block
theorem Sat.drewN {A:Pr}{w:World}(h:Sat A w)(n:Nat):Sat A (w.drewN n):=h.ext fun _ _=>rfl
theorem Sat.drew {A:Pr}{w:World}(h:Sat A w):Sat A w.drew:=h.ext fun _ _=>rfl
theorem Sat.put {b:Nat}{o o':Obj}{F:Pr}{w w':World}(h:Sat ((Pr.pts b o).star F) w)(hb:w'.heap[b]? =some o')
 (ha:∀k,k<w.heap.size→k≠b→w'.heap[k]? =w.heap[k]?):Sat ((Pr.pts b o').star F) w':=by
 obtain⟨_,⟨a,f,rfl,hf,hd,rfl⟩,hl⟩:=h
 obtain⟨h1,h2⟩:=(Hp.le_un hd).1 hl
 have hd':Hp.dis (fun k=>if k=b then some o' else Option.none) f:=fun k=>by
  rcases hd k with e | e
  · left;by_cases hk:k=b<;>simp_all
  · exact .inr e
 refine⟨_,⟨_,f,rfl,hf,hd',rfl⟩,(Hp.le_un hd').2 ⟨fun k x e=> ?_,fun k x e=> ?_⟩⟩
 · by_cases hk:k=b
   · simp [hk] at e;rw [hk, ← e];exact hb
   · simp [hk] at e
 · have hk:k≠b:=by
    rintro rfl;rcases hd k with e' | e'
    · simp at e'
    · rw [e'] at e;cases e
   exact(ha k (Array.getElem?_eq_some_iff.1 (h2 k x e)).1 hk).trans (h2 k x e)
theorem Sat.setCell {b i:Nat}{cs:Array Value}{t:TypeId}{fz:Nat × Nat}{F:Pr}{w:World}(h:Sat ((Pr.pts b (.cells cs t fz)).star F) w)(v:Value):
 Sat ((Pr.pts b (.cells (cs.setIfInBounds i v) t fz)).star F) (w.setCell ⟨b,i,Option.none⟩ v):=by
 refine h.put ?_ (fun k _ hk=>Below.heap_setCell _ _ _ _ hk)
 have hb:=h.pts_heap
 simp [World.setCell,Array.getElem?_modify,hb]
theorem Sat.join {h0:Hp}{F:Pr}{w w':World}(h:Sat F w)(hn:h0.le w')(hnew:∀k o,h0 k=some o→w.heap.size≤k)
 (ha:∀k,k<w.heap.size→w'.heap[k]? =w.heap[k]?):Sat ((Pr.own h0).star F) w':=by
 obtain⟨f,hf,hl⟩:=h
 have hd:h0.dis f:=fun k=>by
  cases e:f k with
  | none=>exact .inr rfl
  | some o=>
    left
    cases e':h0 k with
    | none=>rfl
    | some o'=>
      have:=(Array.getElem?_eq_some_iff.1 (hl k o e)).1
      have:=hnew k o' e'
      omega
 exact⟨_,⟨h0,f,rfl,hf,hd,rfl⟩,(Hp.le_un hd).2 ⟨hn,fun k o e=>(ha k (Array.getElem?_eq_some_iff.1 (hl k o e)).1).trans (hl k o e)⟩⟩
theorem heap_new(w:World)(o:Obj):(w.alloc o).heap[w.heap.size]? =some o:=by
 show (w.heap.push o)[w.heap.size]? =some o
 exact Array.getElem?_push_size
theorem Sat.alloc {F:Pr}{w:World}(h:Sat F w)(o:Obj):Sat ((Pr.pts w.heap.size o).star F) (w.alloc o):=by
 have:=Sat.join (h0:=fun k=>if k=w.heap.size then some o else Option.none) (w':=w.alloc o) h (fun k x e=>by
  by_cases hk:k=w.heap.size
  · simp [hk] at e;rw [hk, ← e];exact heap_new w o
  · simp [hk] at e) (fun k x e=>by by_cases hk:k=w.heap.size<;>simp_all) (fun k hk=>Below.heap_alloc w o k hk)
 exact this
def Does(P:Program)(f:FuncId)(args:Array Value)(Pre:Pr)(Post:Value→Pr):Prop:=
 ∀F w,Sat (Pre.star F) w→Calls P f args w fun e w'=> ∃v,e= .returned v∧Sat ((Post v).star F) w'∧Stays w w'
def Row(T k:Nat)(v:Value)(n:Nat)(xs:List Value):Pr:=fun h=>
 xs.length=n*k∧((v= .slice Option.none 0 0∧n=0∧h=Hp.nil)∨
  ∃b cap sp,v= .slice (some ⟨b,0,Option.none⟩) n cap∧xs.length+sp.length=cap*k∧n≤cap∧cap≤maxLen∧Pr.pts b (.cells (xs++sp).toArray T (0,0)) h)
theorem Row.nil(T k:Nat):Row T k (.slice Option.none 0 0) 0 []=Pr.emp:=by
 funext h;apply propext
 constructor
 · rintro⟨_,(⟨_,_,e⟩ | ⟨b,cap,sp,e,_⟩)⟩
   · exact e
   · cases e
 · intro e;exact⟨by simp,.inl ⟨rfl,rfl,e⟩⟩
theorem Sat.emp {F:Pr}{w:World}:Sat (Pr.emp.star F) w↔Sat F w:=by rw [Pr.emp_star]
theorem Row.open' {T k:Nat}{v:Value}{n:Nat}{xs:List Value}{F:Pr}{w:World}(h:Sat ((Row T k v n xs).star F) w):
 xs.length=n*k∧((v= .slice Option.none 0 0∧n=0∧Sat F w)∨
  ∃b cap sp,v= .slice (some ⟨b,0,Option.none⟩) n cap∧xs.length+sp.length=cap*k∧n≤cap∧cap≤maxLen∧Sat ((Pr.pts b (.cells (xs++sp).toArray T (0,0))).star F) w):=by
 obtain⟨x,⟨a,f,⟨hl,ha⟩,hf,hd,rfl⟩,hw⟩:=h
 refine⟨hl,?_⟩
 rcases ha with⟨hv,hn,rfl⟩ | ⟨b,cap,sp,hv,h1,h2,h3,h4⟩
 · rw [Hp.nil_un] at hw;exact .inl ⟨hv,hn,f,hf,hw⟩
 · exact .inr ⟨b,cap,sp,hv,h1,h2,h3,_,⟨a,f,h4,hf,hd,rfl⟩,hw⟩
theorem Row.mk' {T k b cap n:Nat}{xs sp:List Value}{F:Pr}{w:World}(hl:xs.length=n*k)(h1:xs.length+sp.length=cap*k)(h2:n≤cap)(h3:cap≤maxLen)
 (h:Sat ((Pr.pts b (.cells (xs++sp).toArray T (0,0))).star F) w):Sat ((Row T k (.slice (some ⟨b,0,Option.none⟩) n cap) n xs).star F) w:=
 h.mono fun _ hx=>⟨hl,.inr ⟨b,cap,sp,rfl,h1,h2,h3,hx⟩⟩
theorem cell_of_heap {w:World}{b:Nat}{cs:Array Value}{t:TypeId}{fz:Nat × Nat}(h:w.heap[b]? =some (.cells cs t fz))(i:Nat):w.cell? ⟨b,i,Option.none⟩=cs[i]? :=by
 simp [World.cell?,h]
theorem frozen_of_heap {w:World}{b:Nat}{cs:Array Value}{t:TypeId}(h:w.heap[b]? =some (.cells cs t (0,0)))(i:Nat):w.frozen? ⟨b,i,Option.none⟩=false:=by
 simp [World.frozen?,h]
theorem Row.read {T k:Nat}{v:Value}{n:Nat}{xs:List Value}{F:Pr}{w:World}(h:Sat ((Row T k v n xs).star F) w):
 ∃a c,v= .slice a n c∧xs.length=n*k∧(0<n→∃b,a=some ⟨b,0,Option.none⟩∧∀i,i<n*k→w.cell? ⟨b,i,Option.none⟩=xs[i]? ∧w.frozen? ⟨b,i,Option.none⟩=false):=by
 obtain⟨hl,(⟨rfl,rfl,_⟩ | ⟨b,cap,sp,rfl,h1,h2,h3,h4⟩)⟩:=Row.open' h
 · exact⟨_,_,rfl,hl,fun h=>absurd h (by omega)⟩
 · refine⟨_,_,rfl,hl,fun _=>⟨b,rfl,fun i hi=>⟨?_,frozen_of_heap h4.pts_heap i⟩⟩⟩
   rw [cell_of_heap h4.pts_heap]
   simp [List.getElem?_append_left (show i<xs.length by omega)]
end Go.Sl
namespace Go.Cop
def stateOf(c:Int)(l:Bool):Int:=if 0<c then(if l then 4 else 3) else(if l then 2 else 1)
structure PoolS where
 refs:Int
 counts:List Int
 last:List Bool
 acts:List (Int × Int)
 floor:Int
def PoolS.there(s:PoolS)(n:Int):Prop:=1≤n∧n≤s.counts.length
instance(s:PoolS)(n:Int):Decidable (s.there n):=by unfold PoolS.there;infer_instance
def PoolS.count(s:PoolS)(n:Int):Int:=if s.there n then s.counts.getD (n.toNat-1) 0 else 0
def PoolS.lasts(s:PoolS)(n:Int):Bool:=s.last.getD (n.toNat-1) false
def PoolS.state(s:PoolS)(n:Int):Int:=if s.there n then stateOf (s.count n) (s.lasts n) else 0
def PoolS.many(s:PoolS)(k:Int):Nat:=((s.counts.zip s.last).filter fun x=>stateOf x.1 x.2 == k).length
def PoolS.tally(s:PoolS)(k:Int):Int:=if k<1∨4<k then 0 else s.many k
def PoolS.mark(s:PoolS):Int:=s.floor+s.acts.length
end Go.Cop
namespace Go.Proofs.YtbobcmimkonnoaaGreat.D2
open ChangeShapes WideShapes ChangeAt RowKit Sl Cop
structure PoolRd(w:World)(p:Nat)(s:PoolS):Prop where
 len:s.counts.length≤65536
 len':s.last.length=s.counts.length
 refs:w.cell? ⟨p,0,none⟩=some (.int .i64 s.refs)
 cs:∃b c,w.cell? ⟨p,1,none⟩=some (.slice (some ⟨b,0,none⟩) s.counts.length c)∧∀i,i<s.counts.length→w.cell? ⟨b,i,none⟩=some (.int .i64 (s.counts.getD i 0))
 ls:∃b c,w.cell? ⟨p,2,none⟩=some (.slice (some ⟨b,0,none⟩) s.counts.length c)∧∀i,i<s.counts.length→w.cell? ⟨b,i,none⟩=some (.bool (s.last.getD i false))
theorem there_no(p:Nat)(n:Int)(w:World)(b c l:Nat)(h1:w.cell? ⟨p,1,none⟩=some (.slice (some ⟨b,0,none⟩) l c))(h:n<1∨l<n):
 Calls Tryz.prog 92 #[.pointer (some ⟨p,0,none⟩),.int .i64 n] w fun e w'=>e= .returned (.bool false)∧w=w':=by
 by_cases h0:1≤n
 all_goals
  go_enter Tryz.func92,Tryz.ntmps92
  go_wp2
  go_ret
  refine⟨?_,rfl⟩
  first | rfl | (have hd:decide (n≤(l:Int))=false:=by { simp;omega };exact congrArg (fun x=>Ending.returned (.bool x)) hd)
theorem there_yes(p:Nat)(n:Int)(w:World)(b c l:Nat)(h1:w.cell? ⟨p,1,none⟩=some (.slice (some ⟨b,0,none⟩) l c))(h0:1≤n)(h:n≤l):
 Calls Tryz.prog 92 #[.pointer (some ⟨p,0,none⟩),.int .i64 n] w fun e w'=>e= .returned (.bool true)∧w=w':=by
 go_enter Tryz.func92,Tryz.ntmps92
 go_wp2
 go_ret
 exact⟨rfl,rfl⟩
theorem count_no(p:Nat)(n:Int)(w:World)(s:PoolS)(hp:PoolRd w p s)(h:¬s.there n):
 Calls Tryz.prog 32 #[.pointer (some ⟨p,0,none⟩),.int .i64 n] w fun e w'=>e= .returned (.int .i64 0)∧w=w':=by
 obtain⟨b,c,h1,h2⟩:=hp.cs
 have hn:n<1∨s.counts.length<n:=by unfold PoolS.there at h;omega
 go_enter Tryz.func32,Tryz.ntmps32
 go_wp2_with (go_at_call 92;refine(there_no _ _ _ _ _ _ h1 hn).mono ?_;rintro e w' ⟨rfl,rfl⟩)
 go_ret
 exact⟨rfl,rfl⟩
theorem count_yes(p:Nat)(n:Int)(w:World)(s:PoolS)(hp:PoolRd w p s)(h:s.there n):
 Calls Tryz.prog 32 #[.pointer (some ⟨p,0,none⟩),.int .i64 n] w fun e w'=>e= .returned (.int .i64 (s.counts.getD (n.toNat-1) 0))∧w=w':=by
 obtain⟨b,c,h1,h2⟩:=hp.cs
 have hl:=hp.len
 obtain⟨h3,h4⟩:=h
 have h5:=h2 (n.toNat-1) (by omega)
 clear h2
 generalize s.counts.getD (n.toNat-1) 0=v at*
 go_enter Tryz.func32,Tryz.ntmps32
 go_wp2_with (go_at_call 92;refine(there_yes _ _ _ _ _ _ h1 h3 h4).mono ?_;rintro e w' ⟨rfl,rfl⟩)
 go_ret
 exact⟨rfl,rfl⟩
theorem state_no(p:Nat)(n:Int)(w:World)(s:PoolS)(hp:PoolRd w p s)(h:¬s.there n):
 Calls Tryz.prog 47 #[.pointer (some ⟨p,0,none⟩),.int .i64 n] w fun e w'=>e= .returned (.int .i64 0)∧w=w':=by
 obtain⟨b,c,h1,h2⟩:=hp.cs
 have hn:n<1∨s.counts.length<n:=by unfold PoolS.there at h;omega
 go_enter Tryz.func47,Tryz.ntmps47
 go_wp2_with (go_at_call 92;refine(there_no _ _ _ _ _ _ h1 hn).mono ?_;rintro e w' ⟨rfl,rfl⟩)
 go_ret
 exact⟨rfl,rfl⟩
theorem state_yes(p:Nat)(n:Int)(w:World)(s:PoolS)(hp:PoolRd w p s)(h:s.there n):
 Calls Tryz.prog 47 #[.pointer (some ⟨p,0,none⟩),.int .i64 n] w fun e w'=>e= .returned (.int .i64 (stateOf (s.counts.getD (n.toNat-1) 0) (s.last.getD (n.toNat-1) false)))∧w=w':=by
 obtain⟨b,c,h1,h2⟩:=hp.cs
 obtain⟨b',c',h1',h2'⟩:=hp.ls
 have hl:=hp.len
 obtain⟨h3,h4⟩:=h
 have h5:=h2 (n.toNat-1) (by omega)
 have h5':=h2' (n.toNat-1) (by omega)
 clear h2 h2'
 generalize s.counts.getD (n.toNat-1) 0=v at*
 generalize s.last.getD (n.toNat-1) false=u at*
 by_cases hv:0<v<;>cases u
 all_goals
  go_enter Tryz.func47,Tryz.ntmps47
  go_wp2_with (go_at_call 92;refine(there_yes _ _ _ _ _ _ h1 h3 h4).mono ?_;rintro e w' ⟨rfl,rfl⟩)
  go_ret
  exact⟨by simp [stateOf,hv],rfl⟩
theorem count_any(p:Nat)(n:Int)(w:World)(s:PoolS)(hp:PoolRd w p s):
 Calls Tryz.prog 32 #[.pointer (some ⟨p,0,none⟩),.int .i64 n] w fun e w'=>e= .returned (.int .i64 (s.count n))∧w=w':=by
 unfold PoolS.count
 by_cases h:s.there n
 · rw [if_pos h];exact count_yes p n w s hp h
 · rw [if_neg h];exact count_no p n w s hp h
theorem state_any(p:Nat)(n:Int)(w:World)(s:PoolS)(hp:PoolRd w p s):
 Calls Tryz.prog 47 #[.pointer (some ⟨p,0,none⟩),.int .i64 n] w fun e w'=>e= .returned (.int .i64 (s.state n))∧w=w':=by
 unfold PoolS.state PoolS.count PoolS.lasts
 by_cases h:s.there n
 · rw [if_pos h,if_pos h];exact state_yes p n w s hp h
 · rw [if_neg h];exact state_no p n w s hp h
end Go.Proofs.YtbobcmimkonnoaaGreat.D2
namespace Go.Sl
open Go.RowKit
theorem size_zeros(z:Array Value)(n:Nat):(Builtin.zeroCells z n).size=n*z.size:=by simp [Builtin.zeroCells]
section
variable {P:Program}{w:World}{F:Pr}
theorem row_fresh {e size n cap:Nat}{xs:List Value}(z:Array Value)(hF:Sat F w)(hl:xs.length=n*size)(hz:z.size=size)(hn:n≤cap)(hc:cap≤maxLen):
 Sat ((Row e size (.slice (some ⟨w.heap.size,0,none⟩) n cap) n xs).star F) (w.drew.alloc (.cells (xs.toArray++Builtin.zeroCells z (cap-n)) e)):=by
 have hs:=(hF.drew).alloc (.cells (xs.toArray++Builtin.zeroCells z (cap-n)) e)
 have he:xs.toArray++Builtin.zeroCells z (cap-n)=(xs++(Builtin.zeroCells z (cap-n)).toList).toArray:=by
  apply Array.toList_inj.1;simp
 rw [he] at hs ⊢
 refine Row.mk' hl ?_ hn hc hs
 have h0:(Builtin.zeroCells z (cap-n)).toList.length=(cap-n)*size:=by rw [Array.length_toList,size_zeros,hz]
 show xs.length+ _=_
 rw [h0,hl, ← Nat.add_mul]
 congr 1
 omega
theorem run_append_sl(t ty e:TypeId)(i:TypeInfo)(z:Value)(size bytes:Nat)(ht:P.underlying t=some (.slice e))(hi:P.info? e=some i)(hz:i.zero=some z)
 (hsize:i.size=size) (hby:i.bytes=bytes) (hzs:z.cells.size=size)
 (v:Value) (n:Nat) (xs:List Value) (hown:Sat ((Row e size v n xs).star F) w)
 (a:Addr) (m c:Nat) (news:List Value) (hl:news.length=m*size) (hnews:∀j u,news[j]? =some u→w.cell? (a.add j)=some u) (h1:∀u∈news,u.oneCell'=true)
 (h63:n+m≤maxLen) (hbytes:(n+m)*bytes≤140737488355328):
 ∃v' w',(Builtin.append_ #[t,t] ty #[v,.slice (some a) m c]).run P w= .ok v' w'∧Sat ((Row e size v' (n+m) (xs++news)).star F) w'∧w.grownBy w' v.ownBlock∧
  (v'= .slice none 0 0↔v= .slice none 0 0∧m=0):=by
 subst hsize
 subst hby
 have hsmall:n+m≤9223372036854775807:=by simp only [maxLen] at h63;omega
 obtain⟨hxl,hcase⟩:=Row.open' hown
 have hlen:(xs++news).length=(n+m)*i.size:=by rw [List.length_append,hxl,hl,Nat.add_mul]
 rcases hcase with⟨rfl,rfl,hF⟩ | ⟨g,cap,sp,rfl,hcs,hnc,hcm,hp⟩
 · have hx:xs= []:=List.eq_nil_of_length_eq_zero (by simpa using hxl)
   subst hx
   by_cases hm:m=0
   · subst hm
     have hn:news= []:=List.eq_nil_of_length_eq_zero (by simpa using hl)
     subst hn
     refine⟨.slice none 0 0,w,?_,hown,⟨rfl,rfl,rfl,Nat.le_refl _,fun _ _ _=>rfl⟩,by simp⟩
     simp [Builtin.append_,run_underlying ht,sizeOf,typeInfo,hi,Builtin.lenOf,Builtin.firstCells,loadCells,loadCellsFrom]
   · have hr:=run_append_nil (P:=P) w t ty e i z ht hi hz a m c news hl hnews (by omega) (by omega) (by have hb:=hbytes;simp only [Nat.zero_add] at hb;omega)
     refine⟨_,_,hr,?_,⟨rfl,rfl,rfl,by simp,fun k hk _=>Below.heap_alloc w.drew _ k hk⟩,by simp [hm]⟩
     have:=row_fresh (e:=e) (size:=i.size) (n:=m) (cap:=grownCap w m 0 e) (xs:=news) z.cells hF hl hzs (grownCap_ge w m 0 e) (grownCap_le_maxLen w m 0 e (by omega))
     simpa using this
 · have hg:=hp.pts_heap
   by_cases hroom:n+m≤cap
   · have hsz:(xs++sp).toArray.size=cap*i.size:=by simp;omega
     have hfit:n*i.size+news.length≤(xs++sp).toArray.size:=by rw [hl,hsz, ← Nat.add_mul];exact Nat.mul_le_mul_right _ hroom
     have hr:=run_append_room (P:=P) w t ty e i ht hi g n cap _ hg a m c news hl hnews h1 hroom hfit
     refine⟨_,_,hr,?_,⟨rfl,rfl,rfl,by simp,fun k _ hk=>setRow_other w g k _ (fun e=>hk (by simp [Value.ownBlock,e]))⟩,by simp⟩
     have hp':=hp.put (w':=w.setRow g ((xs++sp).toArray.toList.take (n*i.size)++news++(xs++sp).toArray.toList.drop (n*i.size+news.length)).toArray)
      (setRow_heap w g _ _ e _ hg) (fun k _ hk=>setRow_other w g k _ hk)
     have he:(xs++sp).toArray.toList.take (n*i.size)++news++(xs++sp).toArray.toList.drop (n*i.size+news.length)=(xs++news)++sp.drop news.length:=by
      show (xs++sp).take (n*i.size)++news++(xs++sp).drop (n*i.size+news.length)=_
      rw [← hxl,List.take_left,List.drop_append]
      simp [Nat.add_sub_cancel_left,List.drop_eq_nil_of_le (show xs.length≤xs.length+news.length by omega)]
     rw [he] at hp' ⊢
     refine Row.mk' hlen ?_ hroom hcm hp'
     simp only [List.length_append,List.length_drop]
     have:news.length≤sp.length:=by
      simp only [List.size_toArray,List.length_append] at hfit
      omega
     omega
   · have holds:∀j u,xs[j]? =some u→w.cell? ((⟨g,0,none⟩:Addr).add j)=some u:=by
      intro j u hu
      have hadd:(⟨g,0,none⟩:Addr).add j=⟨g,j,none⟩:=by unfold Addr.add;split<;>simp_all
      rw [hadd,cell_of_heap hg]
      have hj:j<xs.length:=(List.getElem?_eq_some_iff.1 hu).1
      simp [List.getElem?_append_left hj,hu]
     have hr:=run_append_grow (P:=P) w t ty e i z ht hi hz ⟨g,0,none⟩ n cap xs hxl holds a m c news hl hnews (by omega) (by omega) (growslice_fits (by omega) hbytes)
     refine⟨_,_,hr,?_,⟨rfl,rfl,rfl,by simp,fun k hk _=>Below.heap_alloc w.drew _ k hk⟩,by simp⟩
     have:=row_fresh (e:=e) (size:=i.size) (n:=n+m) (cap:=grownCap w (n+m) cap e) (xs:=xs++news) z.cells hp.right hlen hzs (grownCap_ge w (n+m) cap e) (grownCap_le_maxLen w (n+m) cap e h63)
     simpa using this
theorem wp_append_sl {o:Oper}{a:Act}{K:Act→World→Prop}{Q:Exit→Act→World→Prop}(s x:Operand)(t:TypeId)
 (ho:o.op= .call { callee:= .builtin .append,args:= #[s,x],argTypes:= #[t,t] })
 (e:TypeId) (i:TypeInfo) (z:Value) (size bytes:Nat) (ht:P.underlying t=some (.slice e)) (hi:P.info? e=some i) (hz:i.zero=some z)
 (hsize:i.size=size) (hby:i.bytes=bytes) (hzs:z.cells.size=size)
 (v:Value) (n:Nat) (xs:List Value) (hs:a.eval s=v) (hown:Sat ((Row e size v n xs).star F) w)
 (ad:Addr) (m c:Nat) (news:List Value) (hx:a.eval x= .slice (some ad) m c) (hl:news.length=m*size) (hnews:∀j u,news[j]? =some u→w.cell? (ad.add j)=some u) (h1:∀u∈news,u.oneCell'=true)
 (h63:n+m≤maxLen) (hbytes:(n+m)*bytes≤140737488355328)
 (h:∀v' w',Sat ((Row e size v' (n+m) (xs++news)).star F) w'→w.grownBy w' v.ownBlock→(v'= .slice none 0 0↔v= .slice none 0 0∧m=0)→K (a.put o.dst v') w'):o.wp P a w K Q:=by
 obtain⟨v',w',hr,h2,h3,h4⟩:=run_append_sl (P:=P) t o.type e i z size bytes ht hi hz hsize hby hzs v n xs hown ad m c news hl hnews h1 h63 hbytes
 unfold Oper.wp execOp
 simp only [ho,resolve,invoke,builtin,Sem.run_bind,Sem.run_pure,Result.andThen_ok,List.map_toArray,List.map_cons,List.map_nil,hs,hx,hr]
 exact h v' w' h2 h3 h4
theorem wpList_append_sl {ops:Array Oper}{rest:List Oper}{o:Oper}{a:Act}{Q:Exit→Act→World→Prop}(hgd:o.guard=none)(s x:Operand)(t:TypeId)
 (ho:o.op= .call { callee:= .builtin .append,args:= #[s,x],argTypes:= #[t,t] })
 (e:TypeId) (i:TypeInfo) (z:Value) (size bytes:Nat) (ht:P.underlying t=some (.slice e)) (hi:P.info? e=some i) (hz:i.zero=some z)
 (hsize:i.size=size) (hby:i.bytes=bytes) (hzs:z.cells.size=size)
 (v:Value) (n:Nat) (xs:List Value) (hs:a.eval s=v) (hown:Sat ((Row e size v n xs).star F) w)
 (ad:Addr) (m c:Nat) (news:List Value) (hx:a.eval x= .slice (some ad) m c) (hl:news.length=m*size) (hnews:∀j u,news[j]? =some u→w.cell? (ad.add j)=some u) (h1:∀u∈news,u.oneCell'=true)
 (h63:n+m≤maxLen) (hbytes:(n+m)*bytes≤140737488355328)
 (h:∀v' w',Sat ((Row e size v' (n+m) (xs++news)).star F) w'→w.grownBy w' v.ownBlock→(v'= .slice none 0 0↔v= .slice none 0 0∧m=0)→wpList P ops Q rest (a.put o.dst v') w'):wpList P ops Q (o :: rest) a w:=
 wpList_plain hgd fun _ hK=>wp_append_sl s x t ho e i z size bytes ht hi hz hsize hby hzs v n xs hs hown ad m c news hx hl hnews h1 h63 hbytes fun v' w' h2 h3 h4=>hK _ _ (h v' w' h2 h3 h4)
end
end Go.Sl
namespace Go.Sl
open Go.RowKit
def Hp.cell(h:Hp)(b i:Nat):Option Value:=match h b with
 | some (.cells c _ _)=>c[i]?
 | _=>none
theorem Hp.cell_le {h:Hp}{w:World}(hl:h.le w){b i:Nat}{v:Value}(e:h.cell b i=some v):w.cell? ⟨b,i,none⟩=some v:=by
 unfold Hp.cell at e
 cases hb:h b with
 | none=>simp [hb] at e
 | some o=>
   rw [hb] at e
   cases o<;>simp at e
   rename_i c t f
   simp [World.cell?,hl b _ hb,e]
def Hp.sub(a b:Hp):Prop:= ∀k o,a k=some o→b k=some o
theorem Hp.sub.trans {a b c:Hp}(h:a.sub b)(k:b.sub c):a.sub c:=fun i o e=>k i o (h i o e)
theorem Hp.sub_un_left(a b:Hp):a.sub (a.un b):=fun k o e=>by simp [Hp.un,e]
theorem Hp.sub_un_right {a b:Hp}(h:a.dis b):b.sub (a.un b):=fun k o e=>by
 rcases h k with e' | e'
 · simp [Hp.un,e',e]
 · rw [e'] at e;cases e
theorem Hp.cell_sub {a b:Hp}(h:a.sub b){k i:Nat}{v:Value}(e:a.cell k i=some v):b.cell k i=some v:=by
 unfold Hp.cell at e ⊢
 cases ha:a k with
 | none=>simp [ha] at e
 | some o=>rw [h k o ha];rw [ha] at e;exact e
def RowIn(h:Hp)(k:Nat)(v:Value)(n:Nat)(xs:List Value):Prop:=
 xs.length=n*k∧∃a c,v= .slice a n c∧n≤c∧c≤maxLen∧(0<n→∃b off,a=some ⟨b,off,none⟩∧∀i,i<n*k→h.cell b (off+i)=xs[i]?)
theorem RowIn.nil(h:Hp)(k:Nat):RowIn h k (.slice none 0 0) 0 []:=⟨by simp,none,0,rfl,Nat.le_refl _,by simp [maxLen],fun h=>absurd h (by omega)⟩
theorem RowIn.sub {a b:Hp}(hs:a.sub b){k:Nat}{v:Value}{n:Nat}{xs:List Value}(h:RowIn a k v n xs):RowIn b k v n xs:=by
 obtain⟨hl,ad,c,hv,h1,h2,h3⟩:=h
 refine⟨hl,ad,c,hv,h1,h2,fun hn=> ?_⟩
 obtain⟨bb,off,hb,hc⟩:=h3 hn
 refine⟨bb,off,hb,fun i hi=> ?_⟩
 have e:=hc i hi
 have hlt:i<xs.length:=by omega
 rw [List.getElem?_eq_getElem hlt] at e ⊢
 exact Hp.cell_sub hs e
theorem Row.rowIn {T k:Nat}{v:Value}{n:Nat}{xs:List Value}{h:Hp}(hr:Row T k v n xs h):RowIn h k v n xs:=by
 obtain⟨hl,(⟨rfl,rfl,rfl⟩ | ⟨b,cap,sp,rfl,h1,h2,h3,rfl⟩)⟩:=hr
 · have:xs= []:=List.eq_nil_of_length_eq_zero (by omega)
   subst this;exact RowIn.nil _ _
 · refine⟨hl,_,_,rfl,h2,h3,fun hn=>⟨b,0,rfl,fun i hi=> ?_⟩⟩
   simp [Hp.cell,List.getElem?_append_left (show i<xs.length by omega)]
theorem Sat.toOwn {A F:Pr}{w:World}(h:Sat (A.star F) w):∃h0,A h0∧Sat ((Pr.own h0).star F) w:=by
 obtain⟨x,⟨a,f,ha,hf,hd,rfl⟩,hl⟩:=h
 exact⟨a,ha,_,⟨a,f,rfl,hf,hd,rfl⟩,hl⟩
theorem Sat.ofOwn {h0:Hp}{A F:Pr}{w:World}(h:Sat ((Pr.own h0).star F) w)(ha:A h0):Sat (A.star F) w:=h.mono fun _ e=>by cases e;exact ha
theorem Sat.own_join {a b:Hp}{F:Pr}{w:World}(h:Sat ((Pr.own a).star ((Pr.own b).star F)) w):a.dis b∧Sat ((Pr.own (a.un b)).star F) w:=by
 rw [← Pr.star_assoc] at h
 obtain⟨_,⟨_,f,⟨x,y,rfl,rfl,hd,rfl⟩,hf,hd',rfl⟩,hl⟩:=h
 exact⟨hd,_,⟨_,f,rfl,hf,hd',rfl⟩,hl⟩
theorem star_sub {A B:Pr}{h:Hp}(hs:(A.star B) h):∃a b,A a∧B b∧a.sub h∧b.sub h:=by
 obtain⟨a,b,ha,hb,hd,rfl⟩:=hs
 exact⟨a,b,ha,hb,Hp.sub_un_left a b,Hp.sub_un_right hd⟩
theorem pts_rowIn {T k b n cap:Nat}{xs:List Value}{h:Hp}(hp:Pr.pts b (.cells xs.toArray T (0,0)) h)(hl:xs.length=n*k)(hc:n=cap)(hm:cap≤maxLen):RowIn h k (.slice (some ⟨b,0,none⟩) n cap) n xs:=by
 subst hc
 exact Row.rowIn (T:=T) ⟨hl,.inr ⟨b,n,[],rfl,by simpa using hl,Nat.le_refl _,hm,by simpa using hp⟩⟩
section
variable {P:Program}{w:World}{F:Pr}
theorem add_cell(b off j:Nat):(⟨b,off,none⟩:Addr).add j=⟨b,off+j,none⟩:=by unfold Addr.add;split<;>simp_all
theorem run_append_row(t ty e:TypeId)(i:TypeInfo)(z:Value)(size bytes:Nat)(ht:P.underlying t=some (.slice e))(hi:P.info? e=some i)(hz:i.zero=some z)
 (hsize:i.size=size) (hby:i.bytes=bytes) (hzs:z.cells.size=size)
 (v:Value) (n:Nat) (xs:List Value) (hown:Sat ((Row e size v n xs).star F) w)
 (h:Hp) (hh:h.le w) (vx:Value) (m:Nat) (news:List Value) (hx:RowIn h size vx m news) (h1:∀u∈news,u.oneCell'=true)
 (h63:n+m≤maxLen) (hbytes:(n+m)*bytes≤140737488355328):
 ∃v' w',(Builtin.append_ #[t,t] ty #[v,vx]).run P w= .ok v' w'∧Sat ((Row e size v' (n+m) (xs++news)).star F) w'∧w.grownBy w' v.ownBlock∧
  (v'= .slice none 0 0↔v= .slice none 0 0∧m=0):=by
 obtain⟨hl,ad,c,rfl,hmc,hcm,hc⟩:=hx
 cases ad with
 | some ad=>
   refine run_append_sl t ty e i z size bytes ht hi hz hsize hby hzs v n xs hown ad m c news hl ?_ h1 h63 hbytes
   intro j u hu
   have hj:j<news.length:=(List.getElem?_eq_some_iff.1 hu).1
   have hm:0<m:=by
    rcases Nat.eq_zero_or_pos m with h0 | h0
    · subst h0;simp at hl;simp [hl] at hj
    · exact h0
   obtain⟨b,off,e1,hcell⟩:=hc hm
   cases e1
   rw [add_cell]
   exact Hp.cell_le hh ((hcell j (by omega)).trans hu)
 | none=>
   have hm:m=0:=by
    rcases Nat.eq_zero_or_pos m with h0 | h0
    · exact h0
    · obtain⟨b,off,e1,_⟩:=hc h0;cases e1
   subst hm
   have hn:news= []:=List.eq_nil_of_length_eq_zero (by simpa using hl)
   subst hn
   subst hsize
   refine⟨v,w,?_,by simpa using hown,⟨rfl,rfl,rfl,Nat.le_refl _,fun _ _ _=>rfl⟩,by simp⟩
   obtain⟨hxl,hcase⟩:=Row.open' hown
   rcases hcase with⟨rfl,rfl,_⟩ | ⟨g,cap,sp,rfl,_,hnc,_,_⟩
   · simp [Builtin.append_,run_underlying ht,sizeOf,typeInfo,hi,Builtin.lenOf,Builtin.firstCells]
   · simp [Builtin.append_,run_underlying ht,sizeOf,typeInfo,hi,Builtin.lenOf,Builtin.firstCells,hnc,storeCells]
theorem wp_append_row {o:Oper}{a:Act}{K:Act→World→Prop}{Q:Exit→Act→World→Prop}(s x:Operand)(t:TypeId)
 (ho:o.op= .call { callee:= .builtin .append,args:= #[s,x],argTypes:= #[t,t] })
 (e:TypeId) (i:TypeInfo) (z:Value) (size bytes:Nat) (ht:P.underlying t=some (.slice e)) (hi:P.info? e=some i) (hz:i.zero=some z)
 (hsize:i.size=size) (hby:i.bytes=bytes) (hzs:z.cells.size=size)
 (v:Value) (n:Nat) (xs:List Value) (hs:a.eval s=v) (hown:Sat ((Row e size v n xs).star F) w)
 (hp:Hp) (hh:hp.le w) (vx:Value) (m:Nat) (news:List Value) (hx:a.eval x=vx) (hrx:RowIn hp size vx m news) (h1:∀u∈news,u.oneCell'=true)
 (h63:n+m≤maxLen) (hbytes:(n+m)*bytes≤140737488355328)
 (h:∀v' w',Sat ((Row e size v' (n+m) (xs++news)).star F) w'→w.grownBy w' v.ownBlock→(v'= .slice none 0 0↔v= .slice none 0 0∧m=0)→K (a.put o.dst v') w'):o.wp P a w K Q:=by
 obtain⟨v',w',hr,h2,h3,h4⟩:=run_append_row (P:=P) t o.type e i z size bytes ht hi hz hsize hby hzs v n xs hown hp hh vx m news hrx h1 h63 hbytes
 unfold Oper.wp execOp
 simp only [ho,resolve,invoke,builtin,Sem.run_bind,Sem.run_pure,Result.andThen_ok,List.map_toArray,List.map_cons,List.map_nil,hs,hx,hr]
 exact h v' w' h2 h3 h4
theorem wpList_append_row {ops:Array Oper}{rest:List Oper}{o:Oper}{a:Act}{Q:Exit→Act→World→Prop}(hgd:o.guard=none)(s x:Operand)(t:TypeId)
 (ho:o.op= .call { callee:= .builtin .append,args:= #[s,x],argTypes:= #[t,t] })
 (e:TypeId) (i:TypeInfo) (z:Value) (size bytes:Nat) (ht:P.underlying t=some (.slice e)) (hi:P.info? e=some i) (hz:i.zero=some z)
 (hsize:i.size=size) (hby:i.bytes=bytes) (hzs:z.cells.size=size)
 (v:Value) (n:Nat) (xs:List Value) (hs:a.eval s=v) (hown:Sat ((Row e size v n xs).star F) w)
 (hp:Hp) (hh:hp.le w) (vx:Value) (m:Nat) (news:List Value) (hx:a.eval x=vx) (hrx:RowIn hp size vx m news) (h1:∀u∈news,u.oneCell'=true)
 (h63:n+m≤maxLen) (hbytes:(n+m)*bytes≤140737488355328)
 (h:∀v' w',Sat ((Row e size v' (n+m) (xs++news)).star F) w'→w.grownBy w' v.ownBlock→(v'= .slice none 0 0↔v= .slice none 0 0∧m=0)→wpList P ops Q rest (a.put o.dst v') w'):wpList P ops Q (o :: rest) a w:=
 wpList_plain hgd fun _ hK=>wp_append_row s x t ho e i z size bytes ht hi hz hsize hby hzs v n xs hs hown hp hh vx m news hx hrx h1 h63 hbytes fun v' w' h2 h3 h4=>hK _ _ (h v' w' h2 h3 h4)
end
theorem Stays.of_grown {a w w':World}{row:Option Nat}(h:Stays a w)(hg:w.grownBy w' row):Stays a w':=h.trans ⟨hg.os,hg.tape,hg.output,hg.size⟩
end Go.Sl
