/- Small separation logic over the heap's blocks: what a call owns, and what it leaves as it was. Plain lemmas, no condition. -/
import Derived.WalkKit
import Derived.Below
import Derived.Deep.QuietTactic
import Derived.BigQuiet
import Derived.Test.YtkfjilnmnbeokaaGreatRows
import Derived.ProofKit
import Derived.OpenShut
import Derived.WalkSpells
import Derived.WalkLawsBesides
import Derived.OwnWalkIn
import Derived.RangeFuncNested
import Derived.RangeFuncBound
import Derived.RangeFuncCalls
import Derived.RangeFuncLeaves
import Derived.Shelf.Abstract
import Derived.Shelf.RegionOpen
import Derived.TacticsInMore
import Derived.LoopNIn
import Derived.LoopIn
set_option maxRecDepth 100000
set_option maxHeartbeats 16000000
namespace Go.Sl
open Go.RowKit
abbrev Hp:=Nat→Option Obj
def Hp.nil:Hp:=fun _=>Option.none
def Hp.dis(a b:Hp):Prop:= ∀k,a k=Option.none∨b k=Option.none
def Hp.un(a b:Hp):Hp:=fun k=>match a k with | some o=>some o | Option.none=>b k
def Hp.le(a:Hp)(w:World):Prop:= ∀k o,a k=some o→w.heap[k]? =some o
theorem Hp.dis_comm {a b:Hp}(h:a.dis b):b.dis a:=fun k=>(h k).symm
theorem Hp.un_comm {a b:Hp}(h:a.dis b):a.un b=b.un a:=by
 funext k;rcases h k with e | e<;>simp only [Hp.un,e]<;>cases h:a k<;>cases h':b k<;>simp_all
theorem Hp.un_assoc(a b c:Hp):(a.un b).un c=a.un (b.un c):=by
 funext k;simp only [Hp.un];cases a k<;>rfl
theorem Hp.nil_un(a:Hp):Hp.nil.un a=a:=rfl
theorem Hp.un_nil(a:Hp):a.un Hp.nil=a:=by funext k;simp only [Hp.un,Hp.nil];cases a k<;>rfl
theorem Hp.dis_un {a b c:Hp}:(a.un b).dis c↔a.dis c∧b.dis c∨((∀k,(a k=Option.none∧b k=Option.none)∨c k=Option.none)):=by
 constructor
 · intro h;right;intro k
   rcases h k with e | e
   · left;simp only [Hp.un] at e;cases ha:a k<;>simp_all
   · exact .inr e
 · rintro(⟨h1,h2⟩ | h) k
   · rcases h1 k with e | e
     · rcases h2 k with e' | e'
       · left;simp [Hp.un,e,e']
       · exact .inr e'
     · exact .inr e
   · rcases h k with⟨e,e'⟩ | e
     · left;simp [Hp.un,e,e']
     · exact .inr e
theorem Hp.dis_un_iff {a b c:Hp}:(a.un b).dis c↔a.dis c∧b.dis c:=by
 constructor
 · intro h
   refine⟨fun k=> ?_,fun k=> ?_⟩<;>(rcases h k with e | e;(left;simp only [Hp.un] at e;cases ha:a k<;>simp_all);exact .inr e)
 · exact fun h=>Hp.dis_un.2 (.inl h)
theorem Hp.le_un {a b:Hp}{w:World}(h:a.dis b):(a.un b).le w↔a.le w∧b.le w:=by
 constructor
 · intro hl
   refine⟨fun k o e=>hl k o (by simp [Hp.un,e]),fun k o e=>hl k o ?_⟩;rcases h k with e' | e'
   · simp [Hp.un,e',e]
   · rw [e'] at e;cases e
 · rintro⟨h1,h2⟩ k o e
   simp only [Hp.un] at e;cases ha:a k with
   | some x=>rw [ha] at e;cases e;exact h1 k _ ha
   | none=>rw [ha] at e;exact h2 k _ e
def Pr:=Hp→Prop
def Pr.emp:Pr:=fun h=>h=Hp.nil
def Pr.star(A B:Pr):Pr:=fun h=> ∃a b,A a∧B b∧a.dis b∧h=a.un b
def Pr.pts(b:Nat)(o:Obj):Pr:=fun h=>h=fun k=>if k=b then some o else Option.none
def Pr.own(h0:Hp):Pr:=fun h=>h=h0
def Pr.pure(p:Prop):Pr:=fun h=>p∧h=Hp.nil
def Pr.ex {α:Sort _}(A:α→Pr):Pr:=fun h=> ∃x,A x h
theorem Pr.star_comm(A B:Pr):A.star B=B.star A:=by
 funext h;apply propext
 constructor<;>(rintro⟨a,b,ha,hb,hd,rfl⟩;exact⟨b,a,hb,ha,Hp.dis_comm hd,Hp.un_comm hd⟩)
theorem Pr.star_assoc(A B C:Pr):(A.star B).star C=A.star (B.star C):=by
 funext h;apply propext
 constructor
 · rintro⟨_,c,⟨a,b,ha,hb,hd,rfl⟩,hc,hd',rfl⟩
   obtain⟨h1,h2⟩:=Hp.dis_un_iff.1 hd';exact⟨a,b.un c,ha,⟨b,c,hb,hc,h2,rfl⟩,Hp.dis_comm (Hp.dis_un_iff.2 ⟨Hp.dis_comm hd,Hp.dis_comm h1⟩),Hp.un_assoc _ _ _⟩
 · rintro⟨a,_,ha,⟨b,c,hb,hc,hd,rfl⟩,hd',rfl⟩
   obtain⟨h1,h2⟩:=Hp.dis_un_iff.1 (Hp.dis_comm hd');exact⟨a.un b,c,⟨a,b,ha,hb,Hp.dis_comm h1,rfl⟩,hc,Hp.dis_un_iff.2 ⟨Hp.dis_comm h2,hd⟩,(Hp.un_assoc _ _ _).symm⟩
instance:Std.Commutative Pr.star:=⟨Pr.star_comm⟩
instance:Std.Associative Pr.star:=⟨Pr.star_assoc⟩
theorem Pr.star_emp(A:Pr):A.star Pr.emp=A:=by
 funext h;apply propext
 constructor
 · rintro⟨a,b,ha,rfl,_,rfl⟩;rw [Hp.un_nil];exact ha
 · intro ha;exact⟨h,Hp.nil,ha,rfl,fun _=> .inr rfl,(Hp.un_nil h).symm⟩
theorem Pr.emp_star(A:Pr):Pr.emp.star A=A:=by rw [Pr.star_comm,Pr.star_emp]
theorem Pr.left_comm(A B C:Pr):A.star (B.star C)=B.star (A.star C):=by rw [← Pr.star_assoc,Pr.star_comm A B,Pr.star_assoc]
theorem Pr.ex_star {α:Sort _}(A:α→Pr)(F:Pr):(Pr.ex A).star F=Pr.ex fun x=>(A x).star F:=by
 funext h;apply propext
 constructor
 · rintro⟨a,b,⟨x,ha⟩,hb,hd,rfl⟩;exact⟨x,a,b,ha,hb,hd,rfl⟩
 · rintro⟨x,a,b,ha,hb,hd,rfl⟩;exact⟨a,b,⟨x,ha⟩,hb,hd,rfl⟩
theorem Pr.star_ex {α:Sort _}(A:α→Pr)(F:Pr):F.star (Pr.ex A)=Pr.ex fun x=>F.star (A x):=by
 rw [Pr.star_comm,Pr.ex_star];congr 1;funext x;exact Pr.star_comm _ _
def Sat(A:Pr)(w:World):Prop:= ∃h,A h∧h.le w
theorem Sat.perm {A B:Pr}{w:World}(h:Sat A w)(e:A=B):Sat B w:=e ▸ h
theorem Sat.right {A B:Pr}{w:World}(h:Sat (A.star B) w):Sat B w:=by
 obtain⟨_,⟨a,b,_,hb,hd,rfl⟩,hl⟩:=h;exact⟨b,hb,((Hp.le_un hd).1 hl).2⟩
theorem Sat.left {A B:Pr}{w:World}(h:Sat (A.star B) w):Sat A w:=(h.perm (Pr.star_comm A B)).right
theorem Sat.mono {A B F:Pr}{w:World}(h:Sat (A.star F) w)(hab:∀x,A x→B x):Sat (B.star F) w:=by
 obtain⟨x,⟨a,f,ha,hf,hd,rfl⟩,hl⟩:=h;exact⟨_,⟨a,f,hab a ha,hf,hd,rfl⟩,hl⟩
theorem Sat.ex {α:Sort _}{A:α→Pr}{F:Pr}{w:World}:Sat ((Pr.ex A).star F) w↔∃x,Sat ((A x).star F) w:=by
 constructor
 · rintro⟨_,⟨a,f,⟨x,ha⟩,hf,hd,rfl⟩,hl⟩;exact⟨x,_,⟨a,f,ha,hf,hd,rfl⟩,hl⟩
 · rintro⟨x,_,⟨a,f,ha,hf,hd,rfl⟩,hl⟩;exact⟨_,⟨a,f,⟨x,ha⟩,hf,hd,rfl⟩,hl⟩
theorem Sat.ex0 {α:Sort _}{A:α→Pr}{w:World}:Sat (Pr.ex A) w↔∃x,Sat (A x) w:=
 ⟨fun⟨h,⟨x,hx⟩,hl⟩=>⟨x,h,hx,hl⟩,fun⟨x,h,hx,hl⟩=>⟨h,⟨x,hx⟩,hl⟩⟩
theorem Sat.pure {p:Prop}{F:Pr}{w:World}:Sat ((Pr.pure p).star F) w↔p∧Sat F w:=by
 constructor
 · rintro⟨_,⟨a,f,⟨hp,rfl⟩,hf,hd,rfl⟩,hl⟩;rw [Hp.nil_un] at hl;exact⟨hp,f,hf,hl⟩
 · rintro⟨hp,f,hf,hl⟩;exact⟨f,⟨Hp.nil,f,⟨hp,rfl⟩,hf,fun _=> .inl rfl,rfl⟩,hl⟩
theorem Sat.pts_heap {b:Nat}{o:Obj}{F:Pr}{w:World}(h:Sat ((Pr.pts b o).star F) w):w.heap[b]? =some o:=by
 obtain⟨x,rfl,hl⟩:=h.left;exact hl b o (by simp)
theorem Sat.pts_ne {b c:Nat}{o o':Obj}{F:Pr}{w:World}(h:Sat ((Pr.pts b o).star ((Pr.pts c o').star F)) w):b≠c:=by
 obtain⟨_,⟨a,_,rfl,⟨b',f,rfl,hf,hd',rfl⟩,hd,rfl⟩,hl⟩:=h;rintro rfl;rcases hd b with e | e<;>simp [Hp.un] at e
theorem Sat.own {h0:Hp}{F:Pr}{w:World}(h:Sat ((Pr.own h0).star F) w):h0.le w:=by
 obtain⟨x,rfl,hl⟩:=h.left;exact hl
theorem Sat.lt {b:Nat}{o:Obj}{F:Pr}{w:World}(h:Sat ((Pr.pts b o).star F) w):b<w.heap.size:=
 (Array.getElem?_eq_some_iff.1 h.pts_heap).1
structure Stays(w w':World):Prop where
 os:w'.os=w.os
 tape:w'.tape=w.tape
 output:w'.output=w.output
 size:w.heap.size≤w'.heap.size
theorem Stays.refl(w:World):Stays w w:=⟨rfl,rfl,rfl,Nat.le_refl _⟩
theorem Stays.trans {a b c:World}(h:Stays a b)(k:Stays b c):Stays a c:=
 ⟨k.os.trans h.os,k.tape.trans h.tape,k.output.trans h.output,Nat.le_trans h.size k.size⟩
theorem Stays.alloc {a w:World}(h:Stays a w)(o:Obj):Stays a (w.alloc o):=h.trans ⟨rfl,rfl,rfl,by simp⟩
theorem Stays.setCell {a w:World}(h:Stays a w)(p:Addr)(v:Value):Stays a (w.setCell p v):=h.trans ⟨rfl,rfl,rfl,by simp [World.setCell]⟩
theorem Stays.drewN {a w:World}(h:Stays a w)(n:Nat):Stays a (w.drewN n):=h.trans ⟨rfl,rfl,rfl,Nat.le_refl _⟩
theorem Stays.drew {a w:World}(h:Stays a w):Stays a w.drew:=h.trans ⟨rfl,rfl,rfl,Nat.le_refl _⟩
theorem Stays.of_below {B:Nat}{w w':World}(h:Below B w w'):Stays w w':=⟨h.os,h.tape,h.output,h.size⟩
def Apart(S:Nat→Prop)(w w':World):Prop:= ∀k,k<w.heap.size→¬S k→w'.heap[k]? =w.heap[k]?
theorem Sat.ext {A:Pr}{w w':World}(h:Sat A w)(ha:∀k,k<w.heap.size→w'.heap[k]? =w.heap[k]?):Sat A w':=by
 obtain⟨x,hx,hl⟩:=h;exact⟨x,hx,fun k o e=>(ha k (Array.getElem?_eq_some_iff.1 (hl k o e)).1).trans (hl k o e)⟩
theorem Sat.below {A:Pr}{w w':World}(h:Sat A w)(hb:Below w.heap.size w w'):Sat A w':=h.ext hb.block
theorem Sat.drewN {A:Pr}{w:World}(h:Sat A w)(n:Nat):Sat A (w.drewN n):=h.ext fun _ _=>rfl
theorem Sat.drew {A:Pr}{w:World}(h:Sat A w):Sat A w.drew:=h.ext fun _ _=>rfl
theorem Sat.put {b:Nat}{o o':Obj}{F:Pr}{w w':World}(h:Sat ((Pr.pts b o).star F) w)(hb:w'.heap[b]? =some o')
 (ha:∀k,k<w.heap.size→k≠b→w'.heap[k]? =w.heap[k]?):Sat ((Pr.pts b o').star F) w':=by
 obtain⟨_,⟨a,f,rfl,hf,hd,rfl⟩,hl⟩:=h;obtain⟨h1,h2⟩:=(Hp.le_un hd).1 hl
 have hd':Hp.dis (fun k=>if k=b then some o' else Option.none) f:=fun k=>by
  rcases hd k with e | e
  · left;by_cases hk:k=b<;>simp_all
  · exact .inr e
 refine⟨_,⟨_,f,rfl,hf,hd',rfl⟩,(Hp.le_un hd').2 ⟨fun k x e=> ?_,fun k x e=> ?_⟩⟩
 · by_cases hk:k=b
   · simp [hk] at e;rw [hk, ← e];exact hb
   · simp [hk] at e
 · have hk:k≠b:=by
    rintro rfl;rcases hd k with e' | e'
    · simp at e'
    · rw [e'] at e;cases e
   exact(ha k (Array.getElem?_eq_some_iff.1 (h2 k x e)).1 hk).trans (h2 k x e)
theorem Sat.setCell {b i:Nat}{cs:Array Value}{t:TypeId}{fz:Nat × Nat}{F:Pr}{w:World}(h:Sat ((Pr.pts b (.cells cs t fz)).star F) w)(v:Value):
 Sat ((Pr.pts b (.cells (cs.setIfInBounds i v) t fz)).star F) (w.setCell ⟨b,i,Option.none⟩ v):=by
 refine h.put ?_ (fun k _ hk=>Below.heap_setCell _ _ _ _ hk);have hb:=h.pts_heap;simp [World.setCell,Array.getElem?_modify,hb]
theorem Sat.join {h0:Hp}{F:Pr}{w w':World}(h:Sat F w)(hn:h0.le w')(hnew:∀k o,h0 k=some o→w.heap.size≤k)
 (ha:∀k,k<w.heap.size→w'.heap[k]? =w.heap[k]?):Sat ((Pr.own h0).star F) w':=by
 obtain⟨f,hf,hl⟩:=h
 have hd:h0.dis f:=fun k=>by
  cases e:f k with
  | none=>exact .inr rfl
  | some o=>
    left
    cases e':h0 k with
    | none=>rfl
    | some o'=>
      have:=(Array.getElem?_eq_some_iff.1 (hl k o e)).1
      have:=hnew k o' e'
      omega
 exact⟨_,⟨h0,f,rfl,hf,hd,rfl⟩,(Hp.le_un hd).2 ⟨hn,fun k o e=>(ha k (Array.getElem?_eq_some_iff.1 (hl k o e)).1).trans (hl k o e)⟩⟩
theorem heap_new(w:World)(o:Obj):(w.alloc o).heap[w.heap.size]? =some o:=by
 show (w.heap.push o)[w.heap.size]? =some o
 exact Array.getElem?_push_size
theorem Sat.alloc {F:Pr}{w:World}(h:Sat F w)(o:Obj):Sat ((Pr.pts w.heap.size o).star F) (w.alloc o):=by
 have:=Sat.join (h0:=fun k=>if k=w.heap.size then some o else Option.none) (w':=w.alloc o) h (fun k x e=>by
  by_cases hk:k=w.heap.size
  · simp [hk] at e;rw [hk, ← e];exact heap_new w o
  · simp [hk] at e) (fun k x e=>by by_cases hk:k=w.heap.size<;>simp_all) (fun k hk=>Below.heap_alloc w o k hk)
 exact this
def Does(P:Program)(f:FuncId)(args:Array Value)(Pre:Pr)(Post:Value→Pr):Prop:=
 ∀F w,Sat (Pre.star F) w→Calls P f args w fun e w'=> ∃v,e= .returned v∧Sat ((Post v).star F) w'∧Stays w w'
def Row(T k:Nat)(v:Value)(n:Nat)(xs:List Value):Pr:=fun h=>
 xs.length=n*k∧((v= .slice Option.none 0 0∧n=0∧h=Hp.nil)∨
  ∃b cap sp,v= .slice (some ⟨b,0,Option.none⟩) n cap∧xs.length+sp.length=cap*k∧n≤cap∧cap≤maxLen∧Pr.pts b (.cells (xs++sp).toArray T (0,0)) h)
theorem Row.nil(T k:Nat):Row T k (.slice Option.none 0 0) 0 []=Pr.emp:=by
 funext h;apply propext
 constructor
 · rintro⟨_,(⟨_,_,e⟩ | ⟨b,cap,sp,e,_⟩)⟩
   · exact e
   · cases e
 · intro e;exact⟨by simp,.inl ⟨rfl,rfl,e⟩⟩
theorem Sat.emp {F:Pr}{w:World}:Sat (Pr.emp.star F) w↔Sat F w:=by rw [Pr.emp_star]
theorem Row.open' {T k:Nat}{v:Value}{n:Nat}{xs:List Value}{F:Pr}{w:World}(h:Sat ((Row T k v n xs).star F) w):
 xs.length=n*k∧((v= .slice Option.none 0 0∧n=0∧Sat F w)∨
  ∃b cap sp,v= .slice (some ⟨b,0,Option.none⟩) n cap∧xs.length+sp.length=cap*k∧n≤cap∧cap≤maxLen∧Sat ((Pr.pts b (.cells (xs++sp).toArray T (0,0))).star F) w):=by
 obtain⟨x,⟨a,f,⟨hl,ha⟩,hf,hd,rfl⟩,hw⟩:=h;refine⟨hl,?_⟩;rcases ha with⟨hv,hn,rfl⟩ | ⟨b,cap,sp,hv,h1,h2,h3,h4⟩
 · rw [Hp.nil_un] at hw;exact .inl ⟨hv,hn,f,hf,hw⟩
 · exact .inr ⟨b,cap,sp,hv,h1,h2,h3,_,⟨a,f,h4,hf,hd,rfl⟩,hw⟩
theorem Row.mk' {T k b cap n:Nat}{xs sp:List Value}{F:Pr}{w:World}(hl:xs.length=n*k)(h1:xs.length+sp.length=cap*k)(h2:n≤cap)(h3:cap≤maxLen)
 (h:Sat ((Pr.pts b (.cells (xs++sp).toArray T (0,0))).star F) w):Sat ((Row T k (.slice (some ⟨b,0,Option.none⟩) n cap) n xs).star F) w:=
 h.mono fun _ hx=>⟨hl,.inr ⟨b,cap,sp,rfl,h1,h2,h3,hx⟩⟩
theorem cell_of_heap {w:World}{b:Nat}{cs:Array Value}{t:TypeId}{fz:Nat × Nat}(h:w.heap[b]? =some (.cells cs t fz))(i:Nat):w.cell? ⟨b,i,Option.none⟩=cs[i]? :=by
 simp [World.cell?,h]
theorem frozen_of_heap {w:World}{b:Nat}{cs:Array Value}{t:TypeId}(h:w.heap[b]? =some (.cells cs t (0,0)))(i:Nat):w.frozen? ⟨b,i,Option.none⟩=false:=by
 simp [World.frozen?,h]
theorem Row.read {T k:Nat}{v:Value}{n:Nat}{xs:List Value}{F:Pr}{w:World}(h:Sat ((Row T k v n xs).star F) w):
 ∃a c,v= .slice a n c∧xs.length=n*k∧(0<n→∃b,a=some ⟨b,0,Option.none⟩∧∀i,i<n*k→w.cell? ⟨b,i,Option.none⟩=xs[i]? ∧w.frozen? ⟨b,i,Option.none⟩=false):=by
 obtain⟨hl,(⟨rfl,rfl,_⟩ | ⟨b,cap,sp,rfl,h1,h2,h3,h4⟩)⟩:=Row.open' h
 · exact⟨_,_,rfl,hl,fun h=>absurd h (by omega)⟩
 · refine⟨_,_,rfl,hl,fun _=>⟨b,rfl,fun i hi=>⟨?_,frozen_of_heap h4.pts_heap i⟩⟩⟩
   rw [cell_of_heap h4.pts_heap];simp [List.getElem?_append_left (show i<xs.length by omega)]
end Go.Sl
namespace Go.Cop
def stateOf(c:Int)(l:Bool):Int:=if 0<c then(if l then 4 else 3) else(if l then 2 else 1)
structure PoolS where
 refs:Int
 counts:List Int
 last:List Bool
 acts:List (Int × Int)
 floor:Int
def PoolS.there(s:PoolS)(n:Int):Prop:=1≤n∧n≤s.counts.length
instance(s:PoolS)(n:Int):Decidable (s.there n):=by unfold PoolS.there;infer_instance
def PoolS.count(s:PoolS)(n:Int):Int:=if s.there n then s.counts.getD (n.toNat-1) 0 else 0
def PoolS.lasts(s:PoolS)(n:Int):Bool:=s.last.getD (n.toNat-1) false
def PoolS.state(s:PoolS)(n:Int):Int:=if s.there n then stateOf (s.count n) (s.lasts n) else 0
def PoolS.many(s:PoolS)(k:Int):Nat:=((s.counts.zip s.last).filter fun x=>stateOf x.1 x.2 == k).length
def PoolS.tally(s:PoolS)(k:Int):Int:=if k<1∨4<k then 0 else s.many k
def PoolS.mark(s:PoolS):Int:=s.floor+s.acts.length
end Go.Cop
namespace Go.Cop
def PoolS.turn(s:PoolS)(n b:Int):PoolS:= { s with counts:=s.counts.set (n.toNat-1) (s.count n+b) }
structure PoolOk(s:PoolS):Prop where
 n1:1≤s.counts.length
 n2:s.counts.length≤65536
 len:s.last.length=s.counts.length
 r1:2≤s.refs
 r2:s.refs<65536
 cs:∀c∈s.counts,0≤c∧c≤65536
 fl:0≤s.floor
 mb:s.floor+s.acts.length≤1099511627776
theorem count_bd {s:PoolS}(h:PoolOk s)(n:Int):0≤s.count n∧s.count n≤65536:=by
 unfold PoolS.count;split
 · rename_i ht
   obtain⟨h1,h2⟩:=ht;have hlt:n.toNat-1<s.counts.length:=by omega
   rw [List.getD_eq_getElem?_getD,List.getElem?_eq_getElem hlt];exact h.cs _ (List.getElem_mem hlt)
 · omega
theorem turn_there {s:PoolS}{n b m:Int}:(s.turn n b).there m↔s.there m:=by simp [PoolS.there,PoolS.turn]
theorem turn_count {s:PoolS}{n b m:Int}(h:s.there n):(s.turn n b).count m=if m=n then s.count n+b else s.count m:=by
 obtain⟨h1,h2⟩:=h;by_cases hm:s.there m
 · have hm':(s.turn n b).there m:=turn_there.2 hm
   have e1:(s.turn n b).count m=(s.turn n b).counts.getD (m.toNat-1) 0:=by unfold PoolS.count;rw [if_pos hm']
   have e2:s.count m=s.counts.getD (m.toNat-1) 0:=by unfold PoolS.count;rw [if_pos hm]
   obtain⟨m1,m2⟩:=hm;rw [e1];simp only [PoolS.turn,List.getD_eq_getElem?_getD];by_cases he:m=n
   · subst he
     rw [List.getElem?_set_self (by omega),if_pos rfl];rfl
   · rw [List.getElem?_set_ne (by omega),if_neg he,e2,List.getD_eq_getElem?_getD]
 · have hm':¬(s.turn n b).there m:=fun h=>hm (turn_there.1 h)
   have hne:m≠n:=fun e=>hm (e ▸ ⟨h1,h2⟩)
   unfold PoolS.count;rw [if_neg hm',if_neg hm,if_neg hne]
theorem turn_state {s:PoolS}{n b m:Int}(h:s.there n):(s.turn n b).state m=if m=n then stateOf (s.count n+b) (s.lasts n) else s.state m:=by
 unfold PoolS.state;by_cases hm:s.there m
 · rw [if_pos (turn_there.2 hm),if_pos hm,turn_count h]
   by_cases he:m=n
   · rw [if_pos he,if_pos he,he];rfl
   · rw [if_neg he,if_neg he];rfl
 · have hne:m≠n:=fun e=>hm (e ▸ h)
   rw [if_neg (fun h=>hm (turn_there.1 h)),if_neg hm,if_neg hne]
theorem state_there {s:PoolS}{n:Int}(h:s.there n):s.state n=stateOf (s.count n) (s.lasts n):=by unfold PoolS.state;rw [if_pos h]
theorem turn_ok {s:PoolS}(h:PoolOk s){n b:Int}(h0:0≤s.count n+b)(h1:s.count n+b≤65536):PoolOk (s.turn n b):=by
 refine⟨by simpa [PoolS.turn] using h.n1,by simpa [PoolS.turn] using h.n2,by simpa [PoolS.turn] using h.len,h.r1,h.r2,fun c hc=> ?_,h.fl,h.mb⟩;rcases List.mem_or_eq_of_mem_set hc with h2 | h2
 · exact h.cs c h2
 · rw [h2];exact⟨h0,h1⟩
theorem filter_set {α:Type}(p:α→Bool):∀(l:List α) (i:Nat) (x:α) (h:i<l.length),
 ((l.set i x).filter p).length+(if p l[i] then 1 else 0)=(l.filter p).length+(if p x then 1 else 0):=by
 intro l;induction l with
 | nil=>intro i x h;simp at h
 | cons a l ih=>
   intro i x h;cases i with
   | zero=>simp only [List.set_cons_zero,List.filter_cons,List.getElem_cons_zero];split<;>split<;>simp
   | succ i=>
     have:=ih i x (by simpa using h)
     simp only [List.set_cons_succ,List.filter_cons,List.getElem_cons_succ];split
     · simp only [List.length_cons];omega
     · exact this
theorem zip_set {α β:Type}:∀(l:List α) (m:List β) (i:Nat) (x:α),(l.set i x).zip m=match m[i]? with
 | some y=>(l.zip m).set i (x,y)
 | none=>l.zip m:=by
 intro l;induction l with
 | nil=>intro m i x;cases m[i]? <;>simp
 | cons a l ih=>
   intro m i x;cases m with
   | nil=>simp
   | cons b m=>
     cases i with
     | zero=>simp
     | succ i=>
       have:=ih m i x
       simp only [List.set_cons_succ,List.zip_cons_cons,List.getElem?_cons_succ,this];cases m[i]? <;>simp
theorem turn_many {s:PoolS}(h:PoolOk s){n b:Int}(hn:s.there n)(k:Int):
 (s.turn n b).many k+(if s.state n=k then 1 else 0)=s.many k+(if stateOf (s.count n+b) (s.lasts n)=k then 1 else 0):=by
 obtain⟨h1,h2⟩:=hn;have hi:n.toNat-1<s.counts.length:=by omega
 have hj:n.toNat-1<s.last.length:=by rw [h.len];exact hi
 have hlast:s.lasts n=s.last[n.toNat-1]:=by unfold PoolS.lasts;rw [List.getD_eq_getElem?_getD,List.getElem?_eq_getElem hj];rfl
 have hcount:s.count n=s.counts[n.toNat-1]:=by
  unfold PoolS.count;rw [if_pos ⟨h1,h2⟩,List.getD_eq_getElem?_getD,List.getElem?_eq_getElem hi];rfl
 have hz:n.toNat-1<(s.counts.zip s.last).length:=by simp;omega
 have e:=filter_set (fun x:Int × Bool=>stateOf x.1 x.2 == k) (s.counts.zip s.last) (n.toNat-1) (s.count n+b,s.last[n.toNat-1]) hz
 have hset:((s.turn n b).counts.zip (s.turn n b).last)=(s.counts.zip s.last).set (n.toNat-1) (s.count n+b,s.last[n.toNat-1]):=by
  show (s.counts.set _ _).zip s.last=_
  rw [zip_set,List.getElem?_eq_getElem hj]
 unfold PoolS.many;rw [hset,state_there ⟨h1,h2⟩];simp only [List.getElem_zip,beq_iff_eq] at e;rw [← hcount, ← hlast] at e;rw [hlast] at e ⊢;exact e
end Go.Cop
namespace Go.Cop
structure TreeV where
 root:Int
 height:Int
 items:Int
end Go.Cop
namespace Go.Proofs.YtkfjilnmnbeokaaGreat.D2
open ChangeShapes WideShapes ChangeAt RowKit Sl Cop
structure PoolRd(w:World)(p:Nat)(s:PoolS):Prop where
 len:s.counts.length≤65536
 len':s.last.length=s.counts.length
 refs:w.cell? ⟨p,0,none⟩=some (.int .i64 s.refs)
 cs:∃b c,w.cell? ⟨p,1,none⟩=some (.slice (some ⟨b,0,none⟩) s.counts.length c)∧∀i,i<s.counts.length→w.cell? ⟨b,i,none⟩=some (.int .i64 (s.counts.getD i 0))
 ls:∃b c,w.cell? ⟨p,2,none⟩=some (.slice (some ⟨b,0,none⟩) s.counts.length c)∧∀i,i<s.counts.length→w.cell? ⟨b,i,none⟩=some (.bool (s.last.getD i false))
theorem there_no(p:Nat)(n:Int)(w:World)(b c l:Nat)(h1:w.cell? ⟨p,1,none⟩=some (.slice (some ⟨b,0,none⟩) l c))(h:n<1∨l<n):
 Calls Tryz.prog 62 #[.pointer (some ⟨p,0,none⟩),.int .i64 n] w fun e w'=>e= .returned (.bool false)∧w=w':=by
 by_cases h0:1≤n
 all_goals
  go_enter Tryz.func62,Tryz.ntmps62
  go_wp2;go_ret;refine⟨?_,rfl⟩;first | rfl | (have hd:decide (n≤(l:Int))=false:=by { simp;omega };exact congrArg (fun x=>Ending.returned (.bool x)) hd)
theorem there_yes(p:Nat)(n:Int)(w:World)(b c l:Nat)(h1:w.cell? ⟨p,1,none⟩=some (.slice (some ⟨b,0,none⟩) l c))(h0:1≤n)(h:n≤l):
 Calls Tryz.prog 62 #[.pointer (some ⟨p,0,none⟩),.int .i64 n] w fun e w'=>e= .returned (.bool true)∧w=w':=by
 go_enter Tryz.func62,Tryz.ntmps62
 go_wp2;go_ret;exact⟨rfl,rfl⟩
theorem count_no(p:Nat)(n:Int)(w:World)(s:PoolS)(hp:PoolRd w p s)(h:¬s.there n):
 Calls Tryz.prog 23 #[.pointer (some ⟨p,0,none⟩),.int .i64 n] w fun e w'=>e= .returned (.int .i64 0)∧w=w':=by
 obtain⟨b,c,h1,h2⟩:=hp.cs;have hn:n<1∨s.counts.length<n:=by unfold PoolS.there at h;omega
 go_enter Tryz.func23,Tryz.ntmps23
 go_wp2_with (go_at_call 62;refine(there_no _ _ _ _ _ _ h1 hn).mono ?_;rintro e w' ⟨rfl,rfl⟩)
 go_ret;exact⟨rfl,rfl⟩
theorem count_yes(p:Nat)(n:Int)(w:World)(s:PoolS)(hp:PoolRd w p s)(h:s.there n):
 Calls Tryz.prog 23 #[.pointer (some ⟨p,0,none⟩),.int .i64 n] w fun e w'=>e= .returned (.int .i64 (s.counts.getD (n.toNat-1) 0))∧w=w':=by
 obtain⟨b,c,h1,h2⟩:=hp.cs;have hl:=hp.len;obtain⟨h3,h4⟩:=h;have h5:=h2 (n.toNat-1) (by omega);clear h2;generalize s.counts.getD (n.toNat-1) 0=v at*;go_enter Tryz.func23,Tryz.ntmps23
 go_wp2_with (go_at_call 62;refine(there_yes _ _ _ _ _ _ h1 h3 h4).mono ?_;rintro e w' ⟨rfl,rfl⟩)
 go_ret;exact⟨rfl,rfl⟩
theorem state_no(p:Nat)(n:Int)(w:World)(s:PoolS)(hp:PoolRd w p s)(h:¬s.there n):
 Calls Tryz.prog 128 #[.pointer (some ⟨p,0,none⟩),.int .i64 n] w fun e w'=>e= .returned (.int .i64 0)∧w=w':=by
 obtain⟨b,c,h1,h2⟩:=hp.cs;have hn:n<1∨s.counts.length<n:=by unfold PoolS.there at h;omega
 go_enter Tryz.func128,Tryz.ntmps128
 go_wp2_with (go_at_call 62;refine(there_no _ _ _ _ _ _ h1 hn).mono ?_;rintro e w' ⟨rfl,rfl⟩)
 go_ret;exact⟨rfl,rfl⟩
theorem state_yes(p:Nat)(n:Int)(w:World)(s:PoolS)(hp:PoolRd w p s)(h:s.there n):
 Calls Tryz.prog 128 #[.pointer (some ⟨p,0,none⟩),.int .i64 n] w fun e w'=>e= .returned (.int .i64 (stateOf (s.counts.getD (n.toNat-1) 0) (s.last.getD (n.toNat-1) false)))∧w=w':=by
 obtain⟨b,c,h1,h2⟩:=hp.cs;obtain⟨b',c',h1',h2'⟩:=hp.ls;have hl:=hp.len;obtain⟨h3,h4⟩:=h;have h5:=h2 (n.toNat-1) (by omega);have h5':=h2' (n.toNat-1) (by omega);clear h2 h2';generalize s.counts.getD (n.toNat-1) 0=v at*;generalize s.last.getD (n.toNat-1) false=u at*;by_cases hv:0<v<;>cases u
 all_goals
  go_enter Tryz.func128,Tryz.ntmps128
  go_wp2_with (go_at_call 62;refine(there_yes _ _ _ _ _ _ h1 h3 h4).mono ?_;rintro e w' ⟨rfl,rfl⟩)
  go_ret;exact⟨by simp [stateOf,hv],rfl⟩
theorem count_any(p:Nat)(n:Int)(w:World)(s:PoolS)(hp:PoolRd w p s):
 Calls Tryz.prog 23 #[.pointer (some ⟨p,0,none⟩),.int .i64 n] w fun e w'=>e= .returned (.int .i64 (s.count n))∧w=w':=by
 unfold PoolS.count;by_cases h:s.there n
 · rw [if_pos h];exact count_yes p n w s hp h
 · rw [if_neg h];exact count_no p n w s hp h
theorem state_any(p:Nat)(n:Int)(w:World)(s:PoolS)(hp:PoolRd w p s):
 Calls Tryz.prog 128 #[.pointer (some ⟨p,0,none⟩),.int .i64 n] w fun e w'=>e= .returned (.int .i64 (s.state n))∧w=w':=by
 unfold PoolS.state PoolS.count PoolS.lasts;by_cases h:s.there n
 · rw [if_pos h,if_pos h];exact state_yes p n w s hp h
 · rw [if_neg h];exact state_no p n w s hp h
end Go.Proofs.YtkfjilnmnbeokaaGreat.D2
namespace Go.Sl
open Go.RowKit
theorem size_zeros(z:Array Value)(n:Nat):(Builtin.zeroCells z n).size=n*z.size:=by simp [Builtin.zeroCells]
section
variable {P:Program}{w:World}{F:Pr}
theorem row_fresh {e size n cap:Nat}{xs:List Value}(z:Array Value)(hF:Sat F w)(hl:xs.length=n*size)(hz:z.size=size)(hn:n≤cap)(hc:cap≤maxLen):
 Sat ((Row e size (.slice (some ⟨w.heap.size,0,none⟩) n cap) n xs).star F) (w.drew.alloc (.cells (xs.toArray++Builtin.zeroCells z (cap-n)) e)):=by
 have hs:=(hF.drew).alloc (.cells (xs.toArray++Builtin.zeroCells z (cap-n)) e)
 have he:xs.toArray++Builtin.zeroCells z (cap-n)=(xs++(Builtin.zeroCells z (cap-n)).toList).toArray:=by
  apply Array.toList_inj.1;simp
 rw [he] at hs ⊢;refine Row.mk' hl ?_ hn hc hs;have h0:(Builtin.zeroCells z (cap-n)).toList.length=(cap-n)*size:=by rw [Array.length_toList,size_zeros,hz]
 show xs.length+ _=_
 rw [h0,hl, ← Nat.add_mul];congr 1
 omega
theorem run_append_sl(t ty e:TypeId)(i:TypeInfo)(z:Value)(size bytes:Nat)(ht:P.underlying t=some (.slice e))(hi:P.info? e=some i)(hz:i.zero=some z)
 (hsize:i.size=size) (hby:i.bytes=bytes) (hzs:z.cells.size=size)
 (v:Value) (n:Nat) (xs:List Value) (hown:Sat ((Row e size v n xs).star F) w)
 (a:Addr) (m c:Nat) (news:List Value) (hl:news.length=m*size) (hnews:∀j u,news[j]? =some u→w.cell? (a.add j)=some u) (h1:∀u∈news,u.oneCell'=true)
 (h63:n+m≤maxLen) (hbytes:(n+m)*bytes≤140737488355328):
 ∃v' w',(Builtin.append_ #[t,t] ty #[v,.slice (some a) m c]).run P w= .ok v' w'∧Sat ((Row e size v' (n+m) (xs++news)).star F) w'∧w.grownBy w' v.ownBlock∧
  (v'= .slice none 0 0↔v= .slice none 0 0∧m=0):=by
 subst hsize;subst hby;have hsmall:n+m≤9223372036854775807:=by simp only [maxLen] at h63;omega
 obtain⟨hxl,hcase⟩:=Row.open' hown;have hlen:(xs++news).length=(n+m)*i.size:=by rw [List.length_append,hxl,hl,Nat.add_mul]
 rcases hcase with⟨rfl,rfl,hF⟩ | ⟨g,cap,sp,rfl,hcs,hnc,hcm,hp⟩
 · have hx:xs= []:=List.eq_nil_of_length_eq_zero (by simpa using hxl)
   subst hx;by_cases hm:m=0
   · subst hm
     have hn:news= []:=List.eq_nil_of_length_eq_zero (by simpa using hl);subst hn;refine⟨.slice none 0 0,w,?_,hown,⟨rfl,rfl,rfl,Nat.le_refl _,fun _ _ _=>rfl⟩,by simp⟩;simp [Builtin.append_,run_underlying ht,sizeOf,typeInfo,hi,Builtin.lenOf,Builtin.firstCells,loadCells,loadCellsFrom]
   · have hr:=run_append_nil (P:=P) w t ty e i z ht hi hz a m c news hl hnews (by omega) (by omega) (by have hb:=hbytes;simp only [Nat.zero_add] at hb;omega)
     refine⟨_,_,hr,?_,⟨rfl,rfl,rfl,by simp,fun k hk _=>Below.heap_alloc w.drew _ k hk⟩,by simp [hm]⟩;have:=row_fresh (e:=e) (size:=i.size) (n:=m) (cap:=grownCap w m 0 e) (xs:=news) z.cells hF hl hzs (grownCap_ge w m 0 e) (grownCap_le_maxLen w m 0 e (by omega))
     simpa using this
 · have hg:=hp.pts_heap
   by_cases hroom:n+m≤cap
   · have hsz:(xs++sp).toArray.size=cap*i.size:=by simp;omega
     have hfit:n*i.size+news.length≤(xs++sp).toArray.size:=by rw [hl,hsz, ← Nat.add_mul];exact Nat.mul_le_mul_right _ hroom
     have hr:=run_append_room (P:=P) w t ty e i ht hi g n cap _ hg a m c news hl hnews h1 hroom hfit;refine⟨_,_,hr,?_,⟨rfl,rfl,rfl,by simp,fun k _ hk=>setRow_other w g k _ (fun e=>hk (by simp [Value.ownBlock,e]))⟩,by simp⟩
     have hp':=hp.put (w':=w.setRow g ((xs++sp).toArray.toList.take (n*i.size)++news++(xs++sp).toArray.toList.drop (n*i.size+news.length)).toArray)
      (setRow_heap w g _ _ e _ hg) (fun k _ hk=>setRow_other w g k _ hk)
     have he:(xs++sp).toArray.toList.take (n*i.size)++news++(xs++sp).toArray.toList.drop (n*i.size+news.length)=(xs++news)++sp.drop news.length:=by
      show (xs++sp).take (n*i.size)++news++(xs++sp).drop (n*i.size+news.length)=_
      rw [← hxl,List.take_left,List.drop_append];simp [Nat.add_sub_cancel_left,List.drop_eq_nil_of_le (show xs.length≤xs.length+news.length by omega)]
     rw [he] at hp' ⊢;refine Row.mk' hlen ?_ hroom hcm hp';simp only [List.length_append,List.length_drop]
     have:news.length≤sp.length:=by
      simp only [List.size_toArray,List.length_append] at hfit;omega
     omega
   · have holds:∀j u,xs[j]? =some u→w.cell? ((⟨g,0,none⟩:Addr).add j)=some u:=by
      intro j u hu;have hadd:(⟨g,0,none⟩:Addr).add j=⟨g,j,none⟩:=by unfold Addr.add;split<;>simp_all
      rw [hadd,cell_of_heap hg];have hj:j<xs.length:=(List.getElem?_eq_some_iff.1 hu).1;simp [List.getElem?_append_left hj,hu]
     have hr:=run_append_grow (P:=P) w t ty e i z ht hi hz ⟨g,0,none⟩ n cap xs hxl holds a m c news hl hnews (by omega) (by omega) (growslice_fits (by omega) hbytes);refine⟨_,_,hr,?_,⟨rfl,rfl,rfl,by simp,fun k hk _=>Below.heap_alloc w.drew _ k hk⟩,by simp⟩
     have:=row_fresh (e:=e) (size:=i.size) (n:=n+m) (cap:=grownCap w (n+m) cap e) (xs:=xs++news) z.cells hp.right hlen hzs (grownCap_ge w (n+m) cap e) (grownCap_le_maxLen w (n+m) cap e h63)
     simpa using this
theorem wp_append_sl {o:Oper}{a:Act}{K:Act→World→Prop}{Q:Exit→Act→World→Prop}(s x:Operand)(t:TypeId)
 (ho:o.op= .call { callee:= .builtin .append,args:= #[s,x],argTypes:= #[t,t] })
 (e:TypeId) (i:TypeInfo) (z:Value) (size bytes:Nat) (ht:P.underlying t=some (.slice e)) (hi:P.info? e=some i) (hz:i.zero=some z)
 (hsize:i.size=size) (hby:i.bytes=bytes) (hzs:z.cells.size=size)
 (v:Value) (n:Nat) (xs:List Value) (hs:a.eval s=v) (hown:Sat ((Row e size v n xs).star F) w)
 (ad:Addr) (m c:Nat) (news:List Value) (hx:a.eval x= .slice (some ad) m c) (hl:news.length=m*size) (hnews:∀j u,news[j]? =some u→w.cell? (ad.add j)=some u) (h1:∀u∈news,u.oneCell'=true)
 (h63:n+m≤maxLen) (hbytes:(n+m)*bytes≤140737488355328)
 (h:∀v' w',Sat ((Row e size v' (n+m) (xs++news)).star F) w'→w.grownBy w' v.ownBlock→(v'= .slice none 0 0↔v= .slice none 0 0∧m=0)→K (a.put o.dst v') w'):o.wp P a w K Q:=by
 obtain⟨v',w',hr,h2,h3,h4⟩:=run_append_sl (P:=P) t o.type e i z size bytes ht hi hz hsize hby hzs v n xs hown ad m c news hl hnews h1 h63 hbytes;unfold Oper.wp execOp;simp only [ho,resolve,invoke,builtin,Sem.run_bind,Sem.run_pure,Result.andThen_ok,List.map_toArray,List.map_cons,List.map_nil,hs,hx,hr];exact h v' w' h2 h3 h4
theorem wpList_append_sl {ops:Array Oper}{rest:List Oper}{o:Oper}{a:Act}{Q:Exit→Act→World→Prop}(hgd:o.guard=none)(s x:Operand)(t:TypeId)
 (ho:o.op= .call { callee:= .builtin .append,args:= #[s,x],argTypes:= #[t,t] })
 (e:TypeId) (i:TypeInfo) (z:Value) (size bytes:Nat) (ht:P.underlying t=some (.slice e)) (hi:P.info? e=some i) (hz:i.zero=some z)
 (hsize:i.size=size) (hby:i.bytes=bytes) (hzs:z.cells.size=size)
 (v:Value) (n:Nat) (xs:List Value) (hs:a.eval s=v) (hown:Sat ((Row e size v n xs).star F) w)
 (ad:Addr) (m c:Nat) (news:List Value) (hx:a.eval x= .slice (some ad) m c) (hl:news.length=m*size) (hnews:∀j u,news[j]? =some u→w.cell? (ad.add j)=some u) (h1:∀u∈news,u.oneCell'=true)
 (h63:n+m≤maxLen) (hbytes:(n+m)*bytes≤140737488355328)
 (h:∀v' w',Sat ((Row e size v' (n+m) (xs++news)).star F) w'→w.grownBy w' v.ownBlock→(v'= .slice none 0 0↔v= .slice none 0 0∧m=0)→wpList P ops Q rest (a.put o.dst v') w'):wpList P ops Q (o :: rest) a w:=
 wpList_plain hgd fun _ hK=>wp_append_sl s x t ho e i z size bytes ht hi hz hsize hby hzs v n xs hs hown ad m c news hx hl hnews h1 h63 hbytes fun v' w' h2 h3 h4=>hK _ _ (h v' w' h2 h3 h4)
end
end Go.Sl
namespace Go.Sl
open Go.RowKit
theorem Sat.putObj {b:Nat}{o:Obj}{F:Pr}{w:World}(h:Sat ((Pr.pts b o).star F) w)(o':Obj):Sat ((Pr.pts b o').star F) (w.putObj b o'):=
 h.put (World.putObj_heap_same h.lt) (fun _ _ hk=>World.putObj_heap_other hk)
theorem Stays.putObj {a w:World}(h:Stays a w)(b:Nat)(o:Obj):Stays a (w.putObj b o):=h.trans ⟨rfl,rfl,rfl,by simp [World.putObj]⟩
theorem roundIn_any {n m:Nat}{P:Program}{l:Nat}{f:FuncId}{tmps:Array Value}{assign body:Code}{w:World}{R:Ending→World→Prop}
 (h:RoundIn Fence.wide n P l f tmps assign body w R):RoundIn Fence.wide m P l f tmps assign body w R:=
 ⟨h.1,fun c cs _=>h.2 c cs (room_wide _)⟩
def IterG {α:Type}(P:Program)(g:Nat)(lb:Array Value)(encs:α→Array Value)(Ok:List α→α→Prop)(Done Stop:List α→Prop)(Own:Pr):Prop:=
 ∀(l:Nat) (J Jx:List α→Pr) (W:World),
  (∀(Fr:Pr) pre x W1,Ok pre x→Sat (((J pre).star Own).star Fr) W1→YieldAt Fence.wide 0 P l (encs x) W1 fun e W'=>
    Stays W1 W'∧((e= .returned (.bool true)∧Sat (((J (pre++ [x])).star Own).star Fr) W')∨(e= .returned (.bool false)∧Sat (((Jx (pre++ [x])).star Own).star Fr) W')))→
  Sat ((J []).star Own) W→
  Calls P g (#[.func (.yield l) #[] #[]]++lb) W fun e W'=>(∃v,e= .returned v)∧Stays W W'∧((∃xs,Done xs∧Sat ((J xs).star Own) W')∨∃pre,Stop pre∧Sat ((Jx pre).star Own) W')
abbrev IterSl {α:Type}(P:Program)(g:Nat)(lb:Array Value)(encs:α→Array Value)(xs:List α)(Own:Pr):Prop:=
 IterG P g lb encs (fun pre x=>pre++ [x]<+:xs) (fun ys=>ys=xs) (fun pre=>pre<+:xs) Own
abbrev IterAny {α:Type}(P:Program)(g:Nat)(lb:Array Value)(encs:α→Array Value)(Own:Pr):Prop:=
 IterG P g lb encs (fun _ _=>True) (fun _=>True) (fun _=>True) Own
def roundEnd {α:Type}(I:List α→Pr)(Ix:Code→List α→Pr)(Own F:Pr)(pre:List α)(W:World):Exit→Act→World→Prop
 | .normal,_,W'=>Stays W W'∧Sat (((I pre).star Own).star F) W'
 | .ret,_,W'=>Stays W W'∧Sat (((Ix .ret pre).star Own).star F) W'
 | .exit id,_,W'=>Stays W W'∧Sat (((Ix (.exit id) pre).star Own).star F) W'
 | .goto t,_,W'=>Stays W W'∧Sat (((Ix (.goto t) pre).star Own).star F) W'
 | .panic _,_,_=>False
 | .outgrown,_,_=>False
theorem wpIn_rangeFunc_sl {α:Type}{n:Nat}{P:Program}{g:Operand}{ps:Array Tmp}{assign body:Code}{Q:Exit→Act→World→Prop}{a:Act}{w:World}
 {gf:Nat} {lb:Array Value} (hg:a.eval g= .func (.func gf) #[] lb) (eg:∀args w,(callFunc gf args).run P w= .ok (.enter gf args) w)
 {encs:α→Array Value} {Ok:List α→α→Prop} {Done Stop:List α→Prop} {Own:Pr} (hit:IterG P gf lb encs Ok Done Stop Own) (hps:∀x,(encs x).size=ps.size)
 (I:List α→Pr) (Ix:Code→List α→Pr) (h0:Sat ((I []).star Own) w)
 (hround:∀(l:Nat) (pre:List α) (x:α) (W:World) (F1:Pr),Ok pre x→Sat (((I pre).star Own).star F1) W→
   assign.wpIn (Fence.wide.inRound l) (n-1-1) P (Exit.then (fun a1 W1=> ∃A1:Pr,Stays W W1∧Sat (A1.star F1) W1∧
    ∀(F2:Pr) (W2:World),Stays W1 W2→Sat (A1.star F2) W2→body.wpIn (Fence.wide.inRound l) (n-1-1) P (roundEnd I Ix Own F2 (pre++ [x]) W2) a1 W2) (fun _ _ _=>False))
    { tmps:=(ps.zip (encs x)).foldl (fun t (p,v)=>t.setIfInBounds p v) a.tmps,defers:= [] } W)
 (hdone:∀(D:Nat) (xs:List α) (W:World),Done xs→Stays w W→Sat (((I xs).star Own).star (Pr.pts D (.deferred (some [])))) W→Q .normal { a with defers:= { target:= .collected D,args:= #[] } :: a.defers } W)
 (hstop:∀(D:Nat) (c:Code) (pre:List α) (W:World),Stop pre→Stays w W→Sat (((Ix c pre).star Own).star (Pr.pts D (.deferred (some [])))) W→
   c.wpIn Fence.wide n P Q { a with defers:= { target:= .collected D,args:= #[] } :: a.defers } W):
 (Code.rangeFunc g ps assign body).wpIn Fence.wide n P Q a w:=by
 refine wpIn_rangeFunc ?_;intro fn hfn;obtain⟨rec,hrec⟩:∃rec:LoopState→Option Code→Loop,rec=fun st pe=> { state:=st,pending:=pe,fn,tmps:=a.tmps,params:=ps,assign,body,defers:=w.heap.size }:=⟨_,rfl⟩
 obtain⟨W1,hW1⟩:∃W1,(w.alloc (.deferred (some []))).alloc (.loop (rec .ready none))=W1:=⟨_,rfl⟩
 have hS1:Sat ((Pr.pts (w.heap.size+1) (.loop (rec .ready none))).star ((Pr.pts w.heap.size (.deferred (some []))).star ((I []).star Own))) W1:=by
  rw [← hW1];have:=(h0.alloc (.deferred (some []))).alloc (.loop (rec .ready none))
  rwa [World.size_alloc] at this
 have hR1:Stays w W1:=by rw [← hW1];exact((Stays.refl w).alloc _).alloc _
 refine⟨w.heap.size+1,[{ target:= .collected w.heap.size,args:= #[] }],W1,{ target:= .fn (.func gf) lb,args:= #[.func (.yield (w.heap.size+1)) #[] #[]] },W1,gf,
  #[.func (.yield (w.heap.size+1)) #[] #[]]++lb,W1,?_,?_,?_,?_,fun h=>by simp [Fence.wide] at h,?_⟩
 · rw [← hW1,hrec];exact run_enterLoop_outer _ _ _ _ _
 · simp only [resolve,hg]
   simp [go_sem]
 · intro f' _;exact trivial
 · simp [invoke,go_sem,eg]
 · refine callsIn_wide.2 ((hit (w.heap.size+1)
    (fun pre=>(I pre).star ((Pr.pts (w.heap.size+1) (.loop (rec .ready none))).star (Pr.pts w.heap.size (.deferred (some [])))))
    (fun pre=>Pr.ex fun c=>(Ix c pre).star ((Pr.pts (w.heap.size+1) (.loop (rec .done (some c)))).star (Pr.pts w.heap.size (.deferred (some [])))))
    W1 ?_ (hS1.perm (by ac_rfl))).mono ?_)
   · intro Fr pre x W hpre hs
     have exr:∀(c:Code) {W':World},Sat (((Ix c (pre++ [x])).star ((Pr.pts (w.heap.size+1) (.loop (rec .done (some c)))).star (Pr.pts w.heap.size (.deferred (some []))))).star (Own.star Fr)) W'→
      Sat (((Pr.ex fun c=>(Ix c (pre++ [x])).star ((Pr.pts (w.heap.size+1) (.loop (rec .done (some c)))).star (Pr.pts w.heap.size (.deferred (some []))))).star Own).star Fr) W':=
      fun c W' h=>Sat.perm (Sat.ex.2 ⟨c,h⟩) (Pr.star_assoc _ _ _).symm
     have hs1:Sat ((Pr.pts (w.heap.size+1) (.loop (rec .ready none))).star (((I pre).star Own).star ((Pr.pts w.heap.size (.deferred (some []))).star Fr))) W:=hs.perm (by ac_rfl);have hl:=hs1.pts_heap;have hy:=run_yield (P:=P) (args:=encs x) hl (by rw [hrec];exact hps x);rw [hrec] at hy;refine⟨fn,_,assign,body,hy,roundIn_any (n:=n-1-1) (roundIn_of_wpIn hfn ?_)⟩
     refine wpIn_mono (hround (w.heap.size+1) pre x W ((Pr.pts (w.heap.size+1) (.loop (rec .ready none))).star ((Pr.pts w.heap.size (.deferred (some []))).star Fr)) hpre (hs1.perm (by ac_rfl))) ?_;rintro e a1 W2 hp;cases e with
     | normal=>
       obtain⟨A1,hR2,hs2,hb⟩:=hp;have hs3:Sat ((Pr.pts (w.heap.size+1) (.loop (rec .ready none))).star (A1.star ((Pr.pts w.heap.size (.deferred (some []))).star Fr))) W2:=hs2.perm (by ac_rfl);refine⟨_,run_beginRound hs3.pts_heap (by rw [hrec]),?_⟩;have hs4:=hs3.putObj (.loop { rec .ready none with state:= .busy })
       refine wpIn_mono (hb ((Pr.pts (w.heap.size+1) (.loop { rec .ready none with state:= .busy })).star ((Pr.pts w.heap.size (.deferred (some []))).star Fr)) _ ((Stays.refl W2).putObj _ _) (hs4.perm (by ac_rfl))) ?_
       have fin:∀(jump:Option Code) (B:Pr) (W3:World),Sat (B.star ((Pr.pts (w.heap.size+1) (.loop { rec .ready none with state:= .busy })).star ((Pr.pts w.heap.size (.deferred (some []))).star Fr))) W3→
        (Instr.endRound (w.heap.size+1) jump).run P W3= .ok (.bool jump.isNone) (W3.putObj (w.heap.size+1) (.loop (rec (if jump.isNone then .ready else .done) jump)))∧
        Sat (B.star ((Pr.pts (w.heap.size+1) (.loop (rec (if jump.isNone then .ready else .done) jump))).star ((Pr.pts w.heap.size (.deferred (some []))).star Fr))) (W3.putObj (w.heap.size+1) (.loop (rec (if jump.isNone then .ready else .done) jump))):=fun jump B W3 h3=>by
        have h4:Sat ((Pr.pts (w.heap.size+1) (.loop { rec .ready none with state:= .busy })).star (B.star ((Pr.pts w.heap.size (.deferred (some []))).star Fr))) W3:=h3.perm (by ac_rfl);have:=run_endRound (P:=P) jump h4.pts_heap
        rw [hrec] at this ⊢;exact⟨this,(h4.putObj _).perm (by ac_rfl)⟩
       have hRb:Stays W W2:=hR2;rintro e a3 W3 hp3;cases e with
       | normal=>
         obtain⟨hR3,hs5⟩:=hp3;obtain⟨hr,hs6⟩:=fin none _ W3 hs5;exact⟨_,_,hr,(hRb.trans (((Stays.refl W2).putObj _ _).trans hR3)).putObj _ _,.inl ⟨rfl,hs6.perm (by ac_rfl)⟩⟩
       | ret=>
         obtain⟨hR3,hs5⟩:=hp3;obtain⟨hr,hs6⟩:=fin (some .ret) _ W3 hs5;exact⟨_,_,hr,(hRb.trans (((Stays.refl W2).putObj _ _).trans hR3)).putObj _ _,.inr ⟨rfl,exr .ret (hs6.perm (by ac_rfl))⟩⟩
       | exit id=>
         obtain⟨hR3,hs5⟩:=hp3;obtain⟨hr,hs6⟩:=fin (some (.exit id)) _ W3 hs5;exact⟨_,_,hr,(hRb.trans (((Stays.refl W2).putObj _ _).trans hR3)).putObj _ _,.inr ⟨rfl,exr (.exit id) (hs6.perm (by ac_rfl))⟩⟩
       | goto t=>
         obtain⟨hR3,hs5⟩:=hp3;obtain⟨hr,hs6⟩:=fin (some (.goto t)) _ W3 hs5;exact⟨_,_,hr,(hRb.trans (((Stays.refl W2).putObj _ _).trans hR3)).putObj _ _,.inr ⟨rfl,exr (.goto t) (hs6.perm (by ac_rfl))⟩⟩
       | panic ch=>exact hp3.elim
       | outgrown=>exact hp3.elim
     | ret=>exact hp.elim
     | exit id=>exact hp.elim
     | goto t=>exact hp.elim
     | panic ch=>exact hp.elim
     | outgrown=>exact hp.elim
   · rintro e W2 ⟨⟨v,rfl⟩,hR2,(⟨xs,hxs,hs2⟩ | ⟨pre,hpre,hs2⟩)⟩
     · have hs3:Sat ((Pr.pts (w.heap.size+1) (.loop (rec .ready none))).star (((I xs).star Own).star (Pr.pts w.heap.size (.deferred (some []))))) W2:=hs2.perm (by ac_rfl)
       have hs4:=hs3.putObj (.loop { rec .ready none with state:= .exhausted });refine⟨none,_,by have:=run_endLoop (P:=P) hs3.pts_heap (by rw [hrec];simp);rw [hrec] at this;exact this,hdone w.heap.size xs _ hxs ((hR1.trans hR2).putObj _ _) ?_⟩;rw [hrec] at hs4;exact hs4.right
     · obtain⟨c,hs2⟩:=Sat.ex.1 hs2
       have hs3:Sat ((Pr.pts (w.heap.size+1) (.loop (rec .done (some c)))).star (((Ix c pre).star Own).star (Pr.pts w.heap.size (.deferred (some []))))) W2:=hs2.perm (by ac_rfl);have hs4:=hs3.putObj (.loop { rec .done (some c) with state:= .exhausted })
       refine⟨some c,_,by have:=run_endLoop (P:=P) hs3.pts_heap (by rw [hrec];simp);rw [hrec] at this;exact this,hstop w.heap.size c pre _ hpre ((hR1.trans hR2).putObj _ _) ?_⟩;rw [hrec] at hs4;exact hs4.right
theorem at_yield {n:Nat}{P:Program}{o:Oper}{a:Act}{next:Act→World→Prop}{Q:Exit→Act→World→Prop}{l:Nat}{args:Array Value}{W:World}{R:Ending→World→Prop}
 (hy:YieldAt Fence.wide 0 P l args W R) (hR:∀e w',R e w'→∃v,e= .returned v∧next (a.put o.dst v) w'):Oper.uponIn Fence.wide n P o a next Q ((Instr.yield l args).run P W):=by
 obtain⟨fn,tmps,assign,body,hrun,hround⟩:=hy;rw [hrun];refine⟨fun h=>by simp [Fence.wide] at h,(roundIn_any hround).mono ?_⟩;intro e w' he;obtain⟨v,rfl,hk⟩:=hR e w' he;exact hk
theorem at_yield_in {n k:Nat}{P:Program}{o:Oper}{a:Act}{next:Act→World→Prop}{Q:Exit→Act→World→Prop}{l:Nat}{args:Array Value}{W:World}{R:Ending→World→Prop}
 (hy:YieldAt Fence.wide 0 P l args W R) (hR:∀e w',R e w'→∃v,e= .returned v∧next (a.put o.dst v) w'):Oper.uponIn (Fence.wide.inRound k) n P o a next Q ((Instr.yield l args).run P W):=by
 obtain⟨fn,tmps,assign,body,hrun,hround⟩:=hy;rw [hrun];refine⟨fun h=>by simp [Fence.wide,Fence.inRound] at h,((roundIn_any hround:RoundIn Fence.wide (n-1) P l fn tmps assign body W R):RoundIn (Fence.wide.inRound k) (n-1) P l fn tmps assign body W R).mono ?_⟩;intro e w' he;obtain⟨v,rfl,hk⟩:=hR e w' he;exact hk
theorem marks_ret1 {F:Fence}{n:Nat}{P:Program}{fn:Func}{R:Ending→World→Prop}{a:Act}{w:World}{D:Nat}(hd:a.defers= [{ target:= .collected D,args:= #[] }])
 (hD:w.heap[D]? =some (.deferred (some []))) (h:∃v,(results fn a.tmps).run P (w.putObj D (.deferred none))= .ok v (w.putObj D (.deferred none))∧R (.returned v) (w.putObj D (.deferred none))):
 bodyPostM F n P fn R .ret a w:=by
 show LeavesInM F n P fn a.tmps R a.defers .returning w
 rw [hd];exact⟨by simp,.inl ⟨_,_,rfl,run_takeDeferred hD,h⟩⟩
theorem marks_end1 {F:Fence}{n:Nat}{P:Program}{fn:Func}{R:Ending→World→Prop}{a:Act}{w:World}{D:Nat}(hd:a.defers= [{ target:= .collected D,args:= #[] }])
 (hD:w.heap[D]? =some (.deferred (some []))) (h:∃v,(results fn a.tmps).run P (w.putObj D (.deferred none))= .ok v (w.putObj D (.deferred none))∧R (.returned v) (w.putObj D (.deferred none))):
 bodyPostM F n P fn R .normal a w:=marks_ret1 (F:=F) (n:=n) hd hD h
theorem calls_of_wp_marks {n:Nat}{P:Program}{f:FuncId}{fn:Func}{c:Code}{args:Array Value}{w:World}{R:Ending→World→Prop}
 (hf:P.funcs[f]? =some fn) (hb:fn.body=some c)
 (h:c.wp P (bodyPostM Fence.wide n P fn R) { tmps:=args++Array.replicate (fn.ntmps-args.size) undef,defers:= [] } w):Calls P f args w R:=
 (callsIn_wide (n:=n)).1 (callsIn_of_wp_marks hf hb trivial (wpIn_wide.2 h))
theorem wp_rangeFunc_sl {α:Type}(n:Nat){P:Program}{g:Operand}{ps:Array Tmp}{assign body:Code}{Q:Exit→Act→World→Prop}{a:Act}{w:World}
 {gf:Nat} {lb:Array Value} (hg:a.eval g= .func (.func gf) #[] lb) (eg:∀args w,(callFunc gf args).run P w= .ok (.enter gf args) w)
 {encs:α→Array Value} {Ok:List α→α→Prop} {Done Stop:List α→Prop} {Own:Pr} (hit:IterG P gf lb encs Ok Done Stop Own) (hps:∀x,(encs x).size=ps.size)
 (I:List α→Pr) (Ix:Code→List α→Pr) (h0:Sat ((I []).star Own) w)
 (hround:∀(l:Nat) (pre:List α) (x:α) (W:World) (F1:Pr),Ok pre x→Sat (((I pre).star Own).star F1) W→
   assign.wpIn (Fence.wide.inRound l) (n-1-1) P (Exit.then (fun a1 W1=> ∃A1:Pr,Stays W W1∧Sat (A1.star F1) W1∧
    ∀(F2:Pr) (W2:World),Stays W1 W2→Sat (A1.star F2) W2→body.wpIn (Fence.wide.inRound l) (n-1-1) P (roundEnd I Ix Own F2 (pre++ [x]) W2) a1 W2) (fun _ _ _=>False))
    { tmps:=(ps.zip (encs x)).foldl (fun t (p,v)=>t.setIfInBounds p v) a.tmps,defers:= [] } W)
 (hdone:∀(D:Nat) (xs:List α) (W:World),Done xs→Stays w W→Sat (((I xs).star Own).star (Pr.pts D (.deferred (some [])))) W→Q .normal { a with defers:= { target:= .collected D,args:= #[] } :: a.defers } W)
 (hstop:∀(D:Nat) (c:Code) (pre:List α) (W:World),Stop pre→Stays w W→Sat (((Ix c pre).star Own).star (Pr.pts D (.deferred (some [])))) W→
   c.wp P Q { a with defers:= { target:= .collected D,args:= #[] } :: a.defers } W):
 (Code.rangeFunc g ps assign body).wp P Q a w:=
 wpIn_wide.1 (wpIn_rangeFunc_sl (n:=n) hg eg hit hps I Ix h0 hround hdone (fun D c pre W h1 h2 h3=>wpIn_wide.2 (hstop D c pre W h1 h2 h3)))
end Go.Sl
