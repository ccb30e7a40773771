/- Rows that are read: a slice that reads as cells in a part of the heap. Append of such a row onto an owned one. Plain lemmas over any program. -/
import Derived.Test.YtkfjilnmnbeokaaGreatPutInPlaceM02
import Derived.Lib.AppendZeros
import Derived.Test.YtkfjilnmnbeokaaGreatPutInPlaceM01
import Derived.Lib.Hide
import Derived.Lib.SliceRun
import Derived.BigFrame
import Derived.BigQuiet
import Derived.Lib.Bytealg
import Derived.Lib.BytesEntry
set_option maxRecDepth 100000
set_option maxHeartbeats 16000000
namespace Go.Sl
open Go.RowKit
def Hp.cell(h:Hp)(b i:Nat):Option Value:=match h b with
 | some (.cells c _ _)=>c[i]?
 | _=>none
theorem Hp.cell_le {h:Hp}{w:World}(hl:h.le w){b i:Nat}{v:Value}(e:h.cell b i=some v):w.cell? ⟨b,i,none⟩=some v:=by
 unfold Hp.cell at e;cases hb:h b with
 | none=>simp [hb] at e
 | some o=>
   rw [hb] at e;cases o<;>simp at e;rename_i c t f;simp [World.cell?,hl b _ hb,e]
def Hp.sub(a b:Hp):Prop:= ∀k o,a k=some o→b k=some o
theorem Hp.sub.trans {a b c:Hp}(h:a.sub b)(k:b.sub c):a.sub c:=fun i o e=>k i o (h i o e)
theorem Hp.sub_un_left(a b:Hp):a.sub (a.un b):=fun k o e=>by simp [Hp.un,e]
theorem Hp.sub_un_right {a b:Hp}(h:a.dis b):b.sub (a.un b):=fun k o e=>by
 rcases h k with e' | e'
 · simp [Hp.un,e',e]
 · rw [e'] at e;cases e
theorem Hp.cell_sub {a b:Hp}(h:a.sub b){k i:Nat}{v:Value}(e:a.cell k i=some v):b.cell k i=some v:=by
 unfold Hp.cell at e ⊢;cases ha:a k with
 | none=>simp [ha] at e
 | some o=>rw [h k o ha];rw [ha] at e;exact e
def RowIn(h:Hp)(k:Nat)(v:Value)(n:Nat)(xs:List Value):Prop:=
 xs.length=n*k∧∃a c,v= .slice a n c∧n≤c∧c≤maxLen∧(0<n→∃b off,a=some ⟨b,off,none⟩∧∀i,i<n*k→h.cell b (off+i)=xs[i]?)
theorem RowIn.nil(h:Hp)(k:Nat):RowIn h k (.slice none 0 0) 0 []:=⟨by simp,none,0,rfl,Nat.le_refl _,by simp [maxLen],fun h=>absurd h (by omega)⟩
theorem RowIn.sub {a b:Hp}(hs:a.sub b){k:Nat}{v:Value}{n:Nat}{xs:List Value}(h:RowIn a k v n xs):RowIn b k v n xs:=by
 obtain⟨hl,ad,c,hv,h1,h2,h3⟩:=h;refine⟨hl,ad,c,hv,h1,h2,fun hn=> ?_⟩;obtain⟨bb,off,hb,hc⟩:=h3 hn;refine⟨bb,off,hb,fun i hi=> ?_⟩;have e:=hc i hi;have hlt:i<xs.length:=by omega
 rw [List.getElem?_eq_getElem hlt] at e ⊢;exact Hp.cell_sub hs e
theorem Row.rowIn {T k:Nat}{v:Value}{n:Nat}{xs:List Value}{h:Hp}(hr:Row T k v n xs h):RowIn h k v n xs:=by
 obtain⟨hl,(⟨rfl,rfl,rfl⟩ | ⟨b,cap,sp,rfl,h1,h2,h3,rfl⟩)⟩:=hr
 · have:xs= []:=List.eq_nil_of_length_eq_zero (by omega)
   subst this;exact RowIn.nil _ _
 · refine⟨hl,_,_,rfl,h2,h3,fun hn=>⟨b,0,rfl,fun i hi=> ?_⟩⟩
   simp [Hp.cell,List.getElem?_append_left (show i<xs.length by omega)]
theorem Sat.toOwn {A F:Pr}{w:World}(h:Sat (A.star F) w):∃h0,A h0∧Sat ((Pr.own h0).star F) w:=by
 obtain⟨x,⟨a,f,ha,hf,hd,rfl⟩,hl⟩:=h;exact⟨a,ha,_,⟨a,f,rfl,hf,hd,rfl⟩,hl⟩
theorem Sat.ofOwn {h0:Hp}{A F:Pr}{w:World}(h:Sat ((Pr.own h0).star F) w)(ha:A h0):Sat (A.star F) w:=h.mono fun _ e=>by cases e;exact ha
theorem Sat.own_join {a b:Hp}{F:Pr}{w:World}(h:Sat ((Pr.own a).star ((Pr.own b).star F)) w):a.dis b∧Sat ((Pr.own (a.un b)).star F) w:=by
 rw [← Pr.star_assoc] at h;obtain⟨_,⟨_,f,⟨x,y,rfl,rfl,hd,rfl⟩,hf,hd',rfl⟩,hl⟩:=h;exact⟨hd,_,⟨_,f,rfl,hf,hd',rfl⟩,hl⟩
theorem star_sub {A B:Pr}{h:Hp}(hs:(A.star B) h):∃a b,A a∧B b∧a.sub h∧b.sub h:=by
 obtain⟨a,b,ha,hb,hd,rfl⟩:=hs;exact⟨a,b,ha,hb,Hp.sub_un_left a b,Hp.sub_un_right hd⟩
theorem pts_rowIn {T k b n cap:Nat}{xs:List Value}{h:Hp}(hp:Pr.pts b (.cells xs.toArray T (0,0)) h)(hl:xs.length=n*k)(hc:n=cap)(hm:cap≤maxLen):RowIn h k (.slice (some ⟨b,0,none⟩) n cap) n xs:=by
 subst hc;exact Row.rowIn (T:=T) ⟨hl,.inr ⟨b,n,[],rfl,by simpa using hl,Nat.le_refl _,hm,by simpa using hp⟩⟩
section
variable {P:Program}{w:World}{F:Pr}
theorem add_cell(b off j:Nat):(⟨b,off,none⟩:Addr).add j=⟨b,off+j,none⟩:=by unfold Addr.add;split<;>simp_all
theorem run_append_row(t ty e:TypeId)(i:TypeInfo)(z:Value)(size bytes:Nat)(ht:P.underlying t=some (.slice e))(hi:P.info? e=some i)(hz:i.zero=some z)
 (hsize:i.size=size) (hby:i.bytes=bytes) (hzs:z.cells.size=size)
 (v:Value) (n:Nat) (xs:List Value) (hown:Sat ((Row e size v n xs).star F) w)
 (h:Hp) (hh:h.le w) (vx:Value) (m:Nat) (news:List Value) (hx:RowIn h size vx m news) (h1:∀u∈news,u.oneCell'=true)
 (h63:n+m≤maxLen) (hbytes:(n+m)*bytes≤140737488355328):
 ∃v' w',(Builtin.append_ #[t,t] ty #[v,vx]).run P w= .ok v' w'∧Sat ((Row e size v' (n+m) (xs++news)).star F) w'∧w.grownBy w' v.ownBlock∧
  (v'= .slice none 0 0↔v= .slice none 0 0∧m=0):=by
 obtain⟨hl,ad,c,rfl,hmc,hcm,hc⟩:=hx;cases ad with
 | some ad=>
   refine run_append_sl t ty e i z size bytes ht hi hz hsize hby hzs v n xs hown ad m c news hl ?_ h1 h63 hbytes;intro j u hu;have hj:j<news.length:=(List.getElem?_eq_some_iff.1 hu).1
   have hm:0<m:=by
    rcases Nat.eq_zero_or_pos m with h0 | h0
    · subst h0;simp at hl;simp [hl] at hj
    · exact h0
   obtain⟨b,off,e1,hcell⟩:=hc hm;cases e1;rw [add_cell];exact Hp.cell_le hh ((hcell j (by omega)).trans hu)
 | none=>
   have hm:m=0:=by
    rcases Nat.eq_zero_or_pos m with h0 | h0
    · exact h0
    · obtain⟨b,off,e1,_⟩:=hc h0;cases e1
   subst hm;have hn:news= []:=List.eq_nil_of_length_eq_zero (by simpa using hl);subst hn;subst hsize;refine⟨v,w,?_,by simpa using hown,⟨rfl,rfl,rfl,Nat.le_refl _,fun _ _ _=>rfl⟩,by simp⟩;obtain⟨hxl,hcase⟩:=Row.open' hown;rcases hcase with⟨rfl,rfl,_⟩ | ⟨g,cap,sp,rfl,_,hnc,_,_⟩
   · simp [Builtin.append_,run_underlying ht,sizeOf,typeInfo,hi,Builtin.lenOf,Builtin.firstCells]
   · simp [Builtin.append_,run_underlying ht,sizeOf,typeInfo,hi,Builtin.lenOf,Builtin.firstCells,hnc,storeCells]
theorem wp_append_row {o:Oper}{a:Act}{K:Act→World→Prop}{Q:Exit→Act→World→Prop}(s x:Operand)(t:TypeId)
 (ho:o.op= .call { callee:= .builtin .append,args:= #[s,x],argTypes:= #[t,t] })
 (e:TypeId) (i:TypeInfo) (z:Value) (size bytes:Nat) (ht:P.underlying t=some (.slice e)) (hi:P.info? e=some i) (hz:i.zero=some z)
 (hsize:i.size=size) (hby:i.bytes=bytes) (hzs:z.cells.size=size)
 (v:Value) (n:Nat) (xs:List Value) (hs:a.eval s=v) (hown:Sat ((Row e size v n xs).star F) w)
 (hp:Hp) (hh:hp.le w) (vx:Value) (m:Nat) (news:List Value) (hx:a.eval x=vx) (hrx:RowIn hp size vx m news) (h1:∀u∈news,u.oneCell'=true)
 (h63:n+m≤maxLen) (hbytes:(n+m)*bytes≤140737488355328)
 (h:∀v' w',Sat ((Row e size v' (n+m) (xs++news)).star F) w'→w.grownBy w' v.ownBlock→(v'= .slice none 0 0↔v= .slice none 0 0∧m=0)→K (a.put o.dst v') w'):o.wp P a w K Q:=by
 obtain⟨v',w',hr,h2,h3,h4⟩:=run_append_row (P:=P) t o.type e i z size bytes ht hi hz hsize hby hzs v n xs hown hp hh vx m news hrx h1 h63 hbytes;unfold Oper.wp execOp;simp only [ho,resolve,invoke,builtin,Sem.run_bind,Sem.run_pure,Result.andThen_ok,List.map_toArray,List.map_cons,List.map_nil,hs,hx,hr];exact h v' w' h2 h3 h4
theorem wpList_append_row {ops:Array Oper}{rest:List Oper}{o:Oper}{a:Act}{Q:Exit→Act→World→Prop}(hgd:o.guard=none)(s x:Operand)(t:TypeId)
 (ho:o.op= .call { callee:= .builtin .append,args:= #[s,x],argTypes:= #[t,t] })
 (e:TypeId) (i:TypeInfo) (z:Value) (size bytes:Nat) (ht:P.underlying t=some (.slice e)) (hi:P.info? e=some i) (hz:i.zero=some z)
 (hsize:i.size=size) (hby:i.bytes=bytes) (hzs:z.cells.size=size)
 (v:Value) (n:Nat) (xs:List Value) (hs:a.eval s=v) (hown:Sat ((Row e size v n xs).star F) w)
 (hp:Hp) (hh:hp.le w) (vx:Value) (m:Nat) (news:List Value) (hx:a.eval x=vx) (hrx:RowIn hp size vx m news) (h1:∀u∈news,u.oneCell'=true)
 (h63:n+m≤maxLen) (hbytes:(n+m)*bytes≤140737488355328)
 (h:∀v' w',Sat ((Row e size v' (n+m) (xs++news)).star F) w'→w.grownBy w' v.ownBlock→(v'= .slice none 0 0↔v= .slice none 0 0∧m=0)→wpList P ops Q rest (a.put o.dst v') w'):wpList P ops Q (o :: rest) a w:=
 wpList_plain hgd fun _ hK=>wp_append_row s x t ho e i z size bytes ht hi hz hsize hby hzs v n xs hs hown hp hh vx m news hx hrx h1 h63 hbytes fun v' w' h2 h3 h4=>hK _ _ (h v' w' h2 h3 h4)
end
theorem Stays.of_grown {a w w':World}{row:Option Nat}(h:Stays a w)(hg:w.grownBy w' row):Stays a w':=h.trans ⟨hg.os,hg.tape,hg.output,hg.size⟩
end Go.Sl
namespace Go.Sl
open Go.RowKit
def starL:List Pr→Pr
 | []=>Pr.emp
 | a :: l=>a.star (starL l)
structure OwnL(L:List Pr)(w:World):Prop where
 sat:Sat (starL L) w
class Pull(A:Pr)(L:List Pr)(R:outParam (List Pr)):Prop where
 eq:starL L=A.star (starL R)
instance Pull.there(A B:Pr)(L R:List Pr) [h:Pull A L R]:Pull A (B :: L) (B :: R):=
 ⟨by show B.star (starL L)=A.star (B.star (starL R));rw [h.eq,Pr.left_comm]⟩
instance Pull.here(A:Pr)(L:List Pr):Pull A (A :: L) L:=⟨rfl⟩
class PullPts(b:Nat)(L:List Pr)(o:outParam Obj)(R:outParam (List Pr)):Prop where
 eq:starL L=(Pr.pts b o).star (starL R)
instance PullPts.there(b:Nat)(B:Pr)(L R:List Pr)(o:Obj) [h:PullPts b L o R]:PullPts b (B :: L) o (B :: R):=
 ⟨by show B.star (starL L)=(Pr.pts b o).star (B.star (starL R));rw [h.eq,Pr.left_comm]⟩
instance PullPts.here(b:Nat)(o:Obj)(L:List Pr):PullPts b (Pr.pts b o :: L) o L:=⟨rfl⟩
class PullRow(v:Value)(L:List Pr)(T k n:outParam Nat)(xs:outParam (List Value))(R:outParam (List Pr)):Prop where
 eq:starL L=(Row T k v n xs).star (starL R)
instance PullRow.there(v:Value)(B:Pr)(L R:List Pr)(T k n:Nat)(xs:List Value) [h:PullRow v L T k n xs R]:PullRow v (B :: L) T k n xs (B :: R):=
 ⟨by show B.star (starL L)=(Row T k v n xs).star (B.star (starL R));rw [h.eq,Pr.left_comm]⟩
instance PullRow.here(v:Value)(T k n:Nat)(xs:List Value)(L:List Pr):PullRow v (Row T k v n xs :: L) T k n xs L:=⟨rfl⟩
class SetPts(b i:Nat)(v:Value)(L:List Pr)(M:outParam (List Pr)):Prop where
 ex:∃cs t fz R,starL L=(Pr.pts b (.cells cs t fz)).star R∧starL M=(Pr.pts b (.cells (cs.setIfInBounds i v) t fz)).star R
instance SetPts.there(b i:Nat)(v:Value)(B:Pr)(L M:List Pr) [h:SetPts b i v L M]:SetPts b i v (B :: L) (B :: M):=
 ⟨by
   obtain⟨cs,t,fz,R,h1,h2⟩:=h.ex
   refine⟨cs,t,fz,B.star R,?_,?_⟩
   · show B.star (starL L)=_;rw [h1,Pr.left_comm]
   · show B.star (starL M)=_;rw [h2,Pr.left_comm]⟩
class SetL(i:Nat)(v:Value)(l:List Value)(m:outParam (List Value)):Prop where
 eq:l.set i v=m
instance SetL.there(i:Nat)(v a:Value)(l m:List Value) [h:SetL i v l m]:SetL (i+1) v (a :: l) (a :: m):=⟨by rw [List.set_cons_succ,h.eq]⟩
instance SetL.here(v a:Value)(l:List Value):SetL 0 v (a :: l) (v :: l):=⟨rfl⟩
instance SetPts.here(b i:Nat)(v:Value)(l m:List Value)(t:TypeId)(fz:Nat × Nat)(L:List Pr) [h:SetL i v l m]:SetPts b i v (Pr.pts b (.cells l.toArray t fz) :: L) (Pr.pts b (.cells m.toArray t fz) :: L):=
 ⟨⟨l.toArray,t,fz,starL L,rfl,by rw [List.setIfInBounds_toArray,h.eq];rfl⟩⟩
def CellsAt(w:World)(b:Nat):Nat→List Value→Prop
 | _,[]=>True
 | i,v :: l=>w.cell? ⟨b,i,none⟩=some v∧w.frozen? ⟨b,i,none⟩=false∧CellsAt w b (i+1) l
theorem cellsAt_of {w:World}{b:Nat}{cs:Array Value}{t:TypeId}(h:w.heap[b]? =some (.cells cs t (0,0))):∀(l:List Value) (i:Nat),(∀j v,l[j]? =some v→cs[i+j]? =some v)→CellsAt w b i l
 | [],_,_=>trivial
 | v :: l,i,hl=>⟨(cell_of_heap h i).trans (by have:=hl 0 v rfl;simpa using this),frozen_of_heap h i,cellsAt_of h l (i+1) fun j u hu=>by
     have:=hl (j+1) u (by simpa using hu)
     rw [show i+1+j=i+(j+1) by omega];exact this⟩
class NePts(b:Nat)(L:List Pr)(P:outParam Prop):Prop where
 ne:∀(o:Obj) (w:World),Sat ((Pr.pts b o).star (starL L)) w→P
instance NePts.nil(b:Nat):NePts b [] True:=⟨fun _ _ _=>trivial⟩
instance NePts.skip(b:Nat)(B:Pr)(L:List Pr)(P:Prop) [h:NePts b L P]:NePts b (B :: L) P:=
 ⟨fun o w hs=>h.ne o w (hs.perm (B:=B.star ((Pr.pts b o).star (starL L))) (by show (Pr.pts b o).star (B.star (starL L))=_;rw [Pr.left_comm])).right⟩
instance NePts.pts(b c:Nat)(o':Obj)(L:List Pr)(P:Prop) [h:NePts b L P]:NePts b (Pr.pts c o' :: L) (b≠c∧c≠b∧P):=
 ⟨fun o w hs=>⟨Sat.pts_ne hs,fun e=>Sat.pts_ne hs e.symm,h.ne o w (hs.perm (B:=(Pr.pts c o').star ((Pr.pts b o).star (starL L))) (by show (Pr.pts b o).star ((Pr.pts c o').star (starL L))=_;rw [Pr.left_comm])).right⟩⟩
class FactsOf(L:List Pr)(w:World)(P:outParam Prop):Prop where
 facts:Sat (starL L) w→P
instance FactsOf.nil(w:World):FactsOf [] w True:=⟨fun _=>trivial⟩
instance FactsOf.skip(B:Pr)(L:List Pr)(w:World)(P:Prop) [h:FactsOf L w P]:FactsOf (B :: L) w P:=⟨fun hs=>h.facts hs.right⟩
instance FactsOf.pts(b:Nat)(l:List Value)(T:TypeId)(L:List Pr)(w:World)(P N:Prop) [h:FactsOf L w P] [k:NePts b L N]:FactsOf (Pr.pts b (.cells l.toArray T (0,0)) :: L) w ((CellsAt w b 0 l∧b<w.heap.size∧N)∧P):=
 ⟨fun hs=>⟨⟨cellsAt_of hs.pts_heap l 0 fun j v hj=>by simpa using hj,hs.lt,k.ne _ _ hs⟩,h.facts hs.right⟩⟩
class SubL(M L:List Pr):Prop where
 sub:∃R,starL L=(starL M).star R
instance SubL.nil(L:List Pr):SubL [] L:=⟨⟨starL L,(Pr.emp_star _).symm⟩⟩
instance SubL.refl(L:List Pr):SubL L L:=⟨⟨Pr.emp,(Pr.star_emp _).symm⟩⟩
instance SubL.cons(A:Pr)(M L R:List Pr) [h:Pull A L R] [k:SubL M R]:SubL (A :: M) L:=⟨by
 obtain⟨X,e⟩:=k.sub
 exact⟨X,by rw [h.eq,e, ← Pr.star_assoc];rfl⟩⟩
section
variable {L:List Pr}{w w':World}{F:Pr}
theorem OwnL.pull1 {A1:Pr}{R1:List Pr} [k1:Pull A1 L R1](o:OwnL L w):Sat (A1.star (starL R1)) w:=o.sat.perm (by rw [k1.eq])
theorem OwnL.end1 {A1:Pr}{R1:List Pr} [k1:Pull A1 L R1](o:OwnL L w):Sat A1 w:=(o.pull1 (A1:=A1)).left
theorem OwnL.of1 {A1:Pr}(h:Sat (A1.star (starL L)) w):OwnL (A1 :: L) w:=⟨h⟩
theorem OwnL.in1 {A1:Pr}(h:Sat (A1.star F) w):OwnL [A1,F] w:=⟨h.perm (by simp only [starL,Pr.star_emp])⟩
theorem OwnL.pull2 {A1 A2:Pr}{R1 R2:List Pr} [k1:Pull A1 L R1] [k2:Pull A2 R1 R2](o:OwnL L w):Sat (A1.star (A2.star (starL R2))) w:=o.sat.perm (by rw [k1.eq,k2.eq])
theorem OwnL.end2 {A1 A2:Pr}{R1 R2:List Pr} [k1:Pull A1 L R1] [k2:Pull A2 R1 R2](o:OwnL L w):Sat (A1.star A2) w:=(o.sat.perm (B:=(A1.star A2).star (starL R2)) (by rw [k1.eq,k2.eq];simp only [Pr.star_assoc])).left
theorem OwnL.of2 {A1 A2:Pr}(h:Sat (A1.star (A2.star (starL L))) w):OwnL (A1 :: A2 :: L) w:=⟨h⟩
theorem OwnL.in2 {A1 A2:Pr}(h:Sat (A1.star (A2.star F)) w):OwnL [A1,A2,F] w:=⟨h.perm (by simp only [starL,Pr.star_emp])⟩
theorem OwnL.pull3 {A1 A2 A3:Pr}{R1 R2 R3:List Pr} [k1:Pull A1 L R1] [k2:Pull A2 R1 R2] [k3:Pull A3 R2 R3](o:OwnL L w):Sat (A1.star (A2.star (A3.star (starL R3)))) w:=o.sat.perm (by rw [k1.eq,k2.eq,k3.eq])
theorem OwnL.end3 {A1 A2 A3:Pr}{R1 R2 R3:List Pr} [k1:Pull A1 L R1] [k2:Pull A2 R1 R2] [k3:Pull A3 R2 R3](o:OwnL L w):Sat (A1.star (A2.star A3)) w:=(o.sat.perm (B:=(A1.star (A2.star A3)).star (starL R3)) (by rw [k1.eq,k2.eq,k3.eq];simp only [Pr.star_assoc])).left
theorem OwnL.of3 {A1 A2 A3:Pr}(h:Sat (A1.star (A2.star (A3.star (starL L)))) w):OwnL (A1 :: A2 :: A3 :: L) w:=⟨h⟩
theorem OwnL.in3 {A1 A2 A3:Pr}(h:Sat (A1.star (A2.star (A3.star F))) w):OwnL [A1,A2,A3,F] w:=⟨h.perm (by simp only [starL,Pr.star_emp])⟩
theorem OwnL.pull4 {A1 A2 A3 A4:Pr}{R1 R2 R3 R4:List Pr} [k1:Pull A1 L R1] [k2:Pull A2 R1 R2] [k3:Pull A3 R2 R3] [k4:Pull A4 R3 R4](o:OwnL L w):Sat (A1.star (A2.star (A3.star (A4.star (starL R4))))) w:=o.sat.perm (by rw [k1.eq,k2.eq,k3.eq,k4.eq])
theorem OwnL.end4 {A1 A2 A3 A4:Pr}{R1 R2 R3 R4:List Pr} [k1:Pull A1 L R1] [k2:Pull A2 R1 R2] [k3:Pull A3 R2 R3] [k4:Pull A4 R3 R4](o:OwnL L w):Sat (A1.star (A2.star (A3.star A4))) w:=(o.sat.perm (B:=(A1.star (A2.star (A3.star A4))).star (starL R4)) (by rw [k1.eq,k2.eq,k3.eq,k4.eq];simp only [Pr.star_assoc])).left
theorem OwnL.of4 {A1 A2 A3 A4:Pr}(h:Sat (A1.star (A2.star (A3.star (A4.star (starL L))))) w):OwnL (A1 :: A2 :: A3 :: A4 :: L) w:=⟨h⟩
theorem OwnL.in4 {A1 A2 A3 A4:Pr}(h:Sat (A1.star (A2.star (A3.star (A4.star F)))) w):OwnL [A1,A2,A3,A4,F] w:=⟨h.perm (by simp only [starL,Pr.star_emp])⟩
theorem OwnL.pull5 {A1 A2 A3 A4 A5:Pr}{R1 R2 R3 R4 R5:List Pr} [k1:Pull A1 L R1] [k2:Pull A2 R1 R2] [k3:Pull A3 R2 R3] [k4:Pull A4 R3 R4] [k5:Pull A5 R4 R5](o:OwnL L w):Sat (A1.star (A2.star (A3.star (A4.star (A5.star (starL R5)))))) w:=o.sat.perm (by rw [k1.eq,k2.eq,k3.eq,k4.eq,k5.eq])
theorem OwnL.end5 {A1 A2 A3 A4 A5:Pr}{R1 R2 R3 R4 R5:List Pr} [k1:Pull A1 L R1] [k2:Pull A2 R1 R2] [k3:Pull A3 R2 R3] [k4:Pull A4 R3 R4] [k5:Pull A5 R4 R5](o:OwnL L w):Sat (A1.star (A2.star (A3.star (A4.star A5)))) w:=(o.sat.perm (B:=(A1.star (A2.star (A3.star (A4.star A5)))).star (starL R5)) (by rw [k1.eq,k2.eq,k3.eq,k4.eq,k5.eq];simp only [Pr.star_assoc])).left
theorem OwnL.in5 {A1 A2 A3 A4 A5:Pr}(h:Sat (A1.star (A2.star (A3.star (A4.star (A5.star F))))) w):OwnL [A1,A2,A3,A4,A5,F] w:=⟨h.perm (by simp only [starL,Pr.star_emp])⟩
theorem OwnL.pull6 {A1 A2 A3 A4 A5 A6:Pr}{R1 R2 R3 R4 R5 R6:List Pr} [k1:Pull A1 L R1] [k2:Pull A2 R1 R2] [k3:Pull A3 R2 R3] [k4:Pull A4 R3 R4] [k5:Pull A5 R4 R5] [k6:Pull A6 R5 R6](o:OwnL L w):Sat (A1.star (A2.star (A3.star (A4.star (A5.star (A6.star (starL R6))))))) w:=o.sat.perm (by rw [k1.eq,k2.eq,k3.eq,k4.eq,k5.eq,k6.eq])
theorem OwnL.end6 {A1 A2 A3 A4 A5 A6:Pr}{R1 R2 R3 R4 R5 R6:List Pr} [k1:Pull A1 L R1] [k2:Pull A2 R1 R2] [k3:Pull A3 R2 R3] [k4:Pull A4 R3 R4] [k5:Pull A5 R4 R5] [k6:Pull A6 R5 R6](o:OwnL L w):Sat (A1.star (A2.star (A3.star (A4.star (A5.star A6))))) w:=(o.sat.perm (B:=(A1.star (A2.star (A3.star (A4.star (A5.star A6))))).star (starL R6)) (by rw [k1.eq,k2.eq,k3.eq,k4.eq,k5.eq,k6.eq];simp only [Pr.star_assoc])).left
theorem OwnL.in6 {A1 A2 A3 A4 A5 A6:Pr}(h:Sat (A1.star (A2.star (A3.star (A4.star (A5.star (A6.star F)))))) w):OwnL [A1,A2,A3,A4,A5,A6,F] w:=⟨h.perm (by simp only [starL,Pr.star_emp])⟩
theorem OwnL.in7 {A1 A2 A3 A4 A5 A6 A7:Pr}(h:Sat (A1.star (A2.star (A3.star (A4.star (A5.star (A6.star (A7.star F))))))) w):OwnL [A1,A2,A3,A4,A5,A6,A7,F] w:=⟨h.perm (by simp only [starL,Pr.star_emp])⟩
theorem OwnL.pull8 {A1 A2 A3 A4 A5 A6 A7 A8:Pr}{R1 R2 R3 R4 R5 R6 R7 R8:List Pr} [k1:Pull A1 L R1] [k2:Pull A2 R1 R2] [k3:Pull A3 R2 R3] [k4:Pull A4 R3 R4] [k5:Pull A5 R4 R5] [k6:Pull A6 R5 R6] [k7:Pull A7 R6 R7] [k8:Pull A8 R7 R8](o:OwnL L w):Sat (A1.star (A2.star (A3.star (A4.star (A5.star (A6.star (A7.star (A8.star (starL R8))))))))) w:=o.sat.perm (by rw [k1.eq,k2.eq,k3.eq,k4.eq,k5.eq,k6.eq,k7.eq,k8.eq])
end
section
variable {L R R2 R3 R4 R5 R6:List Pr}{w w':World}{A B C D E G F:Pr}
theorem OwnL.to {M:List Pr}(o:OwnL L w) [h:SubL M L]:OwnL M w:=by
 obtain⟨X,e⟩:=h.sub;exact⟨(o.sat.perm e).left⟩
class NormL(L:List Pr)(M:outParam (List Pr)):Prop where
 eq:starL L=starL M
instance NormL.nil:NormL [] []:=⟨rfl⟩
instance NormL.keep(A:Pr)(L M:List Pr) [h:NormL L M]:NormL (A :: L) (A :: M):=⟨by show A.star (starL L)=A.star (starL M);rw [h.eq]⟩
instance NormL.star(A B:Pr)(L M:List Pr) [h:NormL (A :: B :: L) M]:NormL (A.star B :: L) M:=⟨by rw [← h.eq];show (A.star B).star (starL L)=A.star (B.star (starL L));rw [Pr.star_assoc]⟩
theorem OwnL.norm {M:List Pr}(o:OwnL L w) [h:NormL L M]:OwnL M w:=⟨o.sat.perm h.eq⟩
class FlatL(L:List Pr)(M:outParam (List Pr)):Prop where
 eq:starL L=starL M
instance FlatL.there(A:Pr)(L M:List Pr) [h:FlatL L M]:FlatL (A :: L) (A :: M):=⟨by show A.star (starL L)=A.star (starL M);rw [h.eq]⟩
instance FlatL.here(R:List Pr):FlatL [starL R] R:=⟨Pr.star_emp _⟩
theorem OwnL.flat {M:List Pr}(o:OwnL L w) [h:FlatL L M]:OwnL M w:=⟨o.sat.perm h.eq⟩
theorem OwnL.push(h:Sat (A.star (starL L)) w)(e:A=B.star C):OwnL (B :: C :: L) w:=⟨by subst e;exact h.perm (Pr.star_assoc _ _ _)⟩
theorem OwnL.split [h:Pull (A.star B) L R](o:OwnL L w):OwnL (A :: B :: R) w:=⟨o.sat.perm (by rw [h.eq,Pr.star_assoc];rfl)⟩
theorem OwnL.alloc(o:OwnL L w)(x:Obj):OwnL (Pr.pts w.heap.size x :: L) (w.alloc x):=⟨o.sat.alloc x⟩
theorem OwnL.drew(o:OwnL L w):OwnL L w.drew:=⟨o.sat.drew⟩
theorem OwnL.drewN(o:OwnL L w)(n:Nat):OwnL L (w.drewN n):=⟨o.sat.drewN n⟩
theorem OwnL.set(o:OwnL L w)(b i:Nat)(v:Value){M:List Pr} [h:SetPts b i v L M]:OwnL M (w.setCell ⟨b,i,none⟩ v):=by
 obtain⟨cs,t,fz,R,h1,h2⟩:=h.ex;exact⟨((o.sat.perm h1).setCell (i:=i) v).perm h2.symm⟩
theorem OwnL.drop(o:OwnL (A :: L) w):OwnL L w:=⟨o.sat.right⟩
theorem OwnL.lose(A:Pr)(o:OwnL L w) [h:Pull A L R]:OwnL R w:=⟨(o.pull1 (A1:=A)).right⟩
theorem OwnL.facts(o:OwnL L w){P:Prop} [h:FactsOf L w P]:P:=h.facts o.sat
theorem OwnL.pts(o:OwnL L w)(b:Nat){x:Obj}{R:List Pr} [h:PullPts b L x R]:Sat ((Pr.pts b x).star (starL R)) w:=o.sat.perm h.eq
theorem OwnL.row(o:OwnL L w)(v:Value){T k n:Nat}{xs:List Value}{R:List Pr} [h:PullRow v L T k n xs R]:Sat ((Row T k v n xs).star (starL R)) w:=o.sat.perm h.eq
theorem OwnL.arena(A:Pr)(o:OwnL L w) [h:Pull A L R]:∃a,A a∧OwnL (Pr.own a :: R) w:=by
 obtain⟨a,ha,hs⟩:=(o.pull1 (A1:=A)).toOwn;exact⟨a,ha,⟨hs⟩⟩
theorem OwnL.back(A:Pr){a:Hp}(ha:A a)(o:OwnL L w) [h:Pull (Pr.own a) L R]:OwnL (A :: R) w:=⟨(o.pull1 (A1:=Pr.own a)).ofOwn ha⟩
theorem OwnL.le {a:Hp}(o:OwnL L w) [h:Pull (Pr.own a) L R]:a.le w:=(o.pull1 (A1:=Pr.own a)).own
theorem OwnL.ext(o:OwnL L w)(ha:∀k,k<w.heap.size→w'.heap[k]? =w.heap[k]?):OwnL L w':=⟨o.sat.ext ha⟩
end
end Go.Sl
namespace Go.Proofs.YtkfjilnmnbeokaaGreat.G2
open ChangeShapes WideShapes ChangeAt RowKit Sl Cop
theorem infoByte:(Tryz.prog.info? 5).map (fun i=>(i.zero,i.size,i.bytes))=some (some (.int .u8 0),1,1):=by kernel_rfl
theorem infoInt:(Tryz.prog.info? 3).map (fun i=>(i.zero,i.size,i.bytes))=some (some (.int .i64 0),1,8):=by kernel_rfl
abbrev byteV(b:Int):Value:= .int .u8 b
abbrev Bytes(h:Hp)(v:Value)(l:List Int):Prop:=RowIn h 1 v l.length (l.map (Value.int .u8))
abbrev BytesRow(v:Value)(l:List Int):Pr:=Row 5 1 v l.length (l.map (Value.int .u8))
theorem clone_bytes(h:Hp)(v:Value)(l:List Int)(F:Pr)(w:World)(hF:Sat F w)(hh:h.le w)(hx:Bytes h v l)(hn:l.length≤65536):
 Calls Tryz.prog 102 #[v] w fun e w'=> ∃v',e= .returned v'∧Sat ((BytesRow v' l).star F) w'∧Stays w w':=by
 obtain⟨_,ad,c,rfl,hnc,hcm,hcell⟩:=id hx;have he:∀wx:World,(binOp .eql 39 (.slice ad l.length c) (.slice none 0 0)).run Tryz.prog wx= .ok (.bool ad.isNone) wx:=fun wx=>Lib.run_eql_slice_nil wx _ _ ad _ c 0 0 Tryz.underlying39
 cases ad with
 | none=>
   have hl:l.length=0:=by
    rcases Nat.eq_zero_or_pos l.length with h0 | h0
    · exact h0
    · obtain⟨b,off,e1,_⟩:=hcell (by omega);cases e1
   have hl2:l= []:=List.eq_nil_of_length_eq_zero hl;have HF:=hQ hF;have HL:=hQ hl2;clear hF hx hcell hh hl2 hl;go_enter Tryz.func102,Tryz.ntmps102
   go_wp2;go_ret;refine⟨_,rfl,?_,Stays.refl w⟩;have h1:=HF.out;have h2:=HL.out;subst h2;rw [← Sat.emp, ← Row.nil 5 1] at h1;exact h1
 | some ad=>
   have hnew:Sat ((Row 5 1 (.slice (some ⟨w.heap.size,0,none⟩) 0 0) 0 []).star F) (w.alloc (.cells #[] 5)):=
    Row.mk' (xs:= []) (sp:= []) (by simp) (by simp) (Nat.le_refl _) (by simp) (by simpa using hF.alloc (.cells #[] 5))
   have hle:h.le (w.alloc (.cells #[] 5)):=fun k o e=>(Below.heap_alloc w _ k (Array.getElem?_eq_some_iff.1 (hh k o e)).1).trans (hh k o e)
   have HF:=hQ hnew;have HX:=hQ hx;have HH:=hQ hle;clear hF hx hcell hh hnew hle;go_enter Tryz.func102,Tryz.ntmps102
   obtain⟨i0,hi,hz0,hz1,hz2⟩:=info_parts infoByte;go_wp2_with (at_builtin;refine wpList_append_row rfl _ _ _ rfl 5 i0 (.int .u8 0) 1 1 Tryz.underlying39 hi hz0 hz1 hz2 rfl _ _ _ rfl HF.out h HH.out _ _ _ rfl HX.out (by simp [Value.oneCell']) (by simp only [maxLen];omega) (by omega) ?_;intro v' w1 hsat hgr _;have HSAT:=hQ hsat;clear hsat)
   go_ret;refine⟨_,rfl,?_,((Stays.refl w).alloc _).of_grown hgr⟩;have h1:=HSAT.out;rw [Nat.zero_add,List.nil_append] at h1;exact h1
theorem bclone_any(h:Hp)(v:Value)(l:List Int)(F:Pr)(w:World)(hF:Sat F w)(hh:h.le w)(hx:Bytes h v l)(hn:l.length≤65536):
 Calls Tryz.prog 68 #[v] w fun e w'=> ∃v',e= .returned v'∧Sat ((BytesRow v' l).star F) w'∧Stays w w':=by
 obtain⟨_,ad,c,rfl,hnc,hcm,hcell⟩:=id hx;have he:∀wx:World,(binOp .eql 39 (.slice ad l.length c) (.slice none 0 0)).run Tryz.prog wx= .ok (.bool ad.isNone) wx:=fun wx=>Lib.run_eql_slice_nil wx _ _ ad _ c 0 0 Tryz.underlying39
 cases ad with
 | none=>
   have hl:l.length=0:=by
    rcases Nat.eq_zero_or_pos l.length with h0 | h0
    · exact h0
    · obtain⟨b,off,e1,_⟩:=hcell (by omega);cases e1
   have hl2:l= []:=List.eq_nil_of_length_eq_zero hl;have HF:=hQ hF;have HL:=hQ hl2;clear hF hx hcell hh hl2 hl;go_enter Tryz.func68,Tryz.ntmps68
   go_wp2;go_ret;refine⟨_,rfl,?_,Stays.refl w⟩;have h1:=HF.out;have h2:=HL.out;subst h2;rw [← Sat.emp, ← Row.nil 5 1] at h1;exact h1
 | some ad=>
   have hnew:Sat ((Row 5 1 (.slice (some ⟨w.heap.size,0,none⟩) 0 0) 0 []).star F) (w.alloc (.cells #[] 5)):=
    Row.mk' (xs:= []) (sp:= []) (by simp) (by simp) (Nat.le_refl _) (by simp) (by simpa using hF.alloc (.cells #[] 5))
   have hle:h.le (w.alloc (.cells #[] 5)):=fun k o e=>(Below.heap_alloc w _ k (Array.getElem?_eq_some_iff.1 (hh k o e)).1).trans (hh k o e)
   have HF:=hQ hnew;have HX:=hQ hx;have HH:=hQ hle;clear hF hx hcell hh hnew hle;go_enter Tryz.func68,Tryz.ntmps68
   obtain⟨i0,hi,hz0,hz1,hz2⟩:=info_parts infoByte;go_wp2_with (at_builtin;refine wpList_append_row rfl _ _ _ rfl 5 i0 (.int .u8 0) 1 1 Tryz.underlying39 hi hz0 hz1 hz2 rfl _ _ _ rfl HF.out h HH.out _ _ _ rfl HX.out (by simp [Value.oneCell']) (by simp only [maxLen];omega) (by omega) ?_;intro v' w1 hsat hgr _;have HSAT:=hQ hsat;clear hsat)
   go_ret;refine⟨_,rfl,?_,((Stays.refl w).alloc _).of_grown hgr⟩;have h1:=HSAT.out;rw [Nat.zero_add,List.nil_append] at h1;exact h1
end Go.Proofs.YtkfjilnmnbeokaaGreat.G2
namespace Go.Sl
open Go.RowKit
section
variable {α:Type}
def big(f:α→Pr)(l:List α):Pr:=starL (l.map f)
theorem big_nil(f:α→Pr):big f []=Pr.emp:=rfl
theorem big_cons(f:α→Pr)(x:α)(l:List α):big f (x :: l)=(f x).star (big f l):=rfl
theorem big_append(f:α→Pr):∀(l m:List α),big f (l++m)=(big f l).star (big f m)
 | [],m=>by rw [big_nil,Pr.emp_star];rfl
 | x :: l,m=>by
   show (f x).star (big f (l++m))=((f x).star (big f l)).star (big f m)
   rw [big_append f l m,Pr.star_assoc]
theorem big_one(f:α→Pr)(x:α):big f [x]=f x:=Pr.star_emp _
theorem big_snoc(f:α→Pr)(l:List α)(x:α):big f (l++ [x])=(f x).star (big f l):=by rw [big_append,big_one,Pr.star_comm]
theorem big_at(f:α→Pr):∀(l:List α) (i:Nat) (h:i<l.length),big f l=(f l[i]).star (big f (l.eraseIdx i))
 | [],_,h=>absurd h (by simp)
 | x :: l,0,_=>rfl
 | x :: l,i+1,h=>by
   have hi:i<l.length:=by simpa using h
   show (f x).star (big f l)=(f l[i]).star ((f x).star (big f (l.eraseIdx i)))
   rw [big_at f l i hi,Pr.left_comm]
end
section
variable {L R:List Pr}{w:World}{F:Pr}
theorem OwnL.take {α:Type}(f:α→Pr)(l:List α)(i:Nat)(h:i<l.length)(o:OwnL L w) [k:Pull (big f l) L R]:OwnL (f l[i] :: big f (l.eraseIdx i) :: R) w:=
 ⟨(o.pull1 (A1:=big f l)).perm (by rw [big_at f l i h,Pr.star_assoc];rfl)⟩
theorem OwnL.snoc {α:Type}(f:α→Pr)(l:List α)(y:α)(o:OwnL L w){R2:List Pr} [k:Pull (f y) L R] [k2:Pull (big f l) R R2]:OwnL (big f (l++ [y]) :: R2) w:=
 ⟨(o.pull2 (A1:=f y) (A2:=big f l)).perm (by rw [← Pr.star_assoc, ← big_snoc];rfl)⟩
theorem OwnL.nothing {α:Type}(f:α→Pr)(o:OwnL L w):OwnL (big f [] :: L) w:=⟨by show Sat (Pr.emp.star (starL L)) w;rw [Pr.emp_star];exact o.sat⟩
theorem OwnL.emp(o:OwnL L w):OwnL (Pr.emp :: L) w:=⟨by show Sat (Pr.emp.star (starL L)) w;rw [Pr.emp_star];exact o.sat⟩
theorem OwnL.join2 {R2:List Pr}(A B:Pr)(o:OwnL L w) [k:Pull A L R] [k2:Pull B R R2]:OwnL (A.star B :: R2) w:=⟨(o.pull2 (A1:=A) (A2:=B)).perm (by rw [← Pr.star_assoc];rfl)⟩
theorem OwnL.join3 {R2 R3:List Pr}(A B C:Pr)(o:OwnL L w) [k:Pull A L R] [k2:Pull B R R2] [k3:Pull C R2 R3]:OwnL (A.star (B.star C) :: R3) w:=⟨(o.pull3 (A1:=A) (A2:=B) (A3:=C)).perm (by rw [← Pr.star_assoc, ← Pr.star_assoc,Pr.star_assoc A];rfl)⟩
theorem Row.at1 {T:Nat}{a:Option Addr}{n c:Nat}{xs:List Value}(h:Sat ((Row T 1 (.slice a n c) n xs).star F) w)(i:Nat)(hi:i<n):
 ∃b u,a=some ⟨b,0,none⟩∧xs[i]? =some u∧w.cell? ⟨b,i,none⟩=some u∧w.frozen? ⟨b,i,none⟩=false∧b<w.heap.size:=by
 obtain⟨_,_,e,hl,hc⟩:=Row.read h;cases e;obtain⟨b,eb,hd⟩:=hc (by omega);have h1:=(hd i (by omega)).1;rw [List.getElem?_eq_getElem (by omega)] at h1;exact⟨b,_,eb,List.getElem?_eq_getElem (by omega),h1,(hd i (by omega)).2,World.block_lt_of_cell? _ _ h1⟩
theorem Row.put1 {T k b c n:Nat}{xs:List Value}(h:Sat ((Row T k (.slice (some ⟨b,0,none⟩) n c) n xs).star F) w)(i:Nat)(hi:i<xs.length)(v:Value):
 Sat ((Row T k (.slice (some ⟨b,0,none⟩) n c) n (xs.set i v)).star F) (w.setCell ⟨b,i,none⟩ v):=by
 obtain⟨hl,(⟨e,_,_⟩ | ⟨b',cap,sp,e,h1,h2,h3,h4⟩)⟩:=Row.open' h
 · cases e
 · cases e
   have h5:=h4.setCell (i:=i) v;refine Row.mk' (sp:=sp) (by simpa using hl) (by simpa using h1) h2 h3 ?_
   have e6:(xs.set i v++sp).toArray=(xs++sp).toArray.setIfInBounds i v:=by
    rw [List.setIfInBounds_toArray,List.set_append_left _ _ hi]
   rw [e6];exact h5
theorem Row.shape {T k:Nat}{v:Value}{n:Nat}{xs:List Value}(h:Sat ((Row T k v n xs).star F) w):∃a c,v= .slice a n c:=by
 obtain⟨a,c,e,_⟩:=Row.read h;exact⟨a,c,e⟩
end
theorem fresh_cells(w:World)(l:List Value)(T:TypeId):∀j u,l[j]? =some u→(w.alloc (.cells l.toArray T)).cell? ((⟨w.heap.size,0,none⟩:Addr).add j)=some u:=by
 intro j u hj;rw [add_cell,cell_of_heap (heap_new _ _)];simpa using hj
end Go.Sl
namespace Go.Sl
structure Only(w w':World):Prop where
 st:Stays w w'
 heap:∀k,k<w.heap.size→w'.heap[k]? =w.heap[k]?
theorem Only.refl(w:World):Only w w:=⟨Stays.refl w,fun _ _=>rfl⟩
theorem Only.trans {a b c:World}(h:Only a b)(k:Only b c):Only a c:=⟨h.st.trans k.st,fun i hi=>(k.heap i (Nat.lt_of_lt_of_le hi h.st.size)).trans (h.heap i hi)⟩
theorem Only.alloc {a w:World}(h:Only a w)(o:Obj):Only a (w.alloc o):=h.trans ⟨(Stays.refl w).alloc o,fun k hk=>Go.RowKit.Below.heap_alloc w o k hk⟩
theorem Only.drew {a w:World}(h:Only a w):Only a w.drew:=h.trans ⟨(Stays.refl w).drew,fun _ _=>rfl⟩
theorem Only.drewN {a w:World}(h:Only a w)(n:Nat):Only a (w.drewN n):=h.trans ⟨(Stays.refl w).drewN n,fun _ _=>rfl⟩
theorem Only.setCell {a w:World}(h:Only a w){b i:Nat}(hb:a.heap.size≤b)(v:Value):Only a (w.setCell ⟨b,i,none⟩ v):=
 ⟨h.st.setCell _ _,fun k hk=>(Go.RowKit.Below.heap_setCell _ _ _ _ (by dsimp only;omega)).trans (h.heap k hk)⟩
theorem Only.cell {w w':World}(h:Only w w'){b i:Nat}{v:Value}(hc:w.cell? ⟨b,i,none⟩=some v):w'.cell? ⟨b,i,none⟩=some v:=by
 have hb:b<w.heap.size:=by
  rcases Nat.lt_or_ge b w.heap.size with h1 | h1
  · exact h1
  · unfold World.cell? at hc;simp [Array.getElem?_eq_none h1] at hc
 unfold World.cell? at hc ⊢;dsimp only at hc ⊢;rw [h.heap b hb];exact hc
theorem Sat.only {A:Pr}{w w':World}(h:Sat A w)(ho:Only w w'):Sat A w':=h.ext ho.heap
end Go.Sl
namespace Go.Proofs.YtkfjilnmnbeokaaGreat.J2
open ChangeShapes WideShapes ChangeAt RowKit Sl Cop G2
abbrev pageV(kind level:Int)(vi vd:Value)(next:Int):Value:= .agg #[.int .i64 kind,.int .i64 level,vi,vd,.int .i64 next]
theorem isPage_any(n:Int)(w:World):Calls Tryz.prog 146 #[.int .i64 n] w fun e w'=>e= .returned (.bool (decide (1≤n∧n≤65536)))∧w=w':=by
 by_cases h1:1≤n
 · by_cases h2:n≤65536
   · go_enter Tryz.func146,Tryz.ntmps146
     go_wp2;go_ret;simp [h1,h2]
   · go_enter Tryz.func146,Tryz.ntmps146
     go_wp2;go_ret;simp [h2]
 · go_enter Tryz.func146,Tryz.ntmps146
   go_wp2;go_ret;simp;omega
theorem must_true(x:Int)(b:Nat)(w:World):Calls Tryz.prog 144 #[.bool true,.int .i64 x,.pointer (some ⟨b,0,none⟩)] w fun e w'=>e= .returned (.tuple #[])∧w=w':=by
 go_enter Tryz.func144,Tryz.ntmps144
 go_wp2;first | refine bodyPost_ret (results_none rfl _ _ _) rfl ?_ | go_end0
 exact⟨rfl,rfl⟩
theorem form_blob(ai ad:Option Addr)(ci n c:Nat)(next:Int)(hn:1≤n∧n≤480)(w:World):
 Calls Tryz.prog 145 #[pageV 3 0 (.slice ai 0 ci) (.slice ad n c) next] w fun e w'=>e= .returned (.bool true)∧Only w w':=by
 have h0:((n:Int) == 0)=false:=by rw [beq_eq_false_iff_ne];omega
 go_enter Tryz.func145,Tryz.ntmps145
 go_wp2;go_region
 go_wp2;go_ret;refine⟨?_,((Only.refl w).alloc _).drew⟩;simp;omega
theorem check_blob(ai ad:Option Addr)(ci n c:Nat)(next:Int)(hn:1≤n∧n≤480)(hx:next=0∨1≤next∧next≤65536)(w:World):
 Calls Tryz.prog 105 #[pageV 3 0 (.slice ai 0 ci) (.slice ad n c) next] w fun e w'=>e= .returned (.int .i64 0)∧Only w w':=by
 have FB:=fun wx=>hQ (form_blob ai ad ci n c next hn wx)
 go_enter Tryz.func105,Tryz.ntmps105
 go_wp2_with fail
 refine(must_true _ _ _).mono ?_;rintro e w1 ⟨rfl,rfl⟩;go_wp2_with fail
 refine(FB _).out.mono ?_;rintro e w2 ⟨rfl,ho⟩;have q1:=ho.cell (b:=w.heap.size+1) (i:=0) (v:= .int .i64 0) (by go_simp);have q2:=ho.cell (b:=w.heap.size) (i:=2) (v:= .slice ai 0 ci) (by go_simp);have q3:=ho.cell (b:=w.heap.size) (i:=4) (v:= .int .i64 next) (by go_simp);go_wp2_with fail
 refine(must_true _ _ _).mono ?_;rintro e w3 ⟨rfl,rfl⟩;have HO:=hQ ho;clear ho FB;go_wp2_with fail
 go_loopw [30] (fun i wr=>i= .int .i64 0∧wr=w2) (fun _ _=>0)
 case atStart=>exact⟨rfl,rfl⟩
 case round=>
  obtain⟨rfl,rfl⟩:=hrel;rcases hx with rfl | hx
  · go_wp2_with fail
    refine(must_true _ _ _).mono ?_;rintro e w3 ⟨rfl,rfl⟩;go_wp2;go_ret;exact⟨rfl,(((Only.refl w).alloc _).alloc _).trans HO.out⟩
  · have h0:(next == 0)=false:=by rw [beq_eq_false_iff_ne];omega
    have hd:decide (1≤next∧next≤65536)=true:=by simpa using hx
    go_wp2_with fail
    refine(isPage_any _ _).mono ?_;rintro e w3 ⟨rfl,rfl⟩;rw [hd];go_wp2_with fail
    refine(must_true _ _ _).mono ?_;rintro e w3 ⟨rfl,rfl⟩;go_wp2;go_ret;exact⟨rfl,(((Only.refl w).alloc _).alloc _).trans HO.out⟩
end Go.Proofs.YtkfjilnmnbeokaaGreat.J2
namespace Go.Sl
open Go.RowKit
theorem OwnL.fresh {L:List Pr}{w:World}(o:OwnL L w)(l:List Value)(T:TypeId)(b:Nat)(hb:w.heap.size=b):
 OwnL (Pr.pts b (.cells l.toArray T) :: L) (w.alloc (.cells l.toArray T))∧∀j u,l[j]? =some u→(w.alloc (.cells l.toArray T)).cell? ((⟨b,0,none⟩:Addr).add j)=some u:=by
 subst hb;exact⟨o.alloc _,fresh_cells w l T⟩
end Go.Sl
namespace Go.Proofs.YtkfjilnmnbeokaaGreat.M2
open ChangeShapes WideShapes ChangeAt RowKit Sl Cop
theorem wpList_min {ops:Array Oper}{rest:List Oper}{o:Oper}{ac:Act}{Q:Exit→Act→World→Prop}{w:World}(hgd:o.guard=none)(x y:Operand)(hop:o.op= .call { callee:= .builtin .min,args:= #[x,y],argTypes:= #[3,3] })
 (hty:o.type=3) (a b n:Int) (hn:n=min a b) (hx:ac.eval x= .int .i64 a) (hy:ac.eval y= .int .i64 b) (hK:wpList Tryz.prog ops Q rest (ac.put o.dst (.int .i64 n)) w):wpList Tryz.prog ops Q (o :: rest) ac w:=by
 refine wpList_plain hgd fun K' hK'=> ?_
 subst hn;unfold Oper.wp execOp;simp only [hop,resolve,invoke,builtin,Sem.run_bind,Sem.run_pure,Result.andThen_ok,List.map_toArray,List.map_cons,List.map_nil,hx,hy,hty];by_cases h:b<a
 · have e:min a b=b:=by omega
   rw [e] at hK;go_simp;exact hK' _ _ hK
 · have e:min a b=a:=by omega
   rw [e] at hK;go_simp;exact hK' _ _ hK
theorem slice_to(T e:TypeId)(hu:Tryz.prog.underlying T=some (.slice e))(k:Nat)(hz:∀w:World,(Go.sizeOf e).run Tryz.prog w= .ok k w)(a:Option Addr)(len cap n:Nat)(hn:n≤cap)(w:World):(Instr.sliceAt T (.slice a len cap) none (some (.int .i64 (n:Int))) none).run Tryz.prog w= .ok (.slice a n cap) w:=by
 have h0:(0:Int)≤(n:Int):=by omega
 have h1:(n:Int)≤(cap:Int):=by omega
 cases a with
 | none=>go_simp
 | some x=>
   by_cases hc:cap=0
   · subst hc
     obtain rfl:n=0:=by omega
     go_simp
   · go_simp
theorem wpList_slice_to {ops:Array Oper}{rest:List Oper}{o:Oper}{ac:Act}{Q:Exit→Act→World→Prop}{w:World}(hgd:o.guard=none)(T e:TypeId)(x h:Operand)(hop:o.op=Op.slice T x none (some h) none)(hu:Tryz.prog.underlying T=some (.slice e))(k:Nat)(hz:∀w:World,(Go.sizeOf e).run Tryz.prog w= .ok k w)(a:Option Addr)(len cap n:Nat)(hn:n≤cap)
 (hx:ac.eval x= .slice a len cap) (hh:ac.eval h= .int .i64 (n:Int)) (hK:wpList Tryz.prog ops Q rest (ac.put o.dst (.slice a n cap)) w):wpList Tryz.prog ops Q (o :: rest) ac w:=by
 refine wpList_plain hgd fun K' hK'=> ?_
 have hr:=slice_to T e hu k hz a len cap n hn w;unfold Oper.wp;simp [execOp,hop,hx,hh,hr,Result.andThen]
 exact hK' _ _ hK
end Go.Proofs.YtkfjilnmnbeokaaGreat.M2
namespace Go.Proofs.YtkfjilnmnbeokaaGreat.N2
open ChangeShapes WideShapes ChangeAt RowKit Sl Cop G2 J2
theorem bytes_rd {h:Hp}{v:Value}{V:List Int}(hb:Bytes h v V):∃a c,v= .slice a V.length c∧∀i,i<V.length→∃b off,a=some ⟨b,off,none⟩∧∀w,h.le w→w.cell? ⟨b,off+i,none⟩=some (.int .u8 (V.getD i 0)):=by
 obtain⟨hl,a,c,e,_,_,hc⟩:=hb;refine⟨a,c,e,fun i hi=> ?_⟩;obtain⟨b,off,e1,e2⟩:=hc (by omega);refine⟨b,off,e1,fun w hw=> ?_⟩;refine Hp.cell_le hw ((e2 i (by omega)).trans ?_);simp [hi]
theorem compare_same(ha hb:Hp)(va vb:Value)(V:List Int)(h1:Bytes ha va V)(h2:Bytes hb vb V)(hn:V.length≤9000000000000000000)(w:World)(l1:ha.le w)(l2:hb.le w):
 Calls Tryz.prog 58 #[va,vb] w fun e w'=>e= .returned (.int .i64 0)∧Only w w':=by
 obtain⟨a,c,rfl,r1⟩:=bytes_rd h1;obtain⟨a',c',rfl,r2⟩:=bytes_rd h2;have R1:=hQ r1;have R2:=hQ r2;have L1:=hQ l1;have L2:=hQ l2;clear r1 r2 h1 h2 l1 l2;go_enter Tryz.func58,Tryz.ntmps58
 go_wp2;go_loopw [5] (fun i wr=> ∃k:Nat,k≤V.length∧i= .int .i64 k∧Only w wr) (fun i _=>V.length-(intOf i).toNat)
 case atStart=>exact⟨0,Nat.zero_le _,rfl,Only.refl w⟩
 case round=>
  obtain⟨k,hk,rfl,ho⟩:=hrel;rcases Nat.lt_or_ge k V.length with hlt | hge
  · obtain⟨b,off,rfl,c1⟩:=R1.out k hlt
    obtain⟨b',off',rfl,c2⟩:=R2.out k hlt;have q1:=c1 wr (fun k o e=>(ho.heap k (Array.getElem?_eq_some_iff.1 (L1.out k o e)).1).trans (L1.out k o e));have q2:=c2 wr (fun k o e=>(ho.heap k (Array.getElem?_eq_some_iff.1 (L2.out k o e)).1).trans (L2.out k o e));have HO:=hQ ho;clear c1 c2 ho;generalize V.getD k 0=x at*;go_wp2;go_region
    go_wp2;go_region
    go_wp2;go_roundw
    case rel=>exact⟨k+1,by omega,by go_num,HO.out.drew.drew⟩
    case measure=>simp [intOf];omega
  · have hkl:k=V.length:=by omega
    subst hkl;go_wp2;go_ret;exact⟨rfl,ho⟩
theorem eq_same(ha hb:Hp)(va vb:Value)(V:List Int)(h1:Bytes ha va V)(h2:Bytes hb vb V)(hn:V.length≤9000000000000000000)(w:World)(l1:ha.le w)(l2:hb.le w):
 Calls Tryz.prog 31 #[va,vb] w fun e w'=>e= .returned (.bool true)∧Only w w':=by
 have C:=hQ (compare_same ha hb va vb V h1 h2 hn w l1 l2);clear h1 h2 l1 l2;go_enter Tryz.func31,Tryz.ntmps31
 go_wp2_with fail
 refine C.out.mono ?_;rintro e w' ⟨rfl,ho⟩;go_wp2;go_ret;exact⟨rfl,ho⟩
end Go.Proofs.YtkfjilnmnbeokaaGreat.N2
namespace Go.Cop
def cmpI:List Int→List Int→Int
 | [],[]=>0
 | [],_ :: _=> -1
 | _ :: _,[]=>1
 | x :: a,y :: b=>if x<y then -1 else if y<x then 1 else cmpI a b
def U8(l:List Int):Prop:= ∀z∈l,0≤z∧z≤255
theorem u8_lt {x y:Int}(hx:0≤x∧x≤255)(hy:0≤y∧y≤255):(x.toNat.toUInt8<y.toNat.toUInt8)↔x<y:=by
 rw [UInt8.lt_iff_toNat_lt];have e1:x.toNat.toUInt8.toNat=x.toNat:=by simp;omega
 have e2:y.toNat.toUInt8.toNat=y.toNat:=by simp;omega
 rw [e1,e2];omega
theorem cmp_map:∀ {a b:List Int},U8 a→U8 b→Lib.compareBytes (a.map fun z=>z.toNat.toUInt8) (b.map fun z=>z.toNat.toUInt8)=cmpI a b
 | [],[],_,_=>rfl
 | [],_ :: _,_,_=>rfl
 | _ :: _,[],_,_=>rfl
 | x :: a,y :: b,ha,hb=>by
   have ih:=cmp_map (a:=a) (b:=b) (fun z hz=>ha z (by simp [hz])) (fun z hz=>hb z (by simp [hz]));have hx:=ha x (by simp);have hy:=hb y (by simp);simp only [List.map_cons,Lib.compareBytes,cmpI,u8_lt hx hy,u8_lt hy hx,ih]
theorem cmp_self(a:List Int):cmpI a a=0:=by
 induction a with
 | nil=>rfl
 | cons x a ih=>simp [cmpI,ih]
theorem cmp_anti(a b:List Int):cmpI a b= -cmpI b a:=by
 induction a generalizing b with
 | nil=>cases b<;>simp [cmpI]
 | cons x a ih=>
   cases b with
   | nil=>simp [cmpI]
   | cons y b=>
     simp only [cmpI];by_cases h1:x<y
     · have:¬y<x:=by omega
       simp [h1,this]
     · by_cases h2:y<x<;>simp [h1,h2,ih b]
theorem cmp_step {A B:List Int}{k:Nat}(ha:k<A.length)(hb:k<B.length)(h:cmpI A B=cmpI (A.drop k) (B.drop k)):
 cmpI A B=if A.getD k 0<B.getD k 0 then -1 else if B.getD k 0<A.getD k 0 then 1 else cmpI (A.drop (k+1)) (B.drop (k+1)):=by
 rw [h,List.drop_eq_getElem_cons ha,List.drop_eq_getElem_cons hb];simp [cmpI,ha,hb]
theorem cmp_end {A B:List Int}{k:Nat}(hk:k≤A.length∧k≤B.length)(he:k=A.length∨k=B.length)(h:cmpI A B=cmpI (A.drop k) (B.drop k)):
 cmpI A B=if A.length<B.length then -1 else if B.length<A.length then 1 else 0:=by
 rw [h];rcases he with rfl | rfl
 · rw [List.drop_length]
   by_cases h1:A.length<B.length
   · rw [if_pos h1,List.drop_eq_getElem_cons h1];rfl
   · rw [if_neg h1,if_neg (by omega),List.drop_of_length_le (by omega)];rfl
 · rw [List.drop_length]
   by_cases h1:B.length<A.length
   · rw [if_neg (by omega),if_pos h1,List.drop_eq_getElem_cons h1];rfl
   · rw [if_neg (by omega),if_neg h1,List.drop_of_length_le (by omega)];rfl
end Go.Cop
namespace Go.Proofs.YtkfjilnmnbeokaaGreat.P2
open ChangeShapes WideShapes ChangeAt RowKit Sl Cop G2 J2 N2
theorem compare_any(ha hb:Hp)(va vb:Value)(A B:List Int)(h1:Bytes ha va A)(h2:Bytes hb vb B)(hn:A.length≤9000000000000000000)(w:World)(l1:ha.le w)(l2:hb.le w):
 Calls Tryz.prog 58 #[va,vb] w fun e w'=>e= .returned (.int .i64 (cmpI A B))∧Only w w':=by
 obtain⟨a,c,rfl,r1⟩:=bytes_rd h1;obtain⟨a',c',rfl,r2⟩:=bytes_rd h2;have R1:=hQ r1;have R2:=hQ r2;have L1:=hQ l1;have L2:=hQ l2;clear r1 r2 h1 h2 l1 l2;go_enter Tryz.func58,Tryz.ntmps58
 go_wp2;go_loopw [5] (fun i wr=> ∃k:Nat,k≤A.length∧k≤B.length∧i= .int .i64 k∧Only w wr∧Hid (cmpI A B=cmpI (A.drop k) (B.drop k))) (fun i _=>A.length-(intOf i).toNat)
 case atStart=>exact⟨0,Nat.zero_le _,Nat.zero_le _,rfl,Only.refl w,hQ rfl⟩
 case round=>
  obtain⟨k,hk,hk2,rfl,ho,hc⟩:=hrel;by_cases hlt:k<A.length∧k<B.length
  · obtain⟨hlt1,hlt2⟩:=hlt
    obtain⟨b,off,rfl,c1⟩:=R1.out k hlt1;obtain⟨b',off',rfl,c2⟩:=R2.out k hlt2;have q1:=c1 wr (fun k o e=>(ho.heap k (Array.getElem?_eq_some_iff.1 (L1.out k o e)).1).trans (L1.out k o e));have q2:=c2 wr (fun k o e=>(ho.heap k (Array.getElem?_eq_some_iff.1 (L2.out k o e)).1).trans (L2.out k o e));have HO:=hQ ho;have HC:=hQ (cmp_step hlt1 hlt2 hc.out);clear c1 c2 ho hc;generalize A.getD k 0=x at*
    generalize B.getD k 0=y at*;by_cases hxy:x<y
    · go_wp2
      go_region
      go_wp2;go_ret;have:=HC.out
      rw [if_pos hxy] at this;rw [this];exact⟨rfl,HO.out.drew⟩
    · by_cases hyx:y<x
      · go_wp2
        go_region
        go_wp2;go_region
        go_wp2;go_ret;have:=HC.out
        rw [if_neg (by omega),if_pos hyx] at this;rw [this];exact⟨rfl,HO.out.drew.drew⟩
      · go_wp2
        go_region
        go_wp2;go_region
        go_wp2;go_roundw
        case rel=>
         have:=HC.out
         rw [if_neg (by omega),if_neg (by omega)] at this;exact⟨k+1,by omega,by omega,congrArg (Value.int .i64) (by omega),HO.out.drew.drew,hQ this⟩
        case measure=>simp [intOf];omega
  · have HC:=hQ (cmp_end ⟨hk,hk2⟩ (by omega) hc.out)
    clear hc;have hlt2:¬(k<A.length∧k<B.length):=hlt;rcases Nat.lt_trichotomy A.length B.length with h | h | h
    · have hkA:k=A.length:=by omega
      subst hkA;go_wp2;go_ret;have:=HC.out
      rw [if_pos h] at this;rw [this];exact⟨rfl,ho⟩
    · have hkA:k=A.length:=by omega
      subst hkA;have hE:=HC.out;rw [if_neg (by omega),if_neg (by omega)] at hE;rw [hE];have h9:=hQ h;have hd1:¬((A.length:Int)<(B.length:Int)):=by omega
      have hd2:¬((B.length:Int)<(A.length:Int)):=by omega
      clear h;go_wp2;go_ret;exact⟨rfl,ho⟩
    · have hkA:k=B.length:=by omega
      subst hkA;go_wp2;go_ret;have:=HC.out
      rw [if_neg (by omega),if_pos h] at this;rw [this];exact⟨rfl,ho⟩
theorem run_bytesOf_slice(h:Hp)(v:Value)(l:List Int)(hx:Bytes h v l)(w:World)(hl:h.le w):
 ∃b:ByteArray,(Extern.Bytes.bytesOf v).run Tryz.prog w= .ok b w∧b.data.toList=l.map fun z=>z.toNat.toUInt8:=by
 obtain⟨a,c,rfl,r⟩:=bytes_rd hx;cases a with
 | none=>
   have:l= []:=by
    rcases Nat.eq_zero_or_pos l.length with h0 | h0
    · exact List.eq_nil_of_length_eq_zero h0
    · obtain⟨b,off,e,_⟩:=r 0 h0;cases e
   subst this;exact⟨.empty,rfl,rfl⟩
 | some ad=>
   refine⟨⟨ByteArray.empty.data++(Lib.bytesOf l).toArray⟩,Lib.run_loadBytesX (P:=Tryz.prog) w l ad .empty (fun j x hj=> ?_),?_⟩
   · have hjl:j<l.length:=(List.getElem?_eq_some_iff.1 hj).1
     obtain⟨b,off,e,hc⟩:=r j hjl;cases e;have e:(⟨b,off,none⟩:Addr).add j=⟨b,off+j,none⟩:=by unfold Addr.add;split<;>simp_all
     rw [e,hc w hl,List.getD_eq_getElem?_getD,hj];rfl
   · simp [Lib.bytesOf,ByteArray.empty,ByteArray.emptyWithCapacity]
     rfl
theorem run_compareSlices(ha hb:Hp)(va vb:Value)(A B:List Int)(h1:Bytes ha va A)(h2:Bytes hb vb B)(u1:U8 A)(u2:U8 B)(w:World)(l1:ha.le w)(l2:hb.le w):
 (Extern.BytealgCompare.compare #[va,vb]).run Tryz.prog w= .ok (.int .i64 (cmpI A B)) w:=by
 obtain⟨x,hx,ex⟩:=run_bytesOf_slice ha va A h1 w l1;obtain⟨y,hy,ey⟩:=run_bytesOf_slice hb vb B h2 w l2;change Sem.run Tryz.prog (do pure (goInt (Extern.BytealgCompare.cmp (← Extern.Bytes.bytesOf va) (← Extern.Bytes.bytesOf vb)))) w=_
 simp only [Sem.run_bind,Sem.run_pure,hx,hy,Result.andThen];rw [Lib.cmp_eq,ex,ey,cmp_map u1 u2];rfl
theorem bcompare_any(ha hb:Hp)(va vb:Value)(A B:List Int)(h1:Bytes ha va A)(h2:Bytes hb vb B)(u1:U8 A)(u2:U8 B)(w:World)(l1:ha.le w)(l2:hb.le w):
 Calls Tryz.prog 100 #[va,vb] w fun e w'=>e= .returned (.int .i64 (cmpI A B))∧w=w':=by
 have hr:=run_compareSlices ha hb va vb A B h1 h2 u1 u2 w l1 l2;obtain⟨a,c,rfl,_⟩:=bytes_rd h1;obtain⟨a',c',rfl,_⟩:=bytes_rd h2;have HR:=hQ hr;clear h1 h2 u1 u2 l1 l2 hr;go_enter Tryz.func100,Tryz.ntmps100
 go_wp2;rw [run_callFunc_extern Tryz.func142 (by kernel_rfl) (by kernel_rfl) (by kernel_rfl) (e:=Extern.BytealgCompare.compare) (by kernel_rfl),HR.out];simp only [Result.andThen];rw [Oper.upon_value];go_wp2;go_ret;exact⟨rfl,rfl⟩
end Go.Proofs.YtkfjilnmnbeokaaGreat.P2
namespace Go.Cop
def isPg(n:Int):Bool:=decide (1≤n∧n≤65536)
def formP(k l:Int)(n d:Nat)(nx:Int):Bool:=
 if k=1 then decide (d=0∧nx=0∧l=0∧1≤n∧n≤8)
 else if k=2 then decide (d=0∧nx=0∧1≤l∧l<12∧2≤n∧n≤8)
 else decide (l=0∧n=0∧1≤d∧d≤480)
def mustP(f:Int)(b:Bool)(e:Int):Int:=if b then f else if f=0 then e else f
end Go.Cop
namespace Go.Proofs.YtkfjilnmnbeokaaGreat.Q2
open ChangeShapes WideShapes ChangeAt RowKit Sl Cop G2 J2 N2 P2
theorem risPage_any(n:Int)(w:World):Calls Tryz.prog 61 #[.int .i64 n] w fun e w'=>e= .returned (.bool (isPg n))∧w=w':=by
 unfold isPg;by_cases h1:1≤n
 · by_cases h2:n≤65536
   · go_enter Tryz.func61,Tryz.ntmps61
     go_wp2;go_ret;simp [h1,h2]
   · go_enter Tryz.func61,Tryz.ntmps61
     go_wp2;go_ret;simp [h2]
 · go_enter Tryz.func61,Tryz.ntmps61
   go_wp2;go_ret;simp;omega
theorem must_any(f x:Int)(h:Bool)(b:Nat)(F:Pr)(w:World)(hF:Sat ((Pr.pts b (.cells #[.int .i64 f] 25)).star F) w):
 Calls Tryz.prog 144 #[.bool h,.int .i64 x,.pointer (some ⟨b,0,none⟩)] w fun e w'=>e= .returned (.tuple #[])∧Sat ((Pr.pts b (.cells #[.int .i64 (mustP f h x)] 25)).star F) w'∧Stays w w':=by
 have q:=hF.pts_heap;have q0:w.cell? ⟨b,0,none⟩=some (.int .i64 f):=by rw [cell_of_heap q];rfl
 have z0:=frozen_of_heap q 0;have HF:=hQ hF;clear hF q;cases h with
 | true=>
   go_enter Tryz.func144,Tryz.ntmps144
   go_wp2;first | refine bodyPost_ret (results_none rfl _ _ _) rfl ?_ | go_end0
   exact⟨rfl,HF.out,Stays.refl w⟩
 | false=>
   by_cases h0:f=0
   · subst h0
     go_enter Tryz.func144,Tryz.ntmps144
     go_wp2;first | refine bodyPost_ret (results_none rfl _ _ _) rfl ?_ | go_end0
     exact⟨rfl,HF.out.setCell (i:=0) (.int .i64 x),(Stays.refl w).setCell _ _⟩
   · have hb:(f == 0)=false:=by rw [beq_eq_false_iff_ne];exact h0
     go_enter Tryz.func144,Tryz.ntmps144
     go_wp2;first | refine bodyPost_ret (results_none rfl _ _ _) rfl ?_ | go_end0
     have e:mustP f false x=f:=by unfold mustP;rw [if_neg (by simp),if_neg h0]
     rw [e];exact⟨rfl,HF.out,Stays.refl w⟩
theorem form_any(ai ad:Option Addr)(n ci d cd:Nat)(k l nx:Int)(w:World):
 Calls Tryz.prog 145 #[pageV k l (.slice ai n ci) (.slice ad d cd) nx] w fun e w'=>e= .returned (.bool (formP k l n d nx))∧Only w w':=by
 have fin:∀(b:Bool),b=formP k l n d nx→Ending.returned (Value.bool b)=Ending.returned (Value.bool (formP k l n d nx)):=fun b e=>by rw [e]
 have hk:(k=1∨k=2)∨(k≠1∧k≠2):=by omega
 rcases Nat.eq_zero_or_pos d with hd | hd
 · subst hd
   rcases hk with(rfl | rfl) | ⟨h1,h2⟩
   · go_enter Tryz.func145,Tryz.ntmps145
     go_wp2;go_region
     go_wp2;all_goals (go_ret;refine⟨fin _ ?_,((Only.refl w).alloc _).drew⟩;rw [Bool.eq_iff_iff];simp [formP];try omega)
   · go_enter Tryz.func145,Tryz.ntmps145
     go_wp2;go_region
     go_wp2;all_goals (go_ret;refine⟨fin _ ?_,((Only.refl w).alloc _).drew⟩;rw [Bool.eq_iff_iff];simp [formP];try omega)
   · have e1:(k == 1)=false:=by rw [beq_eq_false_iff_ne];exact h1
     have e2:(k == 2)=false:=by rw [beq_eq_false_iff_ne];exact h2
     go_enter Tryz.func145,Tryz.ntmps145
     go_wp2;go_region
     go_wp2;all_goals (go_ret;refine⟨fin _ ?_,((Only.refl w).alloc _).drew⟩;rw [Bool.eq_iff_iff];simp [formP,h1,h2];try omega)
 · have h0:((d:Int) == 0)=false:=by rw [beq_eq_false_iff_ne];omega
   rcases hk with(rfl | rfl) | ⟨h1,h2⟩
   · go_enter Tryz.func145,Tryz.ntmps145
     go_wp2;go_region
     go_wp2;all_goals (go_ret;refine⟨fin _ ?_,((Only.refl w).alloc _).drew⟩;rw [Bool.eq_iff_iff];simp [formP];try omega)
   · go_enter Tryz.func145,Tryz.ntmps145
     go_wp2;go_region
     go_wp2;all_goals (go_ret;refine⟨fin _ ?_,((Only.refl w).alloc _).drew⟩;rw [Bool.eq_iff_iff];simp [formP];try omega)
   · have e1:(k == 1)=false:=by rw [beq_eq_false_iff_ne];exact h1
     have e2:(k == 2)=false:=by rw [beq_eq_false_iff_ne];exact h2
     go_enter Tryz.func145,Tryz.ntmps145
     go_wp2;go_region
     go_wp2;all_goals (go_ret;refine⟨fin _ ?_,((Only.refl w).alloc _).drew⟩;rw [Bool.eq_iff_iff];simp [formP,h1,h2];try omega)
theorem rform_any(ai ad:Option Addr)(n ci d cd:Nat)(k l nx:Int)(hk:k=1∨k=2∨k=3)(w:World):
 Calls Tryz.prog 56 #[pageV k l (.slice ai n ci) (.slice ad d cd) nx] w fun e w'=>e= .returned (.bool (formP k l n d nx))∧Only w w':=by
 have fin:∀(b:Bool),b=formP k l n d nx→Ending.returned (Value.bool b)=Ending.returned (Value.bool (formP k l n d nx)):=fun b e=>by rw [e]
 rcases hk with rfl | rfl | rfl
 · go_enter Tryz.func56,Tryz.ntmps56
   go_wp2;all_goals (go_ret;refine⟨fin _ ?_,((Only.refl w).alloc _)⟩;rw [Bool.eq_iff_iff];simp [formP];try omega)
 · go_enter Tryz.func56,Tryz.ntmps56
   go_wp2;all_goals (go_ret;refine⟨fin _ ?_,((Only.refl w).alloc _)⟩;rw [Bool.eq_iff_iff];simp [formP];try omega)
 · go_enter Tryz.func56,Tryz.ntmps56
   go_wp2;all_goals (go_ret;refine⟨fin _ ?_,((Only.refl w).alloc _)⟩;rw [Bool.eq_iff_iff];simp [formP];try omega)
end Go.Proofs.YtkfjilnmnbeokaaGreat.Q2
