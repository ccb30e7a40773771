/- Rows that are read: a slice that reads as cells in a part of the heap. Append of such a row onto an owned one. Plain lemmas over any program. -/
import Derived.Test.YtiegeadmgpanoaaGreatDoorL02
import Derived.Lib.AppendZeros
import Derived.Lib.BytesEntry
set_option maxRecDepth 100000
set_option maxHeartbeats 16000000
namespace Go.Sl
open Go.RowKit
def Hp.cell(h:Hp)(b i:Nat):Option Value:=match h b with
 | some (.cells c _ _)=>c[i]?
 | _=>none
theorem Hp.kG {h:Hp}{w:World}(hl:h.le w){b i:Nat}{v:Value}(e:h.cell b i=some v):w.cell? ⟨b,i,none⟩=some v:=by
 unfold Hp.cell at e;cases hb:h b with
 | none=>simp [hb] at e
 | some o=>
   rw [hb] at e;cases o<;>simp at e;rename_i c t f;simp [World.cell?,hl b _ hb,e]
def Hp.sub(a b:Hp):Prop:= ∀k o,a k=some o→b k=some o
theorem Hp.sub.trans {a b c:Hp}(h:a.sub b)(k:b.sub c):a.sub c:=fun i o e=>k i o (h i o e)
theorem Hp.fE(a b:Hp):a.sub (a.un b):=fun k o e=>by simp [Hp.un,e]
theorem Hp.fZ {a b:Hp}(h:a.zj b):b.sub (a.un b):=fun k o e=>by
 rcases h k with e' | e'
 · simp [Hp.un,e',e]
 · rw [e'] at e;cases e
theorem Hp.oo {a b:Hp}(h:a.sub b){k i:Nat}{v:Value}(e:a.cell k i=some v):b.cell k i=some v:=by
 unfold Hp.cell at e ⊢;cases ha:a k with
 | none=>simp [ha] at e
 | some o=>rw [h k o ha];rw [ha] at e;exact e
def gj(h:Hp)(k:Nat)(v:Value)(n:Nat)(xs:List Value):Prop:=
 xs.length=n*k∧∃a c,v= .slice a n c∧n≤c∧c≤maxLen∧(0<n→∃b off,a=some ⟨b,off,none⟩∧∀i,i<n*k→h.cell b (off+i)=xs[i]?)
theorem gj.nil(h:Hp)(k:Nat):gj h k (.slice none 0 0) 0 []:=⟨by simp,none,0,rfl,aD _,by simp [maxLen],fun h=>absurd h (by omega)⟩
theorem gj.sub {a b:Hp}(hs:a.sub b){k:Nat}{v:Value}{n:Nat}{xs:List Value}(h:gj a k v n xs):gj b k v n xs:=by
 obtain⟨hl,ad,c,hv,h1,h2,h3⟩:=h;refine⟨hl,ad,c,hv,h1,h2,fun hn=> ?_⟩;obtain⟨bb,off,hb,hc⟩:=h3 hn;refine⟨bb,off,hb,fun i hi=> ?_⟩;have e:=hc i hi;have hlt:i<xs.length:=by omega
 rw [ag hlt] at e ⊢;exact Hp.oo hs e
theorem Row.jh {T k:Nat}{v:Value}{n:Nat}{xs:List Value}{h:Hp}(hr:Row T k v n xs h):gj h k v n xs:=by
 obtain⟨hl,(⟨rfl,rfl,rfl⟩ | ⟨b,cap,sp,rfl,h1,h2,h3,rfl⟩)⟩:=hr
 · have:xs= []:=aM (by omega)
   subst this;exact gj.nil _ _
 · refine⟨hl,_,_,rfl,h2,h3,fun hn=>⟨b,0,rfl,fun i hi=> ?_⟩⟩
   simp [Hp.cell,bG (show i<xs.length by omega)]
theorem Sat.sf {A F:Pr}{w:World}(h:Sat (A.star F) w):∃h0,A h0∧Sat ((Pr.own h0).star F) w:=by
 obtain⟨x,⟨a,f,ha,hf,hd,rfl⟩,hl⟩:=h;exact⟨a,ha,_,⟨a,f,rfl,hf,hd,rfl⟩,hl⟩
theorem Sat.SI {h0:Hp}{A F:Pr}{w:World}(h:Sat ((Pr.own h0).star F) w)(ha:A h0):Sat (A.star F) w:=h.mono fun _ e=>by cases e;exact ha
theorem Sat.jT {a b:Hp}{F:Pr}{w:World}(h:Sat ((Pr.own a).star ((Pr.own b).star F)) w):a.zj b∧Sat ((Pr.own (a.un b)).star F) w:=by
 rw [← Pr.dP] at h;obtain⟨_,⟨_,f,⟨x,y,rfl,rfl,hd,rfl⟩,hf,hd',rfl⟩,hl⟩:=h;exact⟨hd,_,⟨_,f,rfl,hf,hd',rfl⟩,hl⟩
theorem Sat.Ig {a b:Hp}(hd:a.zj b){F:Pr}{w:World}(h:Sat ((Pr.own (a.un b)).star F) w):Sat ((Pr.own a).star ((Pr.own b).star F)) w:=by
 rw [← Pr.dP];exact h.mono fun x e=>by cases e;exact⟨a,b,rfl,rfl,hd,rfl⟩
theorem fF {A B:Pr}{h:Hp}(hs:(A.star B) h):∃a b,A a∧B b∧a.sub h∧b.sub h:=by
 obtain⟨a,b,ha,hb,hd,rfl⟩:=hs;exact⟨a,b,ha,hb,Hp.fE a b,Hp.fZ hd⟩
theorem pd {T k b n cap:Nat}{xs:List Value}{h:Hp}(hp:Pr.pts b (.cells xs.toArray T (0,0)) h)(hl:xs.length=n*k)(hc:n=cap)(hm:cap≤maxLen):gj h k (.slice (some ⟨b,0,none⟩) n cap) n xs:=by
 subst hc;exact Row.jh (T:=T) ⟨hl,.inr ⟨b,n,[],rfl,by simpa using hl,aD _,hm,by simpa using hp⟩⟩
section
variable {P:Program}{w:World}{F:Pr}
theorem qG(b off j:Nat):(⟨b,off,none⟩:Addr).add j=⟨b,off+j,none⟩:=by unfold Addr.add;split<;>simp_all
theorem xl(t ty e:TypeId)(i:TypeInfo)(z:Value)(size bytes:Nat)(ht:P.underlying t=some (.slice e))(hi:P.info? e=some i)(hz:i.zero=some z)
 (hsize:i.size=size) (hby:i.bytes=bytes) (hzs:z.cells.size=size)
 (v:Value) (n:Nat) (xs:List Value) (hown:Sat ((Row e size v n xs).star F) w)
 (h:Hp) (hh:h.le w) (vx:Value) (m:Nat) (news:List Value) (hx:gj h size vx m news) (h1:∀u∈news,u.oneCell'=true)
 (h63:n+m≤maxLen) (hbytes:(n+m)*bytes≤140737488355328):
 ∃v' w',(Builtin.append_ #[t,t] ty #[v,vx]).run P w= .ok v' w'∧Sat ((Row e size v' (n+m) (xs++news)).star F) w'∧w.grownBy w' v.ownBlock∧
  (v'= .slice none 0 0↔v= .slice none 0 0∧m=0):=by
 obtain⟨hl,ad,c,rfl,Px,hcm,hc⟩:=hx;cases ad with
 | some ad=>
   refine mW t ty e i z size bytes ht hi hz hsize hby hzs v n xs hown ad m c news hl ?_ h1 h63 hbytes;intro j u hu;have hj:j<news.length:=(cE.1 hu).1
   have hm:0<m:=by
    rcases bI m with h0 | h0
    · subst h0;simp at hl;simp [hl] at hj
    · exact h0
   obtain⟨b,off,e1,hcell⟩:=hc hm;cases e1;rw [qG];exact Hp.kG hh ((hcell j (by omega)).trans hu)
 | none=>
   have hm:m=0:=by
    rcases bI m with h0 | h0
    · exact h0
    · obtain⟨b,off,e1,_⟩:=hc h0;cases e1
   subst hm;have hn:news= []:=aM (by simpa using hl);subst hn;subst hsize;refine⟨v,w,?_,by simpa using hown,⟨rfl,rfl,rfl,aD _,fun _ _ _=>rfl⟩,by simp⟩;obtain⟨hxl,tf⟩:=Row.open' hown;rcases tf with⟨rfl,rfl,_⟩ | ⟨g,cap,sp,rfl,_,hnc,_,_⟩
   · simp [Builtin.append_,run_underlying ht,sizeOf,typeInfo,hi,Builtin.lenOf,Builtin.firstCells]
   · simp [Builtin.append_,run_underlying ht,sizeOf,typeInfo,hi,Builtin.lenOf,Builtin.firstCells,hnc,storeCells]
theorem yN {o:Oper}{a:Act}{K:Act→World→Prop}{Q:Exit→Act→World→Prop}(s x:Operand)(t:TypeId)
 (ho:o.op= .call { callee:= .builtin .append,args:= #[s,x],argTypes:= #[t,t] })
 (e:TypeId) (i:TypeInfo) (z:Value) (size bytes:Nat) (ht:P.underlying t=some (.slice e)) (hi:P.info? e=some i) (hz:i.zero=some z)
 (hsize:i.size=size) (hby:i.bytes=bytes) (hzs:z.cells.size=size)
 (v:Value) (n:Nat) (xs:List Value) (hs:a.eval s=v) (hown:Sat ((Row e size v n xs).star F) w)
 (hp:Hp) (hh:hp.le w) (vx:Value) (m:Nat) (news:List Value) (hx:a.eval x=vx) (Xe:gj hp size vx m news) (h1:∀u∈news,u.oneCell'=true)
 (h63:n+m≤maxLen) (hbytes:(n+m)*bytes≤140737488355328)
 (h:∀v' w',Sat ((Row e size v' (n+m) (xs++news)).star F) w'→w.grownBy w' v.ownBlock→(v'= .slice none 0 0↔v= .slice none 0 0∧m=0)→K (a.put o.dst v') w'):o.wp P a w K Q:=by
 obtain⟨v',w',hr,h2,h3,h4⟩:=xl (P:=P) t o.type e i z size bytes ht hi hz hsize hby hzs v n xs hown hp hh vx m news Xe h1 h63 hbytes;unfold Oper.wp execOp;simp only [ho,resolve,invoke,builtin,Sem.run_bind,Sem.run_pure,Result.andThen_ok,cT,aT,aZ,hs,hx,hr];exact h v' w' h2 h3 h4
theorem gB {ops:Array Oper}{rest:List Oper}{o:Oper}{a:Act}{Q:Exit→Act→World→Prop}(hgd:o.guard=none)(s x:Operand)(t:TypeId)
 (ho:o.op= .call { callee:= .builtin .append,args:= #[s,x],argTypes:= #[t,t] })
 (e:TypeId) (i:TypeInfo) (z:Value) (size bytes:Nat) (ht:P.underlying t=some (.slice e)) (hi:P.info? e=some i) (hz:i.zero=some z)
 (hsize:i.size=size) (hby:i.bytes=bytes) (hzs:z.cells.size=size)
 (v:Value) (n:Nat) (xs:List Value) (hs:a.eval s=v) (hown:Sat ((Row e size v n xs).star F) w)
 (hp:Hp) (hh:hp.le w) (vx:Value) (m:Nat) (news:List Value) (hx:a.eval x=vx) (Xe:gj hp size vx m news) (h1:∀u∈news,u.oneCell'=true)
 (h63:n+m≤maxLen) (hbytes:(n+m)*bytes≤140737488355328)
 (h:∀v' w',Sat ((Row e size v' (n+m) (xs++news)).star F) w'→w.grownBy w' v.ownBlock→(v'= .slice none 0 0↔v= .slice none 0 0∧m=0)→wpList P ops Q rest (a.put o.dst v') w'):wpList P ops Q (o :: rest) a w:=
 wpList_plain hgd fun _ hK=>yN s x t ho e i z size bytes ht hi hz hsize hby hzs v n xs hs hown hp hh vx m news hx Xe h1 h63 hbytes fun v' w' h2 h3 h4=>hK _ _ (h v' w' h2 h3 h4)
end
theorem dN.eH {a w w':World}{row:Option Nat}(h:dN a w)(hg:w.grownBy w' row):dN a w':=h.trans ⟨hg.os,hg.tape,hg.output,hg.size⟩
end Go.Sl
namespace Go.Proofs.YtiegeadmgpanoaaGreatDoor.D2
open ChangeShapes WideShapes ChangeAt RowKit Sl fB
theorem kY:(Tryz.prog.info? 5).map (fun i=>(i.zero,i.size,i.bytes))=some (some (.int .u8 0),1,1):=by kernel_rfl
theorem mA:(Tryz.prog.info? 3).map (fun i=>(i.zero,i.size,i.bytes))=some (some (.int .i64 0),1,8):=by kernel_rfl
abbrev Zc(b:Int):Value:= .int .u8 b
abbrev Bytes(h:Hp)(v:Value)(l:List Int):Prop:=gj h 1 v l.length (l.map (Value.int .u8))
abbrev dM(v:Value)(l:List Int):Pr:=Row 5 1 v l.length (l.map (Value.int .u8))
theorem jU(h:Hp)(v:Value)(l:List Int)(F:Pr)(w:World)(hF:Sat F w)(hh:h.le w)(hx:Bytes h v l)(hn:l.length≤65536):
 Calls Tryz.prog 96 #[v] w fun e w'=> ∃v',e= .returned v'∧Sat ((dM v' l).star F) w'∧dN w w':=by
 obtain⟨_,ad,c,rfl,hnc,hcm,hcell⟩:=id hx;have he:∀wx:World,(binOp .eql 42 (.slice ad l.length c) (.slice none 0 0)).run Tryz.prog wx= .ok (.bool ad.isNone) wx:=fun wx=>Lib.run_eql_slice_nil wx _ _ ad _ c 0 0 Tryz.underlying42
 cases ad with
 | none=>
   have hl:l.length=0:=by
    rcases bI l.length with h0 | h0
    · exact h0
    · obtain⟨b,off,e1,_⟩:=hcell (by omega);cases e1
   have hl2:l= []:=aM hl;have HF:=hQ hF;have HL:=hQ hl2;clear hF hx hcell hh hl2 hl;go_enter Tryz.func96,Tryz.ntmps96
   go_wp2;go_ret;refine⟨_,rfl,?_,dN.refl w⟩;have h1:=HF.af;have h2:=HL.af;subst h2;rw [← Sat.emp, ← Row.nil 5 1] at h1;exact h1
 | some ad=>
   have hnew:Sat ((Row 5 1 (.slice (some ⟨w.heap.size,0,none⟩) 0 0) 0 []).star F) (w.alloc (.cells #[] 5)):=
    Row.mk' (xs:= []) (sp:= []) (by simp) (by simp) (aD _) (by simp) (by simpa using hF.alloc (.cells #[] 5))
   have hle:h.le (w.alloc (.cells #[] 5)):=fun k o e=>(Below.heap_alloc w _ k (aA.1 (hh k o e)).1).trans (hh k o e)
   have HF:=hQ hnew;have HX:=hQ hx;have HH:=hQ hle;clear hF hx hcell hh hnew hle;go_enter Tryz.func96,Tryz.ntmps96
   obtain⟨i0,hi,hz0,hz1,jg⟩:=info_parts kY;go_wp2_with (at_builtin;refine gB rfl _ _ _ rfl 5 i0 (.int .u8 0) 1 1 Tryz.underlying42 hi hz0 hz1 jg rfl _ _ _ rfl HF.af h HH.af _ _ _ rfl HX.af (by simp [Value.oneCell']) (by simp only [maxLen];omega) (by omega) ?_;intro v' w1 hJ hgr _;have ja:=hQ hJ;clear hJ)
   go_ret;refine⟨_,rfl,?_,((dN.refl w).alloc _).eH hgr⟩;have h1:=ja.af;rw [Nat.zero_add,List.nil_append] at h1;exact h1
theorem xm(h:Hp)(v:Value)(l:List Int)(F:Pr)(w:World)(hF:Sat F w)(hh:h.le w)(hx:Bytes h v l)(hn:l.length≤65536):
 Calls Tryz.prog 90 #[v] w fun e w'=> ∃v',e= .returned v'∧Sat ((dM v' l).star F) w'∧dN w w':=by
 obtain⟨_,ad,c,rfl,hnc,hcm,hcell⟩:=id hx;have he:∀wx:World,(binOp .eql 42 (.slice ad l.length c) (.slice none 0 0)).run Tryz.prog wx= .ok (.bool ad.isNone) wx:=fun wx=>Lib.run_eql_slice_nil wx _ _ ad _ c 0 0 Tryz.underlying42
 cases ad with
 | none=>
   have hl:l.length=0:=by
    rcases bI l.length with h0 | h0
    · exact h0
    · obtain⟨b,off,e1,_⟩:=hcell (by omega);cases e1
   have hl2:l= []:=aM hl;have HF:=hQ hF;have HL:=hQ hl2;clear hF hx hcell hh hl2 hl;go_enter Tryz.func90,Tryz.ntmps90
   go_wp2;go_ret;refine⟨_,rfl,?_,dN.refl w⟩;have h1:=HF.af;have h2:=HL.af;subst h2;rw [← Sat.emp, ← Row.nil 5 1] at h1;exact h1
 | some ad=>
   have hnew:Sat ((Row 5 1 (.slice (some ⟨w.heap.size,0,none⟩) 0 0) 0 []).star F) (w.alloc (.cells #[] 5)):=
    Row.mk' (xs:= []) (sp:= []) (by simp) (by simp) (aD _) (by simp) (by simpa using hF.alloc (.cells #[] 5))
   have hle:h.le (w.alloc (.cells #[] 5)):=fun k o e=>(Below.heap_alloc w _ k (aA.1 (hh k o e)).1).trans (hh k o e)
   have HF:=hQ hnew;have HX:=hQ hx;have HH:=hQ hle;clear hF hx hcell hh hnew hle;go_enter Tryz.func90,Tryz.ntmps90
   obtain⟨i0,hi,hz0,hz1,jg⟩:=info_parts kY;go_wp2_with (at_builtin;refine gB rfl _ _ _ rfl 5 i0 (.int .u8 0) 1 1 Tryz.underlying42 hi hz0 hz1 jg rfl _ _ _ rfl HF.af h HH.af _ _ _ rfl HX.af (by simp [Value.oneCell']) (by simp only [maxLen];omega) (by omega) ?_;intro v' w1 hJ hgr _;have ja:=hQ hJ;clear hJ)
   go_ret;refine⟨_,rfl,?_,((dN.refl w).alloc _).eH hgr⟩;have h1:=ja.af;rw [Nat.zero_add,List.nil_append] at h1;exact h1
end Go.Proofs.YtiegeadmgpanoaaGreatDoor.D2
namespace Go.Sl
open Go.RowKit
def eJ:List Pr→Pr
 | []=>Pr.emp
 | a :: l=>a.star (eJ l)
structure dS(L:List Pr)(w:World):Prop where
 sat:Sat (eJ L) w
class j9(A:Pr)(L:List Pr)(R:outParam (List Pr)):Prop where
 eq:eJ L=A.star (eJ R)
instance j9.there(A B:Pr)(L R:List Pr) [h:j9 A L R]:j9 A (B :: L) (B :: R):=
 ⟨by show B.star (eJ L)=A.star (B.star (eJ R));rw [h.eq,Pr.eD]⟩
instance j9.here(A:Pr)(L:List Pr):j9 A (A :: L) L:=⟨rfl⟩
class ry(b:Nat)(L:List Pr)(o:outParam Obj)(R:outParam (List Pr)):Prop where
 eq:eJ L=(Pr.pts b o).star (eJ R)
instance ry.there(b:Nat)(B:Pr)(L R:List Pr)(o:Obj) [h:ry b L o R]:ry b (B :: L) o (B :: R):=
 ⟨by show B.star (eJ L)=(Pr.pts b o).star (B.star (eJ R));rw [h.eq,Pr.eD]⟩
instance ry.here(b:Nat)(o:Obj)(L:List Pr):ry b (Pr.pts b o :: L) o L:=⟨rfl⟩
class rA(v:Value)(L:List Pr)(T k n:outParam Nat)(xs:outParam (List Value))(R:outParam (List Pr)):Prop where
 eq:eJ L=(Row T k v n xs).star (eJ R)
instance rA.there(v:Value)(B:Pr)(L R:List Pr)(T k n:Nat)(xs:List Value) [h:rA v L T k n xs R]:rA v (B :: L) T k n xs (B :: R):=
 ⟨by show B.star (eJ L)=(Row T k v n xs).star (B.star (eJ R));rw [h.eq,Pr.eD]⟩
instance rA.here(v:Value)(T k n:Nat)(xs:List Value)(L:List Pr):rA v (Row T k v n xs :: L) T k n xs L:=⟨rfl⟩
class uQ(b i:Nat)(v:Value)(L:List Pr)(M:outParam (List Pr)):Prop where
 ex:∃cs t fz R,eJ L=(Pr.pts b (.cells cs t fz)).star R∧eJ M=(Pr.pts b (.cells (cs.setIfInBounds i v) t fz)).star R
instance uQ.there(b i:Nat)(v:Value)(B:Pr)(L M:List Pr) [h:uQ b i v L M]:uQ b i v (B :: L) (B :: M):=
 ⟨by
   obtain⟨cs,t,fz,R,h1,h2⟩:=h.ex
   refine⟨cs,t,fz,B.star R,?_,?_⟩
   · show B.star (eJ L)=_;rw [h1,Pr.eD]
   · show B.star (eJ M)=_;rw [h2,Pr.eD]⟩
class Ih(i:Nat)(v:Value)(l:List Value)(m:outParam (List Value)):Prop where
 eq:l.set i v=m
instance Ih.there(i:Nat)(v a:Value)(l m:List Value) [h:Ih i v l m]:Ih (i+1) v (a :: l) (a :: m):=⟨by rw [List.set_cons_succ,h.eq]⟩
instance Ih.here(v a:Value)(l:List Value):Ih 0 v (a :: l) (v :: l):=⟨rfl⟩
instance uQ.here(b i:Nat)(v:Value)(l m:List Value)(t:TypeId)(fz:Nat × Nat)(L:List Pr) [h:Ih i v l m]:uQ b i v (Pr.pts b (.cells l.toArray t fz) :: L) (Pr.pts b (.cells m.toArray t fz) :: L):=
 ⟨⟨l.toArray,t,fz,eJ L,rfl,by rw [cX,h.eq];rfl⟩⟩
def mB(w:World)(b:Nat):Nat→List Value→Prop
 | _,[]=>True
 | i,v :: l=>w.cell? ⟨b,i,none⟩=some v∧w.frozen? ⟨b,i,none⟩=false∧mB w b (i+1) l
theorem xn {w:World}{b:Nat}{cs:Array Value}{t:TypeId}(h:w.heap[b]? =some (.cells cs t (0,0))):∀(l:List Value) (i:Nat),(∀j v,l[j]? =some v→cs[i+j]? =some v)→mB w b i l
 | [],_,_=>trivial
 | v :: l,i,hl=>⟨(cell_of_heap h i).trans (by have:=hl 0 v rfl;simpa using this),frozen_of_heap h i,xn h l (i+1) fun j u hu=>by
     have:=hl (j+1) u (by simpa using hu)
     rw [show i+1+j=i+(j+1) by omega];exact this⟩
class tq(b:Nat)(L:List Pr)(P:outParam Prop):Prop where
 ne:∀(o:Obj) (w:World),Sat ((Pr.pts b o).star (eJ L)) w→P
instance tq.nil(b:Nat):tq b [] True:=⟨fun _ _ _=>trivial⟩
instance tq.skip(b:Nat)(B:Pr)(L:List Pr)(P:Prop) [h:tq b L P]:tq b (B :: L) P:=
 ⟨fun o w hs=>h.ne o w (hs.perm (B:=B.star ((Pr.pts b o).star (eJ L))) (by show (Pr.pts b o).star (B.star (eJ L))=_;rw [Pr.eD])).right⟩
instance tq.pts(b c:Nat)(o':Obj)(L:List Pr)(P:Prop) [h:tq b L P]:tq b (Pr.pts c o' :: L) (b≠c∧c≠b∧P):=
 ⟨fun o w hs=>⟨Sat.uL hs,fun e=>Sat.uL hs e.symm,h.ne o w (hs.perm (B:=(Pr.pts c o').star ((Pr.pts b o).star (eJ L))) (by show (Pr.pts b o).star ((Pr.pts c o').star (eJ L))=_;rw [Pr.eD])).right⟩⟩
class mX(L:List Pr)(w:World)(P:outParam Prop):Prop where
 facts:Sat (eJ L) w→P
instance mX.nil(w:World):mX [] w True:=⟨fun _=>trivial⟩
instance mX.skip(B:Pr)(L:List Pr)(w:World)(P:Prop) [h:mX L w P]:mX (B :: L) w P:=⟨fun hs=>h.facts hs.right⟩
instance mX.pts(b:Nat)(l:List Value)(T:TypeId)(L:List Pr)(w:World)(P N:Prop) [h:mX L w P] [k:tq b L N]:mX (Pr.pts b (.cells l.toArray T (0,0)) :: L) w ((mB w b 0 l∧b<w.heap.size∧N)∧P):=
 ⟨fun hs=>⟨⟨xn hs.dL l 0 fun j v hj=>by simpa using hj,hs.lt,k.ne _ _ hs⟩,h.facts hs.right⟩⟩
class AX(M L:List Pr):Prop where
 sub:∃R,eJ L=(eJ M).star R
instance AX.nil(L:List Pr):AX [] L:=⟨⟨eJ L,(Pr.fK _).symm⟩⟩
instance AX.refl(L:List Pr):AX L L:=⟨⟨Pr.emp,(Pr.ei _).symm⟩⟩
instance AX.cons(A:Pr)(M L R:List Pr) [h:j9 A L R] [k:AX M R]:AX (A :: M) L:=⟨by
 obtain⟨X,e⟩:=k.sub
 exact⟨X,by rw [h.eq,e, ← Pr.dP];rfl⟩⟩
section
variable {L:List Pr}{w w':World}{F:Pr}
theorem dS.ej {A1:Pr}{R1:List Pr} [k1:j9 A1 L R1](o:dS L w):Sat (A1.star (eJ R1)) w:=o.sat.perm (by rw [k1.eq])
theorem dS.ER {A1:Pr}{R1:List Pr} [k1:j9 A1 L R1](o:dS L w):Sat A1 w:=(o.ej (A1:=A1)).left
theorem dS.kS {A1:Pr}(h:Sat (A1.star (eJ L)) w):dS (A1 :: L) w:=⟨h⟩
theorem dS.Ii {A1:Pr}(h:Sat (A1.star F) w):dS [A1,F] w:=⟨h.perm (by simp only [eJ,Pr.ei])⟩
theorem dS.iQ {A1 A2:Pr}{R1 R2:List Pr} [k1:j9 A1 L R1] [k2:j9 A2 R1 R2](o:dS L w):Sat (A1.star (A2.star (eJ R2))) w:=o.sat.perm (by rw [k1.eq,k2.eq])
theorem dS.mH {A1 A2:Pr}(h:Sat (A1.star (A2.star (eJ L))) w):dS (A1 :: A2 :: L) w:=⟨h⟩
theorem dS.xp {A1 A2:Pr}(h:Sat (A1.star (A2.star F)) w):dS [A1,A2,F] w:=⟨h.perm (by simp only [eJ,Pr.ei])⟩
theorem dS.vB {A1 A2 A3:Pr}{R1 R2 R3:List Pr} [k1:j9 A1 L R1] [k2:j9 A2 R1 R2] [k3:j9 A3 R2 R3](o:dS L w):Sat (A1.star (A2.star (A3.star (eJ R3)))) w:=o.sat.perm (by rw [k1.eq,k2.eq,k3.eq])
theorem dS.Wb {A1 A2 A3:Pr}(h:Sat (A1.star (A2.star (A3.star (eJ L)))) w):dS (A1 :: A2 :: A3 :: L) w:=⟨h⟩
theorem dS.Qk {A1 A2 A3:Pr}(h:Sat (A1.star (A2.star (A3.star F))) w):dS [A1,A2,A3,F] w:=⟨h.perm (by simp only [eJ,Pr.ei])⟩
theorem dS.Co {A1 A2 A3 A4:Pr}{R1 R2 R3 R4:List Pr} [k1:j9 A1 L R1] [k2:j9 A2 R1 R2] [k3:j9 A3 R2 R3] [k4:j9 A4 R3 R4](o:dS L w):Sat (A1.star (A2.star (A3.star (A4.star (eJ R4))))) w:=o.sat.perm (by rw [k1.eq,k2.eq,k3.eq,k4.eq])
theorem dS.Zd {A1 A2 A3 A4:Pr}(h:Sat (A1.star (A2.star (A3.star (A4.star (eJ L))))) w):dS (A1 :: A2 :: A3 :: A4 :: L) w:=⟨h⟩
theorem dS.SJ {A1 A2 A3 A4:Pr}(h:Sat (A1.star (A2.star (A3.star (A4.star F)))) w):dS [A1,A2,A3,A4,F] w:=⟨h.perm (by simp only [eJ,Pr.ei])⟩
theorem dS.in7 {A1 A2 A3 A4 A5 A6 A7:Pr}(h:Sat (A1.star (A2.star (A3.star (A4.star (A5.star (A6.star (A7.star F))))))) w):dS [A1,A2,A3,A4,A5,A6,A7,F] w:=⟨h.perm (by simp only [eJ,Pr.ei])⟩
theorem dS.SK {A1 A2 A3 A4 A5 A6 A7 A8:Pr}{R1 R2 R3 R4 R5 R6 R7 R8:List Pr} [k1:j9 A1 L R1] [k2:j9 A2 R1 R2] [k3:j9 A3 R2 R3] [k4:j9 A4 R3 R4] [k5:j9 A5 R4 R5] [k6:j9 A6 R5 R6] [k7:j9 A7 R6 R7] [k8:j9 A8 R7 R8](o:dS L w):Sat (A1.star (A2.star (A3.star (A4.star (A5.star (A6.star (A7.star (A8.star (eJ R8))))))))) w:=o.sat.perm (by rw [k1.eq,k2.eq,k3.eq,k4.eq,k5.eq,k6.eq,k7.eq,k8.eq])
end
section
variable {L R R2 R3 R4 R5 R6:List Pr}{w w':World}{A B C D E G F:Pr}
theorem dS.to {M:List Pr}(o:dS L w) [h:AX M L]:dS M w:=by
 obtain⟨X,e⟩:=h.sub;exact⟨(o.sat.perm e).left⟩
theorem dS.Ql(h:Sat (eJ L) w):dS L w:=⟨h⟩
theorem dS.Ze(h:Sat F w):dS [F] w:=⟨h.perm (Pr.ei F).symm⟩
class tw(L:List Pr)(M:outParam (List Pr)):Prop where
 eq:eJ L=eJ M
instance tw.nil:tw [] []:=⟨rfl⟩
instance tw.keep(A:Pr)(L M:List Pr) [h:tw L M]:tw (A :: L) (A :: M):=⟨by show A.star (eJ L)=A.star (eJ M);rw [h.eq]⟩
instance tw.star(A B:Pr)(L M:List Pr) [h:tw (A :: B :: L) M]:tw (A.star B :: L) M:=⟨by rw [← h.eq];show (A.star B).star (eJ L)=A.star (B.star (eJ L));rw [Pr.dP]⟩
theorem dS.norm {M:List Pr}(o:dS L w) [h:tw L M]:dS M w:=⟨o.sat.perm h.eq⟩
class zt(L:List Pr)(M:outParam (List Pr)):Prop where
 eq:eJ L=eJ M
instance zt.there(A:Pr)(L M:List Pr) [h:zt L M]:zt (A :: L) (A :: M):=⟨by show A.star (eJ L)=A.star (eJ M);rw [h.eq]⟩
instance zt.here(R:List Pr):zt [eJ R] R:=⟨Pr.ei _⟩
theorem dS.flat {M:List Pr}(o:dS L w) [h:zt L M]:dS M w:=⟨o.sat.perm h.eq⟩
theorem dS.push(h:Sat (A.star (eJ L)) w)(e:A=B.star C):dS (B :: C :: L) w:=⟨by subst e;exact h.perm (Pr.dP _ _ _)⟩
theorem dS.split [h:j9 (A.star B) L R](o:dS L w):dS (A :: B :: R) w:=⟨o.sat.perm (by rw [h.eq,Pr.dP];rfl)⟩
theorem dS.alloc(o:dS L w)(x:Obj):dS (Pr.pts w.heap.size x :: L) (w.alloc x):=⟨o.sat.alloc x⟩
theorem dS.drew(o:dS L w):dS L w.drew:=⟨o.sat.drew⟩
theorem dS.drewN(o:dS L w)(n:Nat):dS L (w.drewN n):=⟨o.sat.drewN n⟩
theorem dS.set(o:dS L w)(b i:Nat)(v:Value){M:List Pr} [h:uQ b i v L M]:dS M (w.setCell ⟨b,i,none⟩ v):=by
 obtain⟨cs,t,fz,R,h1,h2⟩:=h.ex;exact⟨((o.sat.perm h1).setCell (i:=i) v).perm h2.symm⟩
theorem dS.drop(o:dS (A :: L) w):dS L w:=⟨o.sat.right⟩
theorem dS.yO(A:Pr)(o:dS L w) [h:j9 A L R]:dS R w:=⟨(o.ej (A1:=A)).right⟩
theorem dS.facts(o:dS L w){P:Prop} [h:mX L w P]:P:=h.facts o.sat
theorem dS.fx {L:List Pr}{w:World}{P Q:Prop}[h:mX L w P](o:dS L w)(e:P=Q:=by simp only [Go.Sl.mB,Nat.reduceAdd,and_true];exact rfl):Q:=e.mp o.facts
theorem dS.pts(o:dS L w)(b:Nat){x:Obj}{R:List Pr} [h:ry b L x R]:Sat ((Pr.pts b x).star (eJ R)) w:=o.sat.perm h.eq
theorem dS.row(o:dS L w)(v:Value){T k n:Nat}{xs:List Value}{R:List Pr} [h:rA v L T k n xs R]:Sat ((Row T k v n xs).star (eJ R)) w:=o.sat.perm h.eq
theorem dS.arena(A:Pr)(o:dS L w) [h:j9 A L R]:∃a,A a∧dS (Pr.own a :: R) w:=by
 obtain⟨a,ha,hs⟩:=(o.ej (A1:=A)).sf;exact⟨a,ha,⟨hs⟩⟩
theorem dS.back(A:Pr){a:Hp}(ha:A a)(o:dS L w) [h:j9 (Pr.own a) L R]:dS (A :: R) w:=⟨(o.ej (A1:=Pr.own a)).SI ha⟩
theorem dS.le {a:Hp}(o:dS L w) [h:j9 (Pr.own a) L R]:a.le w:=(o.ej (A1:=Pr.own a)).own
theorem dS.ext(o:dS L w)(ha:∀k,k<w.heap.size→w'.heap[k]? =w.heap[k]?):dS L w':=⟨o.sat.ext ha⟩
end
end Go.Sl
namespace Go.Sl
open Go.RowKit
section
variable {P:Program}{w:World}{F:Pr}
theorem lT {Fn:Fence}{nF:Nat}{ops:Array Oper}{rest:List Oper}{o:Oper}{a:Act}{Q:Exit→Act→World→Prop}(hgd:o.guard=none)(s x:Operand)(t:TypeId)
 (ho:o.op= .call { callee:= .builtin .append,args:= #[s,x],argTypes:= #[t,t] })
 (e:TypeId) (i:TypeInfo) (z:Value) (size bytes:Nat) (ht:P.underlying t=some (.slice e)) (hi:P.info? e=some i) (hz:i.zero=some z)
 (hsize:i.size=size) (hby:i.bytes=bytes) (hzs:z.cells.size=size)
 (v:Value) (n:Nat) (xs:List Value) (hs:a.eval s=v) (hown:Sat ((Row e size v n xs).star F) w)
 (ad:Addr) (m c:Nat) (news:List Value) (hx:a.eval x= .slice (some ad) m c) (hl:news.length=m*size) (hnews:∀j u,news[j]? =some u→w.cell? (ad.add j)=some u) (h1:∀u∈news,u.oneCell'=true)
 (h63:n+m≤maxLen) (hbytes:(n+m)*bytes≤140737488355328)
 (h:∀v' w',Sat ((Row e size v' (n+m) (xs++news)).star F) w'→w.grownBy w' v.ownBlock→wpListIn Fn nF P ops Q rest (a.put o.dst v') w'):wpListIn Fn nF P ops Q (o :: rest) a w:=by
 refine wpListIn_plain hgd fun K hK'=> ?_
 obtain⟨v',w',hr,h2,h3,_⟩:=mW (P:=P) t o.type e i z size bytes ht hi hz hsize hby hzs v n xs hown ad m c news hl hnews h1 h63 hbytes;unfold Oper.wpIn;refine⟨?_,?_⟩
 · simp [Oper.about,ho,resolve,Target.leads,Sem.run_pure]
 · rw [Oper.semAt_plain Fn _ _ (by rw [ho];intro c hc';cases hc')]
   simp [execOp,ho,resolve,invoke,builtin,hs,hx,hr,Result.andThen]
   exact hK' _ _ (h v' w' h2 h3)
end
end Go.Sl
namespace Go.Sl
open Go.RowKit
section
variable {P:Program}{w:World}{F:Pr}
end
end Go.Sl
namespace Go.Sl
structure eV(w w':World):Prop where
 st:dN w w'
 heap:∀k,k<w.heap.size→w'.heap[k]? =w.heap[k]?
theorem eV.refl(w:World):eV w w:=⟨dN.refl w,fun _ _=>rfl⟩
theorem eV.trans {a b c:World}(h:eV a b)(k:eV b c):eV a c:=⟨h.st.trans k.st,fun i hi=>(k.heap i (cY hi h.st.size)).trans (h.heap i hi)⟩
theorem eV.alloc {a w:World}(h:eV a w)(o:Obj):eV a (w.alloc o):=h.trans ⟨(dN.refl w).alloc o,fun k hk=>Go.RowKit.Below.heap_alloc w o k hk⟩
theorem eV.drew {a w:World}(h:eV a w):eV a w.drew:=h.trans ⟨(dN.refl w).drew,fun _ _=>rfl⟩
theorem eV.drewN {a w:World}(h:eV a w)(n:Nat):eV a (w.drewN n):=h.trans ⟨(dN.refl w).drewN n,fun _ _=>rfl⟩
theorem eV.setCell {a w:World}(h:eV a w){b i:Nat}(hb:a.heap.size≤b)(v:Value):eV a (w.setCell ⟨b,i,none⟩ v):=
 ⟨h.st.setCell _ _,fun k hk=>(Go.RowKit.Below.heap_setCell _ _ _ _ (by dsimp only;omega)).trans (h.heap k hk)⟩
theorem eV.cell {w w':World}(h:eV w w'){b i:Nat}{v:Value}(hc:w.cell? ⟨b,i,none⟩=some v):w'.cell? ⟨b,i,none⟩=some v:=by
 have hb:b<w.heap.size:=by
  rcases aB b w.heap.size with h1 | h1
  · exact h1
  · unfold World.cell? at hc;simp [Array.getElem?_eq_none h1] at hc
 unfold World.cell? at hc ⊢;dsimp only at hc ⊢;rw [h.heap b hb];exact hc
theorem Sat.only {A:Pr}{w w':World}(h:Sat A w)(ho:eV w w'):Sat A w':=h.ext ho.heap
end Go.Sl
namespace Go.Proofs.YtiegeadmgpanoaaGreatDoor.D2
open ChangeShapes WideShapes ChangeAt RowKit Sl fB
abbrev fX(kind level:Int)(vi vd:Value)(next:Int):Value:= .agg #[.int .i64 kind,.int .i64 level,vi,vd,.int .i64 next]
theorem mO(n:Int)(w:World):Calls Tryz.prog 111 #[.int .i64 n] w fun e w'=>e= .returned (.bool (decide (1≤n∧n≤65536)))∧w=w':=by
 by_cases h1:1≤n
 · by_cases h2:n≤65536
   · go_enter Tryz.func111,Tryz.ntmps111
     go_wp2;go_ret;simp [h1,h2]
   · go_enter Tryz.func111,Tryz.ntmps111
     go_wp2;go_ret;simp [h2]
 · go_enter Tryz.func111,Tryz.ntmps111
   go_wp2;go_ret;simp;omega
theorem rB(x:Int)(b:Nat)(w:World):Calls Tryz.prog 109 #[.bool true,.int .i64 x,.pointer (some ⟨b,0,none⟩)] w fun e w'=>e= .returned (.tuple #[])∧w=w':=by
 go_enter Tryz.func109,Tryz.ntmps109
 go_wp2;first | refine bodyPost_ret (results_none rfl _ _ _) rfl ?_ | go_end0
 exact⟨rfl,rfl⟩
theorem Ij(ai ad:Option Addr)(ci n c:Nat)(next:Int)(hn:1≤n∧n≤480)(w:World):
 Calls Tryz.prog 110 #[fX 3 0 (.slice ai 0 ci) (.slice ad n c) next] w fun e w'=>e= .returned (.bool true)∧eV w w':=by
 have h0:((n:Int) == 0)=false:=by rw [beq_eq_false_iff_ne];omega
 go_enter Tryz.func110,Tryz.ntmps110
 go_wp2;go_region
 go_wp2;go_ret;refine⟨?_,((eV.refl w).alloc _).drew⟩;simp;omega
theorem xq(ai ad:Option Addr)(ci n c:Nat)(next:Int)(hn:1≤n∧n≤480)(hx:next=0∨1≤next∧next≤65536)(w:World):
 Calls Tryz.prog 69 #[fX 3 0 (.slice ai 0 ci) (.slice ad n c) next] w fun e w'=>e= .returned (.int .i64 0)∧eV w w':=by
 have FB:=fun wx=>hQ (Ij ai ad ci n c next hn wx)
 go_enter Tryz.func69,Tryz.ntmps69
 go_wp2_with fail
 refine(rB _ _ _).mono ?_;rintro e w1 ⟨rfl,rfl⟩;go_wp2_with fail
 refine(FB _).af.mono ?_;rintro e w2 ⟨rfl,ho⟩;have q1:=ho.cell (b:=w.heap.size+1) (i:=0) (v:= .int .i64 0) (by go_simp);have q2:=ho.cell (b:=w.heap.size) (i:=2) (v:= .slice ai 0 ci) (by go_simp);have q3:=ho.cell (b:=w.heap.size) (i:=4) (v:= .int .i64 next) (by go_simp);go_wp2_with fail
 refine(rB _ _ _).mono ?_;rintro e w3 ⟨rfl,rfl⟩;have HO:=hQ ho;clear ho FB;go_wp2_with fail
 go_loopw [30] (fun i wr=>i= .int .i64 0∧wr=w2) (fun _ _=>0)
 case atStart=>exact⟨rfl,rfl⟩
 case round=>
  obtain⟨rfl,rfl⟩:=hrel;rcases hx with rfl | hx
  · go_wp2_with fail
    refine(rB _ _ _).mono ?_;rintro e w3 ⟨rfl,rfl⟩;go_wp2;go_ret;exact⟨rfl,(((eV.refl w).alloc _).alloc _).trans HO.af⟩
  · have h0:(next == 0)=false:=by rw [beq_eq_false_iff_ne];omega
    have hd:decide (1≤next∧next≤65536)=true:=by simpa using hx
    go_wp2_with fail
    refine(mO _ _).mono ?_;rintro e w3 ⟨rfl,rfl⟩;rw [hd];go_wp2_with fail
    refine(rB _ _ _).mono ?_;rintro e w3 ⟨rfl,rfl⟩;go_wp2;go_ret;exact⟨rfl,(((eV.refl w).alloc _).alloc _).trans HO.af⟩
end Go.Proofs.YtiegeadmgpanoaaGreatDoor.D2
namespace Go.Proofs.YtiegeadmgpanoaaGreatDoor.D2
open ChangeShapes WideShapes ChangeAt RowKit Sl fB
theorem kZ {ops:Array Oper}{rest:List Oper}{o:Oper}{ac:Act}{Q:Exit→Act→World→Prop}{w:World}(hgd:o.guard=none)(x y:Operand)(hop:o.op= .call { callee:= .builtin .min,args:= #[x,y],argTypes:= #[3,3] })
 (hty:o.type=3) (a b n:Int) (hn:n=min a b) (hx:ac.eval x= .int .i64 a) (hy:ac.eval y= .int .i64 b) (hK:wpList Tryz.prog ops Q rest (ac.put o.dst (.int .i64 n)) w):wpList Tryz.prog ops Q (o :: rest) ac w:=by
 refine wpList_plain hgd fun K' hK'=> ?_
 subst hn;unfold Oper.wp execOp;simp only [hop,resolve,invoke,builtin,Sem.run_bind,Sem.run_pure,Result.andThen_ok,cT,aT,aZ,hx,hy,hty];by_cases h:b<a
 · have e:min a b=b:=by omega
   rw [e] at hK;go_simp;exact hK' _ _ hK
 · have e:min a b=a:=by omega
   rw [e] at hK;go_simp;exact hK' _ _ hK
theorem KG(T e:TypeId)(hu:Tryz.prog.underlying T=some (.slice e))(k:Nat)(hz:∀w:World,(Go.sizeOf e).run Tryz.prog w= .ok k w)(a:Option Addr)(len cap n:Nat)(hn:n≤cap)(w:World):(Instr.sliceAt T (.slice a len cap) none (some (.int .i64 (n:Int))) none).run Tryz.prog w= .ok (.slice a n cap) w:=by
 have h0:(0:Int)≤(n:Int):=by omega
 have h1:(n:Int)≤(cap:Int):=by omega
 cases a with
 | none=>go_simp
 | some x=>
   by_cases hc:cap=0
   · subst hc
     obtain rfl:n=0:=by omega
     go_simp
   · go_simp
theorem vX {ops:Array Oper}{rest:List Oper}{o:Oper}{ac:Act}{Q:Exit→Act→World→Prop}{w:World}(hgd:o.guard=none)(T e:TypeId)(x h:Operand)(hop:o.op=Op.slice T x none (some h) none)(hu:Tryz.prog.underlying T=some (.slice e))(k:Nat)(hz:∀w:World,(Go.sizeOf e).run Tryz.prog w= .ok k w)(a:Option Addr)(len cap n:Nat)(hn:n≤cap)
 (hx:ac.eval x= .slice a len cap) (hh:ac.eval h= .int .i64 (n:Int)) (hK:wpList Tryz.prog ops Q rest (ac.put o.dst (.slice a n cap)) w):wpList Tryz.prog ops Q (o :: rest) ac w:=by
 refine wpList_plain hgd fun K' hK'=> ?_
 have hr:=KG T e hu k hz a len cap n hn w;unfold Oper.wp;simp [execOp,hop,hx,hh,hr,Result.andThen]
 exact hK' _ _ hK
end Go.Proofs.YtiegeadmgpanoaaGreatDoor.D2
namespace Go.Proofs.YtiegeadmgpanoaaGreatDoor.D2
open ChangeShapes WideShapes ChangeAt RowKit Sl fB
theorem eL {h:Hp}{v:Value}{V:List Int}(hb:Bytes h v V):∃a c,v= .slice a V.length c∧∀i,i<V.length→∃b off,a=some ⟨b,off,none⟩∧∀w,h.le w→w.cell? ⟨b,off+i,none⟩=some (.int .u8 (V.getD i 0)):=by
 obtain⟨hl,a,c,e,_,_,hc⟩:=hb;refine⟨a,c,e,fun i hi=> ?_⟩;obtain⟨b,off,e1,e2⟩:=hc (by omega);refine⟨b,off,e1,fun w hw=> ?_⟩;refine Hp.kG hw ((e2 i (by omega)).trans ?_);simp [hi]
theorem AY(ha hb:Hp)(va vb:Value)(V:List Int)(h1:Bytes ha va V)(h2:Bytes hb vb V)(hn:V.length≤9000000000000000000)(w:World)(l1:ha.le w)(l2:hb.le w):
 Calls Tryz.prog 28 #[va,vb] w fun e w'=>e= .returned (.int .i64 0)∧eV w w':=by
 obtain⟨a,c,rfl,r1⟩:=eL h1;obtain⟨a',c',rfl,r2⟩:=eL h2;have R1:=hQ r1;have R2:=hQ r2;have L1:=hQ l1;have L2:=hQ l2;clear r1 r2 h1 h2 l1 l2;go_enter Tryz.func28,Tryz.ntmps28
 go_wp2;go_loopw [5] (fun i wr=> ∃k:Nat,k≤V.length∧i= .int .i64 k∧eV w wr) (fun i _=>V.length-(intOf i).toNat)
 case atStart=>exact⟨0,aG _,rfl,eV.refl w⟩
 case round=>
  obtain⟨k,hk,rfl,ho⟩:=hrel;rcases aB k V.length with hlt | hge
  · obtain⟨b,off,rfl,c1⟩:=R1.af k hlt
    obtain⟨b',off',rfl,c2⟩:=R2.af k hlt;have q1:=c1 wr (fun k o e=>(ho.heap k (aA.1 (L1.af k o e)).1).trans (L1.af k o e));have q2:=c2 wr (fun k o e=>(ho.heap k (aA.1 (L2.af k o e)).1).trans (L2.af k o e));have HO:=hQ ho;clear c1 c2 ho;generalize V.getD k 0=x at*;go_wp2;go_region
    go_wp2;go_region
    go_wp2;go_roundw
    case rel=>exact⟨k+1,by omega,by go_num,HO.af.drew.drew⟩
    case measure=>simp [intOf];omega
  · have hkl:k=V.length:=by omega
    subst hkl;go_wp2;go_ret;exact⟨rfl,ho⟩
theorem oP(ha hb:Hp)(va vb:Value)(V:List Int)(h1:Bytes ha va V)(h2:Bytes hb vb V)(hn:V.length≤9000000000000000000)(w:World)(l1:ha.le w)(l2:hb.le w):
 Calls Tryz.prog 16 #[va,vb] w fun e w'=>e= .returned (.bool true)∧eV w w':=by
 have C:=hQ (AY ha hb va vb V h1 h2 hn w l1 l2);clear h1 h2 l1 l2;go_enter Tryz.func16,Tryz.ntmps16
 go_wp2_with fail
 refine C.af.mono ?_;rintro e w' ⟨rfl,ho⟩;go_wp2;go_ret;exact⟨rfl,ho⟩
end Go.Proofs.YtiegeadmgpanoaaGreatDoor.D2
namespace Go.fB
def eX:List Int→List Int→Int
 | [],[]=>0
 | [],_ :: _=> -1
 | _ :: _,[]=>1
 | x :: a,y :: b=>if x<y then -1 else if y<x then 1 else eX a b
def U8(l:List Int):Prop:= ∀z∈l,0≤z∧z≤255
theorem Py {x y:Int}(hx:0≤x∧x≤255)(hy:0≤y∧y≤255):(x.toNat.toUInt8<y.toNat.toUInt8)↔x<y:=by
 rw [UInt8.lt_iff_toNat_lt];have e1:x.toNat.toUInt8.toNat=x.toNat:=by simp;omega
 have e2:y.toNat.toUInt8.toNat=y.toNat:=by simp;omega
 rw [e1,e2];omega
theorem GQ:∀ {a b:List Int},U8 a→U8 b→Lib.compareBytes (a.map fun z=>z.toNat.toUInt8) (b.map fun z=>z.toNat.toUInt8)=eX a b
 | [],[],_,_=>rfl
 | [],_ :: _,_,_=>rfl
 | _ :: _,[],_,_=>rfl
 | x :: a,y :: b,ha,hb=>by
   have ih:=GQ (a:=a) (b:=b) (fun z hz=>ha z (by simp [hz])) (fun z hz=>hb z (by simp [hz]));have hx:=ha x (by simp);have hy:=hb y (by simp);simp only [aT,Lib.compareBytes,eX,Py hx hy,Py hy hx,ih]
theorem nc(a:List Int):eX a a=0:=by
 induction a with
 | nil=>rfl
 | cons x a ih=>simp [eX,ih]
theorem qH(a b:List Int):eX a b= -eX b a:=by
 induction a generalizing b with
 | nil=>cases b<;>simp [eX]
 | cons x a ih=>
   cases b with
   | nil=>simp [eX]
   | cons y b=>
     simp only [eX];by_cases h1:x<y
     · have:¬y<x:=by omega
       simp [h1,this]
     · by_cases h2:y<x<;>simp [h1,h2,ih b]
theorem KH {A B:List Int}{k:Nat}(ha:k<A.length)(hb:k<B.length)(h:eX A B=eX (A.drop k) (B.drop k)):
 eX A B=if A.getD k 0<B.getD k 0 then -1 else if B.getD k 0<A.getD k 0 then 1 else eX (A.drop (k+1)) (B.drop (k+1)):=by
 rw [h,aQ ha,aQ hb];simp [eX,ha,hb]
theorem NK {A B:List Int}{k:Nat}(hk:k≤A.length∧k≤B.length)(he:k=A.length∨k=B.length)(h:eX A B=eX (A.drop k) (B.drop k)):
 eX A B=if A.length<B.length then -1 else if B.length<A.length then 1 else 0:=by
 rw [h];rcases he with rfl | rfl
 · rw [bP]
   by_cases h1:A.length<B.length
   · rw [if_pos h1,aQ h1];rfl
   · rw [if_neg h1,if_neg (by omega),dy (by omega)];rfl
 · rw [bP]
   by_cases h1:B.length<A.length
   · rw [if_neg (by omega),if_pos h1,aQ h1];rfl
   · rw [if_neg (by omega),if_neg h1,dy (by omega)];rfl
end Go.fB
namespace Go.Proofs.YtiegeadmgpanoaaGreatDoor.D2
open ChangeShapes WideShapes ChangeAt RowKit Sl fB
theorem l3(ha hb:Hp)(va vb:Value)(A B:List Int)(h1:Bytes ha va A)(h2:Bytes hb vb B)(hn:A.length≤9000000000000000000)(w:World)(l1:ha.le w)(l2:hb.le w):
 Calls Tryz.prog 28 #[va,vb] w fun e w'=>e= .returned (.int .i64 (eX A B))∧eV w w':=by
 obtain⟨a,c,rfl,r1⟩:=eL h1;obtain⟨a',c',rfl,r2⟩:=eL h2;have R1:=hQ r1;have R2:=hQ r2;have L1:=hQ l1;have L2:=hQ l2;clear r1 r2 h1 h2 l1 l2;go_enter Tryz.func28,Tryz.ntmps28
 go_wp2;go_loopw [5] (fun i wr=> ∃k:Nat,k≤A.length∧k≤B.length∧i= .int .i64 k∧eV w wr∧Hid (eX A B=eX (A.drop k) (B.drop k))) (fun i _=>A.length-(intOf i).toNat)
 case atStart=>exact⟨0,aG _,aG _,rfl,eV.refl w,hQ rfl⟩
 case round=>
  obtain⟨k,hk,hk2,rfl,ho,hc⟩:=hrel;by_cases hlt:k<A.length∧k<B.length
  · obtain⟨SL,oZ⟩:=hlt
    obtain⟨b,off,rfl,c1⟩:=R1.af k SL;obtain⟨b',off',rfl,c2⟩:=R2.af k oZ;have q1:=c1 wr (fun k o e=>(ho.heap k (aA.1 (L1.af k o e)).1).trans (L1.af k o e));have q2:=c2 wr (fun k o e=>(ho.heap k (aA.1 (L2.af k o e)).1).trans (L2.af k o e));have HO:=hQ ho;have HC:=hQ (KH SL oZ hc.af);clear c1 c2 ho hc;generalize A.getD k 0=x at*
    generalize B.getD k 0=y at*;by_cases hxy:x<y
    · go_wp2
      go_region
      go_wp2;go_ret;have:=HC.af
      rw [if_pos hxy] at this;rw [this];exact⟨rfl,HO.af.drew⟩
    · by_cases hyx:y<x
      · go_wp2
        go_region
        go_wp2;go_region
        go_wp2;go_ret;have:=HC.af
        rw [if_neg (by omega),if_pos hyx] at this;rw [this];exact⟨rfl,HO.af.drew.drew⟩
      · go_wp2
        go_region
        go_wp2;go_region
        go_wp2;go_roundw
        case rel=>
         have:=HC.af
         rw [if_neg (by omega),if_neg (by omega)] at this;exact⟨k+1,by omega,by omega,congrArg (Value.int .i64) (by omega),HO.af.drew.drew,hQ this⟩
        case measure=>simp [intOf];omega
  · have HC:=hQ (NK ⟨hk,hk2⟩ (by omega) hc.af)
    clear hc;have oZ:¬(k<A.length∧k<B.length):=hlt;rcases Nat.lt_trichotomy A.length B.length with h | h | h
    · have SN:k=A.length:=by omega
      subst SN;go_wp2;go_ret;have:=HC.af
      rw [if_pos h] at this;rw [this];exact⟨rfl,ho⟩
    · have SN:k=A.length:=by omega
      subst SN;have hE:=HC.af;rw [if_neg (by omega),if_neg (by omega)] at hE;rw [hE];have h9:=hQ h;have hd1:¬((A.length:Int)<(B.length:Int)):=by omega
      have zq:¬((B.length:Int)<(A.length:Int)):=by omega
      clear h;go_wp2;go_ret;exact⟨rfl,ho⟩
    · have SN:k=B.length:=by omega
      subst SN;go_wp2;go_ret;have:=HC.af
      rw [if_neg (by omega),if_pos h] at this;rw [this];exact⟨rfl,ho⟩
theorem oQ(h:Hp)(v:Value)(l:List Int)(hx:Bytes h v l)(w:World)(hl:h.le w):
 ∃b:ByteArray,(Extern.Bytes.bytesOf v).run Tryz.prog w= .ok b w∧b.data.toList=l.map fun z=>z.toNat.toUInt8:=by
 obtain⟨a,c,rfl,r⟩:=eL hx;cases a with
 | none=>
   have:l= []:=by
    rcases bI l.length with h0 | h0
    · exact aM h0
    · obtain⟨b,off,e,_⟩:=r 0 h0;cases e
   subst this;exact⟨.empty,rfl,rfl⟩
 | some ad=>
   refine⟨⟨ByteArray.empty.data++(Lib.bytesOf l).toArray⟩,Lib.run_loadBytesX (P:=Tryz.prog) w l ad .empty (fun j x hj=> ?_),?_⟩
   · have hjl:j<l.length:=(cE.1 hj).1
     obtain⟨b,off,e,hc⟩:=r j hjl;cases e;have e:(⟨b,off,none⟩:Addr).add j=⟨b,off+j,none⟩:=by unfold Addr.add;split<;>simp_all
     rw [e,hc w hl,az,hj];rfl
   · simp [Lib.bytesOf,ByteArray.empty,ByteArray.emptyWithCapacity]
     rfl
theorem tA(ha hb:Hp)(va vb:Value)(A B:List Int)(h1:Bytes ha va A)(h2:Bytes hb vb B)(u1:U8 A)(u2:U8 B)(w:World)(l1:ha.le w)(l2:hb.le w):
 (Extern.BytealgCompare.compare #[va,vb]).run Tryz.prog w= .ok (.int .i64 (eX A B)) w:=by
 obtain⟨x,hx,ex⟩:=oQ ha va A h1 w l1;obtain⟨y,hy,ey⟩:=oQ hb vb B h2 w l2;change Sem.run Tryz.prog (do pure (goInt (Extern.BytealgCompare.cmp (← Extern.Bytes.bytesOf va) (← Extern.Bytes.bytesOf vb)))) w=_
 simp only [Sem.run_bind,Sem.run_pure,hx,hy,Result.andThen];rw [Lib.cmp_eq,ex,ey,GQ u1 u2];rfl
theorem jV(ha hb:Hp)(va vb:Value)(A B:List Int)(h1:Bytes ha va A)(h2:Bytes hb vb B)(u1:U8 A)(u2:U8 B)(w:World)(l1:ha.le w)(l2:hb.le w):
 Calls Tryz.prog 89 #[va,vb] w fun e w'=>e= .returned (.int .i64 (eX A B))∧w=w':=by
 have hr:=tA ha hb va vb A B h1 h2 u1 u2 w l1 l2;obtain⟨a,c,rfl,_⟩:=eL h1;obtain⟨a',c',rfl,_⟩:=eL h2;have HR:=hQ hr;clear h1 h2 u1 u2 l1 l2 hr;go_enter Tryz.func89,Tryz.ntmps89
 go_wp2;rw [run_callFunc_extern Tryz.func129 (by kernel_rfl) (by kernel_rfl) (by kernel_rfl) (e:=Extern.BytealgCompare.compare) (by kernel_rfl),HR.af];simp only [Result.andThen];rw [Oper.upon_value];go_wp2;go_ret;exact⟨rfl,rfl⟩
end Go.Proofs.YtiegeadmgpanoaaGreatDoor.D2
namespace Go.fB
def xr(n:Int):Bool:=decide (1≤n∧n≤65536)
def iR(k l:Int)(n d:Nat)(nx:Int):Bool:=
 if k=1 then decide (d=0∧nx=0∧l=0∧1≤n∧n≤8)
 else if k=2 then decide (d=0∧nx=0∧1≤l∧l<12∧2≤n∧n≤8)
 else decide (l=0∧n=0∧1≤d∧d≤480)
def kj(f:Int)(b:Bool)(e:Int):Int:=if b then f else if f=0 then e else f
end Go.fB
namespace Go.Proofs.YtiegeadmgpanoaaGreatDoor.D2
open ChangeShapes WideShapes ChangeAt RowKit Sl fB
theorem qI(n:Int)(w:World):Calls Tryz.prog 145 #[.int .i64 n] w fun e w'=>e= .returned (.bool (xr n))∧w=w':=by
 unfold xr;by_cases h1:1≤n
 · by_cases h2:n≤65536
   · go_enter Tryz.func145,Tryz.ntmps145
     go_wp2;go_ret;simp [h1,h2]
   · go_enter Tryz.func145,Tryz.ntmps145
     go_wp2;go_ret;simp [h2]
 · go_enter Tryz.func145,Tryz.ntmps145
   go_wp2;go_ret;simp;omega
theorem fu(f x:Int)(h:Bool)(b:Nat)(F:Pr)(w:World)(hF:Sat ((Pr.pts b (.cells #[.int .i64 f] 32)).star F) w):
 Calls Tryz.prog 109 #[.bool h,.int .i64 x,.pointer (some ⟨b,0,none⟩)] w fun e w'=>e= .returned (.tuple #[])∧Sat ((Pr.pts b (.cells #[.int .i64 (kj f h x)] 32)).star F) w'∧dN w w':=by
 have q:=hF.dL;have q0:w.cell? ⟨b,0,none⟩=some (.int .i64 f):=by rw [cell_of_heap q];rfl
 have z0:=frozen_of_heap q 0;have HF:=hQ hF;clear hF q;cases h with
 | true=>
   go_enter Tryz.func109,Tryz.ntmps109
   go_wp2;first | refine bodyPost_ret (results_none rfl _ _ _) rfl ?_ | go_end0
   exact⟨rfl,HF.af,dN.refl w⟩
 | false=>
   by_cases h0:f=0
   · subst h0
     go_enter Tryz.func109,Tryz.ntmps109
     go_wp2;first | refine bodyPost_ret (results_none rfl _ _ _) rfl ?_ | go_end0
     exact⟨rfl,HF.af.setCell (i:=0) (.int .i64 x),(dN.refl w).setCell _ _⟩
   · have hb:(f == 0)=false:=by rw [beq_eq_false_iff_ne];exact h0
     go_enter Tryz.func109,Tryz.ntmps109
     go_wp2;first | refine bodyPost_ret (results_none rfl _ _ _) rfl ?_ | go_end0
     have e:kj f false x=f:=by unfold kj;rw [if_neg (by simp),if_neg h0]
     rw [e];exact⟨rfl,HF.af,dN.refl w⟩
theorem pg(ai ad:Option Addr)(n ci d cd:Nat)(k l nx:Int)(w:World):
 Calls Tryz.prog 110 #[fX k l (.slice ai n ci) (.slice ad d cd) nx] w fun e w'=>e= .returned (.bool (iR k l n d nx))∧eV w w':=by
 have fin:∀(b:Bool),b=iR k l n d nx→Ending.returned (Value.bool b)=Ending.returned (Value.bool (iR k l n d nx)):=fun b e=>by rw [e]
 have hk:(k=1∨k=2)∨(k≠1∧k≠2):=by omega
 rcases bI d with hd | hd
 · subst hd
   rcases hk with(rfl | rfl) | ⟨h1,h2⟩
   · go_enter Tryz.func110,Tryz.ntmps110
     go_wp2;go_region
     go_wp2;all_goals (go_ret;refine⟨fin _ ?_,((eV.refl w).alloc _).drew⟩;rw [aL];simp [iR];try omega)
   · go_enter Tryz.func110,Tryz.ntmps110
     go_wp2;go_region
     go_wp2;all_goals (go_ret;refine⟨fin _ ?_,((eV.refl w).alloc _).drew⟩;rw [aL];simp [iR];try omega)
   · have e1:(k == 1)=false:=by rw [beq_eq_false_iff_ne];exact h1
     have e2:(k == 2)=false:=by rw [beq_eq_false_iff_ne];exact h2
     go_enter Tryz.func110,Tryz.ntmps110
     go_wp2;go_region
     go_wp2;all_goals (go_ret;refine⟨fin _ ?_,((eV.refl w).alloc _).drew⟩;rw [aL];simp [iR,h1,h2];try omega)
 · have h0:((d:Int) == 0)=false:=by rw [beq_eq_false_iff_ne];omega
   rcases hk with(rfl | rfl) | ⟨h1,h2⟩
   · go_enter Tryz.func110,Tryz.ntmps110
     go_wp2;go_region
     go_wp2;all_goals (go_ret;refine⟨fin _ ?_,((eV.refl w).alloc _).drew⟩;rw [aL];simp [iR];try omega)
   · go_enter Tryz.func110,Tryz.ntmps110
     go_wp2;go_region
     go_wp2;all_goals (go_ret;refine⟨fin _ ?_,((eV.refl w).alloc _).drew⟩;rw [aL];simp [iR];try omega)
   · have e1:(k == 1)=false:=by rw [beq_eq_false_iff_ne];exact h1
     have e2:(k == 2)=false:=by rw [beq_eq_false_iff_ne];exact h2
     go_enter Tryz.func110,Tryz.ntmps110
     go_wp2;go_region
     go_wp2;all_goals (go_ret;refine⟨fin _ ?_,((eV.refl w).alloc _).drew⟩;rw [aL];simp [iR,h1,h2];try omega)
theorem uR(ai ad:Option Addr)(n ci d cd:Nat)(k l nx:Int)(hk:k=1∨k=2∨k=3)(w:World):
 Calls Tryz.prog 141 #[fX k l (.slice ai n ci) (.slice ad d cd) nx] w fun e w'=>e= .returned (.bool (iR k l n d nx))∧eV w w':=by
 have fin:∀(b:Bool),b=iR k l n d nx→Ending.returned (Value.bool b)=Ending.returned (Value.bool (iR k l n d nx)):=fun b e=>by rw [e]
 rcases hk with rfl | rfl | rfl
 · go_enter Tryz.func141,Tryz.ntmps141
   go_wp2;all_goals (go_ret;refine⟨fin _ ?_,((eV.refl w).alloc _)⟩;rw [aL];simp [iR];try omega)
 · go_enter Tryz.func141,Tryz.ntmps141
   go_wp2;all_goals (go_ret;refine⟨fin _ ?_,((eV.refl w).alloc _)⟩;rw [aL];simp [iR];try omega)
 · go_enter Tryz.func141,Tryz.ntmps141
   go_wp2;all_goals (go_ret;refine⟨fin _ ?_,((eV.refl w).alloc _)⟩;rw [aL];simp [iR];try omega)
end Go.Proofs.YtiegeadmgpanoaaGreatDoor.D2
