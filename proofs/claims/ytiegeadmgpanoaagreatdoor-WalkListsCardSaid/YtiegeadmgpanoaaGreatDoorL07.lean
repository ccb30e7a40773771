/- Many parts of one form; one cell of an owned row. Plain lemmas over any program. -/
import Derived.Test.YtiegeadmgpanoaaGreatDoorL06
import Derived.Test.YtiegeadmgpanoaaGreatDoorL03
set_option maxRecDepth 100000
set_option maxHeartbeats 16000000
namespace Go.Sl
open Go.RowKit
section
variable {α:Type}
def big(f:α→Pr)(l:List α):Pr:=eJ (l.map f)
theorem GR(f:α→Pr):big f []=Pr.emp:=rfl
theorem Cp(f:α→Pr)(x:α)(l:List α):big f (x :: l)=(f x).star (big f l):=rfl
theorem sD(f:α→Pr):∀(l m:List α),big f (l++m)=(big f l).star (big f m)
 | [],m=>by rw [GR,Pr.fK];rfl
 | x :: l,m=>by
   show (f x).star (big f (l++m))=((f x).star (big f l)).star (big f m)
   rw [sD f l m,Pr.dP]
theorem NL(f:α→Pr)(x:α):big f [x]=f x:=Pr.ei _
theorem Cq(f:α→Pr)(l:List α)(x:α):big f (l++ [x])=(f x).star (big f l):=by rw [sD,NL,Pr.mM]
theorem ES(f:α→Pr):∀(l:List α) (i:Nat) (h:i<l.length),big f l=(f l[i]).star (big f (l.eraseIdx i))
 | [],_,h=>absurd h (by simp)
 | x :: l,0,_=>rfl
 | x :: l,i+1,h=>by
   have hi:i<l.length:=by simpa using h
   show (f x).star (big f l)=(f l[i]).star ((f x).star (big f (l.eraseIdx i)))
   rw [ES f l i hi,Pr.eD]
theorem GU(f:α→Pr):∀(l:List α) (i:Nat) (_:i<l.length) (y:α),big f (l.set i y)=(f y).star (big f (l.eraseIdx i))
 | [],_,h,_=>absurd h (by simp)
 | x :: l,0,_,_=>rfl
 | x :: l,i+1,h,y=>by
   show (f x).star (big f (l.set i y))=(f y).star ((f x).star (big f (l.eraseIdx i)))
   rw [GU f l i (by simpa using h) y,Pr.eD]
end
section
variable {L R:List Pr}{w:World}{F:Pr}
theorem dS.take {α:Type}(f:α→Pr)(l:List α)(i:Nat)(h:i<l.length)(o:dS L w) [k:j9 (big f l) L R]:dS (f l[i] :: big f (l.eraseIdx i) :: R) w:=
 ⟨(o.ej (A1:=big f l)).perm (by rw [ES f l i h,Pr.dP];rfl)⟩
theorem dS.give {α:Type}(f:α→Pr)(l:List α)(i:Nat)(h:i<l.length)(y:α)(o:dS L w){R2:List Pr} [k:j9 (f y) L R] [k2:j9 (big f (l.eraseIdx i)) R R2]:dS (big f (l.set i y) :: R2) w:=
 ⟨(o.iQ (A1:=f y) (A2:=big f (l.eraseIdx i))).perm (by rw [← Pr.dP, ← GU f l i h y];rfl)⟩
theorem dS.snoc {α:Type}(f:α→Pr)(l:List α)(y:α)(o:dS L w){R2:List Pr} [k:j9 (f y) L R] [k2:j9 (big f l) R R2]:dS (big f (l++ [y]) :: R2) w:=
 ⟨(o.iQ (A1:=f y) (A2:=big f l)).perm (by rw [← Pr.dP, ← Cq];rfl)⟩
theorem dS.sE {α:Type}(f:α→Pr)(x:α)(l:List α)(o:dS L w) [k:j9 (big f (x :: l)) L R]:dS (f x :: big f l :: R) w:=
 ⟨(o.ej (A1:=big f (x :: l))).perm (by rw [Cp,Pr.dP];rfl)⟩
theorem dS.nothing {α:Type}(f:α→Pr)(o:dS L w):dS (big f [] :: L) w:=⟨by show Sat (Pr.emp.star (eJ L)) w;rw [Pr.fK];exact o.sat⟩
theorem dS.emp(o:dS L w):dS (Pr.emp :: L) w:=⟨by show Sat (Pr.emp.star (eJ L)) w;rw [Pr.fK];exact o.sat⟩
theorem dS.jk {R2:List Pr}(A B:Pr)(o:dS L w) [k:j9 A L R] [k2:j9 B R R2]:dS (A.star B :: R2) w:=⟨(o.iQ (A1:=A) (A2:=B)).perm (by rw [← Pr.dP];rfl)⟩
theorem dS.SQ {R2 R3:List Pr}(A B C:Pr)(o:dS L w) [k:j9 A L R] [k2:j9 B R R2] [k3:j9 C R2 R3]:dS (A.star (B.star C) :: R3) w:=⟨(o.vB (A1:=A) (A2:=B) (A3:=C)).perm (by rw [← Pr.dP, ← Pr.dP,Pr.dP A];rfl)⟩
theorem Row.sF {T:Nat}{a:Option Addr}{n c:Nat}{xs:List Value}(h:Sat ((Row T 1 (.slice a n c) n xs).star F) w)(i:Nat)(hi:i<n):
 ∃b u,a=some ⟨b,0,none⟩∧xs[i]? =some u∧w.cell? ⟨b,i,none⟩=some u∧w.frozen? ⟨b,i,none⟩=false∧b<w.heap.size:=by
 obtain⟨_,_,e,hl,hc⟩:=Row.read h;cases e;obtain⟨b,eb,hd⟩:=hc (by omega);have h1:=(hd i (by omega)).1;rw [ag (by omega)] at h1;exact⟨b,_,eb,ag (by omega),h1,(hd i (by omega)).2,ay _ _ h1⟩
theorem Row.Cr {T k b c n:Nat}{xs:List Value}(h:Sat ((Row T k (.slice (some ⟨b,0,none⟩) n c) n xs).star F) w)(i:Nat)(hi:i<xs.length)(v:Value):
 Sat ((Row T k (.slice (some ⟨b,0,none⟩) n c) n (xs.set i v)).star F) (w.setCell ⟨b,i,none⟩ v):=by
 obtain⟨hl,(⟨e,_,_⟩ | ⟨b',cap,sp,e,h1,h2,h3,h4⟩)⟩:=Row.open' h
 · cases e
 · cases e
   have h5:=h4.setCell (i:=i) v;refine Row.mk' (sp:=sp) (by simpa using hl) (by simpa using h1) h2 h3 ?_
   have e6:(xs.set i v++sp).toArray=(xs++sp).toArray.setIfInBounds i v:=by
    rw [cX,dE _ _ hi]
   rw [e6];exact h5
theorem Row.shape {T k:Nat}{v:Value}{n:Nat}{xs:List Value}(h:Sat ((Row T k v n xs).star F) w):∃a c,v= .slice a n c:=by
 obtain⟨a,c,e,_⟩:=Row.read h;exact⟨a,c,e⟩
end
theorem qJ(w:World)(l:List Value)(T:TypeId):∀j u,l[j]? =some u→(w.alloc (.cells l.toArray T)).cell? ((⟨w.heap.size,0,none⟩:Addr).add j)=some u:=by
 intro j u hj;rw [qG,cell_of_heap (mq _ _)];simpa using hj
theorem NM {α:Type}{us cs:List α}(hl:us.length=cs.length)(h:∀i,i<cs.length→us[i]? =cs[i]?):us=cs:=
 List.ext_getElem? fun i=>by
  rcases aB i cs.length with hi | hi
  · exact h i hi
  · rw [c_ (by omega),c_ hi]
theorem Ik {α:Type}{us cs:List α}{k:Nat}(hl:us.length=cs.length)(hk:k<cs.length)(h:∀i,i<k→us[i]? =cs[i]?):∀i,i<k+1→(us.set k cs[k])[i]? =cs[i]? :=by
 intro i hi;by_cases he:i=k
 · subst he
   rw [cK (by omega),ag hk]
 · rw [cn (by omega)]
   exact h i (by omega)
end Go.Sl
namespace Go.Sl
open Go.RowKit
def l8(T:TypeId)(v:Value)(n:Nat)(g:Value)(m:Nat)(ys:List Value):Pr:=fun h=>
 n≤m∧ys.length=m∧((∃b cap sp,v= .slice (some ⟨b,0,none⟩) n cap∧g= .slice (some ⟨b,0,none⟩) m cap∧ys.length+sp.length=cap∧cap≤maxLen∧Pr.pts b (.cells (ys++sp).toArray T (0,0)) h)∨
  ((Row T 1 v n (ys.take n)).star (Row T 1 g m ys)) h)
theorem l8.xt {T:TypeId}{v g:Value}{n m:Nat}{ys:List Value}{F:Pr}{w:World}(h:Sat (((Row T 1 v n (ys.take n)).star (Row T 1 g m ys)).star F) w)(hn:n≤m):Sat ((l8 T v n g m ys).star F) w:=by
 have hl:ys.length=m:=by
  obtain⟨_,_,_,h1,_⟩:=Row.read (h.perm (B:=(Row T 1 g m ys).star ((Row T 1 v n (ys.take n)).star F)) (by ac_rfl));omega
 exact h.mono fun x hx=>⟨hn,hl,.inr hx⟩
theorem l8.mk_one {T:TypeId}{b cap n m:Nat}{ys sp:List Value}{F:Pr}{w:World}(h:Sat ((Pr.pts b (.cells (ys++sp).toArray T (0,0))).star F) w)(hl:ys.length=m)(hn:n≤m)(hc:ys.length+sp.length=cap)(hm:cap≤maxLen):
 Sat ((l8 T (.slice (some ⟨b,0,none⟩) n cap) n (.slice (some ⟨b,0,none⟩) m cap) m ys).star F) w:=
 h.mono fun _ hx=>⟨hn,hl,.inl ⟨b,cap,sp,rfl,rfl,hc,hm,hx⟩⟩
theorem l8.open' {T:TypeId}{v g:Value}{n m:Nat}{ys:List Value}{F:Pr}{w:World}(h:Sat ((l8 T v n g m ys).star F) w):
 n≤m∧ys.length=m∧((∃b cap sp,v= .slice (some ⟨b,0,none⟩) n cap∧g= .slice (some ⟨b,0,none⟩) m cap∧ys.length+sp.length=cap∧cap≤maxLen∧Sat ((Pr.pts b (.cells (ys++sp).toArray T (0,0))).star F) w)∨
  Sat ((Row T 1 v n (ys.take n)).star ((Row T 1 g m ys).star F)) w):=by
 obtain⟨x,⟨a,f,⟨h1,h2,hc⟩,hf,hd,rfl⟩,hw⟩:=h;refine⟨h1,h2,?_⟩;rcases hc with⟨b,cap,sp,e1,e2,e3,e4,hp⟩ | hp
 · exact .inl ⟨b,cap,sp,e1,e2,e3,e4,_,⟨a,f,hp,hf,hd,rfl⟩,hw⟩
 · exact .inr ((show Sat (((Row T 1 v n (ys.take n)).star (Row T 1 g m ys)).star F) w from⟨_,⟨a,f,hp,hf,hd,rfl⟩,hw⟩).perm (Pr.dP _ _ _))
theorem l8.start {T:TypeId}{v:Value}{n:Nat}{ys:List Value}{F:Pr}{w:World}(h:Sat ((Row T 1 v n ys).star F) w):Sat ((l8 T v n v n ys).star F) w:=by
 obtain⟨hl,(⟨rfl,rfl,hF⟩ | ⟨b,cap,sp,rfl,h1,h2,h3,h4⟩)⟩:=Row.open' h
 · have e:ys= []:=aM (by omega)
   subst e;refine l8.xt ?_ (aD _);rw [show ([]:List Value).take 0= [] from rfl,Row.nil,Pr.fK,Pr.fK];exact hF
 · exact l8.mk_one h4 (by omega) (aD _) (by omega) h3
theorem l8.read {T:TypeId}{v g:Value}{n m:Nat}{ys:List Value}{F:Pr}{w:World}(h:Sat ((l8 T v n g m ys).star F) w):
 ∃a c a' c',v= .slice a n c∧g= .slice a' m c'∧n≤m∧ys.length=m∧
  (∀i,i<n→∃b,a=some ⟨b,0,none⟩∧w.cell? ⟨b,i,none⟩=ys[i]?)∧(∀i,i<m→∃b,a'=some ⟨b,0,none⟩∧w.cell? ⟨b,i,none⟩=ys[i]?):=by
 obtain⟨h1,h2,hc⟩:=l8.open' h;rcases hc with⟨b,cap,sp,rfl,rfl,h3,h4,hp⟩ | hp
 · have hcell:∀i,i<m→w.cell? ⟨b,i,none⟩=ys[i]? :=fun i hi=>by
    rw [cell_of_heap hp.dL];simp [bG (show i<ys.length by omega)]
   exact⟨_,_,_,_,rfl,rfl,h1,h2,fun i hi=>⟨b,rfl,hcell i (by omega)⟩,fun i hi=>⟨b,rfl,hcell i hi⟩⟩
 · obtain⟨a,c,e1,_,g1⟩:=Row.read hp
   obtain⟨a',c',e2,_,g2⟩:=Row.read hp.right;refine⟨a,c,a',c',e1,e2,h1,h2,fun i hi=> ?_,fun i hi=> ?_⟩
   · obtain⟨b,eb,hb⟩:=g1 (by omega)
     refine⟨b,eb,((hb i (by omega)).1).trans ?_⟩;rw [List.getElem?_take,if_pos hi]
   · obtain⟨b,eb,hb⟩:=g2 (by omega)
     exact⟨b,eb,(hb i (by omega)).1⟩
section
variable {P:Program}{w:World}{F:Pr}
theorem vY(t ty e:TypeId)(i:TypeInfo)(z:Value)(bytes:Nat)(ht:P.underlying t=some (.slice e))(hi:P.info? e=some i)(hz:i.zero=some z)
 (hsize:i.size=1) (hby:i.bytes=bytes) (hzs:z.cells.size=1)
 (v g:Value) (n m:Nat) (ys:List Value) (hown:Sat ((l8 e v n g m ys).star F) w)
 (a:Addr) (c:Nat) (u:Value) (hu:w.cell? a=some u) (h1:u.oneCell'=true)
 (h63:m+1≤maxLen) (hbytes:(m+1)*bytes≤140737488355328):
 ∃g' w',(Builtin.append_ #[t,t] ty #[g,.slice (some a) 1 c]).run P w= .ok g' w'∧Sat ((l8 e v n g' (m+1) (ys++ [u])).star F) w'∧dN w w':=by
 have hsmall:m+1≤9223372036854775807:=by simp only [maxLen] at h63;omega
 have hnews:∀j x,[u][j]? =some x→w.cell? (a.add j)=some x:=fun j x hx=>by
  cases j with
  | zero=>
    simp at hx
    subst hx;have e0:a.add 0=a:=by unfold Addr.add;cases a;split<;>simp_all
    rw [e0];exact hu
  | succ j=>simp at hx
 have hone:∀x∈ [u],x.oneCell'=true:=fun x hx=>by cases aC.1 hx;exact h1
 obtain⟨hnm,hl,hc⟩:=l8.open' hown;rcases hc with⟨b,cap,sp,rfl,rfl,h3,h4,hp⟩ | hp
 · have hg:=hp.dL
   by_cases hroom:m+1≤cap
   · have hsz:(ys++sp).toArray.size=cap:=by simp;omega
     have hr:=run_append_room (P:=P) w t ty e i ht hi b m cap _ hg a 1 c [u] (by simp [hsize]) hnews hone hroom (by rw [hsize,hsz];simpa using hroom);refine⟨_,_,hr,?_,⟨rfl,rfl,rfl,by simp⟩⟩
     have hp':=hp.put (w':=w.setRow b ((ys++sp).toArray.toList.take (m*i.size)++ [u]++(ys++sp).toArray.toList.drop (m*i.size+ [u].length)).toArray)
      (setRow_heap w b _ _ e _ hg) (fun k _ hk=>setRow_other w b k _ hk)
     have he:(ys++sp).toArray.toList.take (m*i.size)++ [u]++(ys++sp).toArray.toList.drop (m*i.size+ [u].length)=(ys++ [u])++sp.drop 1:=by
      show (ys++sp).take (m*i.size)++ [u]++(ys++sp).drop (m*i.size+1)=_
      rw [hsize,cM, ← hl,List.take_left,List.drop_append];simp
     rw [he] at hp' ⊢;exact l8.mk_one hp' (by simp [hl]) (by omega) (by simp only [au,dq,List.length_singleton];omega) h4
   · have hsp:sp= []:=aM (by omega)
     subst hsp;rw [aV] at hp hg
     have holds:∀j x,ys[j]? =some x→w.cell? ((⟨b,0,none⟩:Addr).add j)=some x:=by
      intro j x hx;rw [qG,cell_of_heap hg];simpa using hx
     have hr:=run_append_grow (P:=P) w t ty e i z ht hi hz ⟨b,0,none⟩ m cap ys (by rw [hsize];omega) holds a 1 c [u] (by simp [hsize]) hnews (by omega) (by omega) (growslice_fits (by omega) (by rw [hby];exact hbytes));refine⟨_,_,hr,?_,⟨rfl,rfl,rfl,by simp⟩⟩
     have hold:Sat ((Row e 1 (.slice (some ⟨b,0,none⟩) n cap) n (ys.take n)).star F) w:=by
      refine Row.mk' (sp:=ys.drop n) (by simp;omega) (by simp only [aW,dq,cM];simp at h3;omega) (by simp at h3;omega) h4 ?_;rw [dc];exact hp
     have hnew:=uM (e:=e) (size:=1) (n:=m+1) (cap:=grownCap w (m+1) cap e) (xs:=ys++ [u]) z.cells hold (by simp [hl]) hzs (grownCap_ge w (m+1) cap e) (grownCap_le_maxLen w (m+1) cap e h63)
     have Cs:Sat ((Row e 1 (.slice (some ⟨w.heap.size,0,none⟩) (m+1) (grownCap w (m+1) cap e)) (m+1) (ys++ [u])).star ((Row e 1 (.slice (some ⟨b,0,none⟩) n cap) n (ys.take n)).star F)) (w.drew.alloc (.cells (ys.toArray++ #[u]++Builtin.zeroCells z.cells (grownCap w (m+1) cap e-(m+1))) e)):=by simpa using hnew
     refine l8.xt ?_ (by omega);rw [bW (by omega)];exact Cs.perm (by ac_rfl)
 · obtain⟨g',w',hr,h5,hg,_⟩:=mW (P:=P) t ty e i z 1 bytes ht hi hz hsize hby hzs g m ys (hp.perm (B:=(Row e 1 g m ys).star ((Row e 1 v n (ys.take n)).star F)) (by ac_rfl)) a 1 c [u] (by simp) hnews hone h63 hbytes
   refine⟨g',w',hr,l8.xt ?_ (by omega),⟨hg.os,hg.tape,hg.output,hg.size⟩⟩;rw [bW (by omega)];exact h5.perm (by ac_rfl)
theorem xu {o:Oper}{a:Act}{K:Act→World→Prop}{Q:Exit→Act→World→Prop}(s x:Operand)(t:TypeId)
 (ho:o.op= .call { callee:= .builtin .append,args:= #[s,x],argTypes:= #[t,t] })
 (e:TypeId) (i:TypeInfo) (z:Value) (bytes:Nat) (ht:P.underlying t=some (.slice e)) (hi:P.info? e=some i) (hz:i.zero=some z)
 (hsize:i.size=1) (hby:i.bytes=bytes) (hzs:z.cells.size=1)
 (v g:Value) (n m:Nat) (ys:List Value) (hs:a.eval s=g) (hown:Sat ((l8 e v n g m ys).star F) w)
 (ad:Addr) (c:Nat) (u:Value) (hx:a.eval x= .slice (some ad) 1 c) (hu:w.cell? ad=some u) (h1:u.oneCell'=true)
 (h63:m+1≤maxLen) (hbytes:(m+1)*bytes≤140737488355328)
 (h:∀g' w',Sat ((l8 e v n g' (m+1) (ys++ [u])).star F) w'→dN w w'→K (a.put o.dst g') w'):o.wp P a w K Q:=by
 obtain⟨g',w',hr,h2,h3⟩:=vY (P:=P) t o.type e i z bytes ht hi hz hsize hby hzs v g n m ys hown ad c u hu h1 h63 hbytes;unfold Oper.wp execOp;simp only [ho,resolve,invoke,builtin,Sem.run_bind,Sem.run_pure,Result.andThen_ok,cT,aT,aZ,hs,hx,hr];exact h g' w' h2 h3
theorem sG {ops:Array Oper}{rest:List Oper}{o:Oper}{a:Act}{Q:Exit→Act→World→Prop}(hgd:o.guard=none)(s x:Operand)(t:TypeId)
 (ho:o.op= .call { callee:= .builtin .append,args:= #[s,x],argTypes:= #[t,t] })
 (e:TypeId) (i:TypeInfo) (z:Value) (bytes:Nat) (ht:P.underlying t=some (.slice e)) (hi:P.info? e=some i) (hz:i.zero=some z)
 (hsize:i.size=1) (hby:i.bytes=bytes) (hzs:z.cells.size=1)
 (v g:Value) (n m:Nat) (ys:List Value) (hs:a.eval s=g) (hown:Sat ((l8 e v n g m ys).star F) w)
 (ad:Addr) (c:Nat) (u:Value) (hx:a.eval x= .slice (some ad) 1 c) (hu:w.cell? ad=some u) (h1:u.oneCell'=true)
 (h63:m+1≤maxLen) (hbytes:(m+1)*bytes≤140737488355328)
 (h:∀g' w',Sat ((l8 e v n g' (m+1) (ys++ [u])).star F) w'→dN w w'→wpList P ops Q rest (a.put o.dst g') w'):wpList P ops Q (o :: rest) a w:=
 wpList_plain hgd fun _ hK=>xu s x t ho e i z bytes ht hi hz hsize hby hzs v g n m ys hs hown ad c u hx hu h1 h63 hbytes fun g' w' h2 h3=>hK _ _ (h g' w' h2 h3)
end
end Go.Sl
namespace Go.Sl
open Go.RowKit
theorem dS.fresh {L:List Pr}{w:World}(o:dS L w)(l:List Value)(T:TypeId)(b:Nat)(hb:w.heap.size=b):
 dS (Pr.pts b (.cells l.toArray T) :: L) (w.alloc (.cells l.toArray T))∧∀j u,l[j]? =some u→(w.alloc (.cells l.toArray T)).cell? ((⟨b,0,none⟩:Addr).add j)=some u:=by
 subst hb;exact⟨o.alloc _,qJ w l T⟩
end Go.Sl
namespace Go.fB
def vZ(i k:Nat):Int:=((i:Int)*31+(k:Int)*7+1) % 256
def qq(i n:Nat):List Int:=(List.range n).map (vZ i)
theorem ng(i n:Nat):(qq i n).length=n:=by simp [qq]
theorem AZ {i n k:Nat}(h:k<n):(qq i n)[k]? =some (vZ i k):=by simp [qq,h]
theorem Il(i n:Nat):qq i n++ [vZ i n]=qq i (n+1):=by simp [qq,dC]
end Go.fB
namespace Go.Proofs.YtiegeadmgpanoaaGreatDoor.D2
open ChangeShapes WideShapes ChangeAt RowKit Sl fB
theorem Ct:(Tryz.prog.info? 42).map (fun i=>(i.zero,i.size,i.bytes))=some (some (.slice none 0 0),1,24):=by kernel_rfl
def rowOf(x:Value × List Int):Pr:=dM x.1 x.2
abbrev Cu(i n:Nat):List Value:=(qq i n).map (Value.int .u8)
theorem Im(i n:Nat):Cu i n++ [Value.int .u8 (vZ i n)]=Cu i (n+1):=by simp only [Cu, ← Il,aI,aT,aZ]
def qK(x:Nat × Value × Nat × Value):Pr:=l8 5 x.2.1 x.2.2.1 x.2.2.2 (x.2.2.1+20) (Cu x.1 (x.2.2.1+20))
theorem Io(lv:Value)(M:List (Value × List Int))(hm:M.length≤100000000)(hn:∀x∈M,x.2.length≤65536)(F:Pr)(w:World)(hF:Sat ((Row 42 1 lv M.length (M.map (·.1))).star ((big rowOf M).star F)) w):
 Calls Tryz.prog 26 #[lv] w fun e w'=>e= .returned (.bool true)∧dN w w'∧Sat F w':=by
 obtain⟨la,lc,rfl⟩:=Row.shape hF;have hs0:=hQ (dS.xp hF);have HN:=hQ hn;have RV:(M.length:Int)≤100000000:=by omega
 clear hF hn;go_enter Tryz.func26,Tryz.ntmps26
 go_wp2
 go_loopw [3] (fun i wr=> ∃(j:Nat) (M1:List (Value × List Int)),j≤M.length∧i= .int .i64 j∧dN w wr∧dS [Row 42 1 (.slice la M.length lc) M.length (M.map (·.1)),big rowOf M1,F] wr∧Hid (M1.length=M.length)∧
  Hid (∀t (h:t<M.length),M1[t]? =some (M[t].1,if t<j then qq t M[t].2.length else M[t].2))) (fun i _=>M.length-(intOf i).toNat)
 case atStart=>exact⟨0,M,aG _,rfl,dN.refl w,hs0.af,hQ rfl,hQ fun t h=>by rw [if_neg (by omega),ag h]⟩
 case round=>
  obtain⟨j,M1,hj,rfl,hst,hs,hl1,hv1⟩:=hrel;clear hs0;rcases aB j M.length with hlt | hge
  · have rY:j<M1.length:=by rw [hl1.af];exact hlt
    have hs2:=hs.take rowOf M1 j rY
    have ev:M1[j]=(M[j].1,M[j].2):=by
     have:=hv1.af j hlt
     rw [ag rY,if_neg (by omega)] at this;exact Option.some.inj this
    rw [ev] at hs2;obtain⟨a,c,ea⟩:=Row.shape hs2.sat;dsimp only at ea;obtain⟨lb,u,rfl,hu,qL,_,lz⟩:=Row.sF (hs2.row (.slice la M.length lc)) j hlt;rw [aO,ag hlt] at hu;simp only [Option.map_some,Option.some.injEq] at hu;rw [← hu,ea] at qL;have Pz:=HN.af M[j] (aE hlt);have lK:=hQ hs2;have EA:=hQ ea;have eR:=hQ hst
    obtain⟨nj,ET⟩:∃nj,nj=M[j].2.length:=⟨_,rfl⟩;rw [← ET] at qL Pz;have RY:=hQ ET;clear hs hs2 ev ea hu hst ET;go_wp2
    go_loopw [4] (fun i wx=> ∃(k:Nat) (Z:List Int),k≤nj∧i= .int .i64 k∧dN w wx∧Hid (Z.length=nj)∧Hid (∀t,t<k→Z[t]? =(qq j nj)[t]?)∧
     dS [rowOf (.slice a nj c,Z),Row 42 1 (.slice (some ⟨lb,0,none⟩) M.length lc) M.length (M.map (·.1)),big rowOf (M1.eraseIdx j),F] wx) (fun i _=>nj-(intOf i).toNat)
    case atStart=>
     refine⟨0,M[j].2,aG _,rfl,eR.af,hQ RY.af.symm,hQ fun t h=>absurd h (by omega),?_⟩;have h1:=lK.af;rw [EA.af, ← RY.af] at h1;exact h1.to
    case round=>
     obtain⟨k,Z,hk,rfl,hst,hzl,hzv,hs⟩:=hrel;obtain⟨_,_,e1,hu,Qm,_,lz2⟩:=Row.sF (hs.row (.slice (some ⟨lb,0,none⟩) M.length lc)) j hlt;cases e1;rw [aO,ag hlt] at hu;simp only [Option.map_some,Option.some.injEq] at hu;rw [← hu,EA.af, ← RY.af] at Qm;clear hu qL lz;have fa:=hQ hst;have j8:=hQ hs;clear hst hs
     rcases aB k nj with hlk | Ip
     · have hz:=j8.af.sat
       have hz1:Sat ((Row 5 1 (.slice a nj c) nj (Z.map (Value.int .u8))).star (eJ [Row 42 1 (.slice (some ⟨lb,0,none⟩) M.length lc) M.length (M.map (·.1)),big rowOf (M1.eraseIdx j),F])) wr:=by
        have:rowOf (.slice a nj c,Z)=Row 5 1 (.slice a nj c) nj (Z.map (Value.int .u8)):=by unfold rowOf dM;dsimp only;rw [hzl.af]
        rw [← this];exact hz
       obtain⟨b,x,rfl,_,c1,f1,z1⟩:=Row.sF hz1 k hlk;have N1:=hQ (Row.Cr hz1 k (by rw [aH,hzl.af];exact hlk) (.int .u8 (vZ j k)));clear hz hz1;have hp:vZ j k=((j:Int)*31+(k:Int)*7+1) % 256:=rfl;have HP:=hQ hp;clear hp;go_wp2
       refine⟨⟨k+1,Z.set k (vZ j k),by omega,congrArg (Value.int .i64) (by omega),fa.af.setCell _ _,hQ (by rw [aU];exact hzl.af),hQ ?_,?_⟩,by simp [intOf];omega⟩
       · have h7:(qq j nj)[k]'(by rw [ng];exact hlk)=vZ j k:=by
          have:=AZ (i:=j) hlk
          rw [ag (by rw [ng];exact hlk)] at this;exact Option.some.inj this
         have h8:=Ik (us:=Z) (cs:=qq j nj) (k:=k) (by rw [hzl.af,ng]) (by rw [ng];exact hlk) hzv.af;rw [h7] at h8;exact h8
       · have h9:=N1.af
         rw [← bN] at h9;have h10:rowOf (.slice (some ⟨b,0,none⟩) nj c,Z.set k (vZ j k))=Row 5 1 (.slice (some ⟨b,0,none⟩) nj c) nj ((Z.set k (vZ j k)).map (Value.int .u8)):=by unfold rowOf dM;dsimp only;rw [aU,hzl.af]
         rw [← h10] at h9;exact⟨h9⟩
     · have hkk:k=nj:=by omega
       subst hkk;have e2:Z=qq j k:=NM (by rw [hzl.af,ng]) (by intro i hi;rw [ng] at hi;exact hzv.af i hi);subst e2;go_wp2;go_roundw
       case rel=>
        refine⟨j+1,M1.set j (.slice a k c,qq j k),by omega,congrArg (Value.int .i64) (by omega),fa.af,?_,hQ (by rw [aU];exact hl1.af),hQ fun t ht=> ?_⟩
        · have h5:=j8.af.give rowOf M1 j rY (.slice a k c,qq j k)
          exact h5.to
        · by_cases he:t=j
          · subst he
            rw [cK rY,if_pos (by omega),EA.af, ← RY.af]
          · rw [cn (fun e=>he e.symm),hv1.af t ht]
            congr 2
            by_cases h6:t<j
            · rw [if_pos h6,if_pos (by omega)]
            · rw [if_neg h6,if_neg (by omega)]
       case measure=>simp [intOf];omega
  · have SR:j=M.length:=by omega
    subst SR;have Cv:∀t (h:t<M.length),M1[t]? =some (M[t].1,qq t M[t].2.length):=fun t h=>by rw [hv1.af t h,if_pos h]
    have HV:=hQ Cv;have HL:=hQ hl1.af;clear hv1 Cv hl1;go_wp2
    go_loopw [5,6] (fun gv i wr=> ∃(j:Nat) (gs:List Value) (D:List (Nat × Value × Nat × Value)),j≤M.length∧i= .int .i64 j∧dN w wr∧Hid (gs.length=j)∧Hid (D.length=j)∧
     Hid (∀t (h:t<M.length) (h2:t<gs.length),t<j→D[t]? =some (t,M[t].1,M[t].2.length,gs[t]))∧
     dS [Row 42 1 gv j gs,Row 42 1 (.slice la M.length lc) M.length (M.map (·.1)),big qK D,big rowOf (M1.drop j),F] wr) (fun _ i _=>M.length-(intOf i).toNat)
    case atStart=>
     refine⟨0,[],[],aG _,rfl,hst,hQ rfl,hQ rfl,hQ fun t h h2 h3=>absurd h3 (by omega),?_⟩;have h1:=(hs.nothing qK).emp;rw [← Row.nil 42 1, ← cH (l:=M1)] at h1;exact h1.to
    case round=>
     clear hst hs;obtain⟨j,gs,D,hj,rfl,hst,hgl,KI,Zf,hs⟩:=hrel;obtain⟨ga,gc,eg⟩:=Row.shape hs.sat;subst eg;rcases aB j M.length with hlt | hge
     · have rY:j<M1.length:=by rw [HL.af];exact hlt
       rw [aQ rY] at hs;have hs2:=hs.sE rowOf M1[j] (M1.drop (j+1))
       have ev:M1[j]=(M[j].1,qq j M[j].2.length):=by
        have:=HV.af j hlt
        rw [ag rY] at this;exact Option.some.inj this
       rw [ev] at hs2;obtain⟨a,c,ea⟩:=Row.shape hs2.sat;dsimp only at ea;rw [ng] at ea;obtain⟨lb,u,rfl,hu,qL,_,lz⟩:=Row.sF (hs2.row (.slice la M.length lc)) j hlt;rw [aO,ag hlt] at hu;simp only [Option.map_some,Option.some.injEq] at hu;rw [← hu,ea] at qL;have Pz:=HN.af M[j] (aE hlt)
       have e3:rowOf (.slice a M[j].2.length c,qq j M[j].2.length)=Row 5 1 (.slice a M[j].2.length c) M[j].2.length (Cu j M[j].2.length):=by unfold rowOf dM;dsimp only;rw [ng]
       rw [ea,e3] at hs2;have hg:=dS.kS (l8.start hs2.sat);have HG:=hQ hg;have EA:=hQ ea;have eR:=hQ hst;obtain⟨nj,ET⟩:∃nj,nj=M[j].2.length:=⟨_,rfl⟩;rw [← ET] at qL Pz HG EA;have RY:=hQ ET;clear hs hs2 ev ea hu hst ET hg;go_wp2
       go_loopw [7,8] (fun g i wx=> ∃(k m:Nat),k≤20∧m=nj+k∧i= .int .i64 k∧dN w wx∧dS [l8 5 (.slice a nj c) nj g m (Cu j m),Row 42 1 (.slice ga j gc) j gs,Row 42 1 (.slice (some ⟨lb,0,none⟩) M.length lc) M.length (M.map (·.1)),big qK D,big rowOf (M1.drop (j+1)),F] wx) (fun _ i _=>20-(intOf i).toNat)
       case atStart=>exact⟨0,nj,by omega,rfl,rfl,eR.af,HG.af.to⟩
       case round=>
        clear HG qL lz;obtain⟨k,m,hk,hmk,rfl,hst,hs⟩:=hrel;obtain⟨_,_,e1,hu,qL,_,lz⟩:=Row.sF (hs.row (.slice (some ⟨lb,0,none⟩) M.length lc)) j hlt;cases e1;rw [aO,ag hlt] at hu;simp only [Option.map_some,Option.some.injEq] at hu;rw [← hu,EA.af] at qL;clear hu;obtain⟨_,_,a7,c7,e1,e2,_⟩:=l8.read hs.sat;cases e1;subst e2;have fa:=hQ hst
        have j8:=hQ hs;clear hst hs;rcases aB k 20 with hlk | Ip
        · have hp:(Value.int .u8 (((j:Int)*31+((nj:Int)+(k:Int))*7+1) % 256))= .int .u8 (vZ j m):=by unfold vZ;rw [show (m:Int)=(nj:Int)+k by omega]
          have HP:=hQ hp;clear hp;obtain⟨i0,hi,hz0,hz1,jg⟩:=info_parts kY;have fp:=(j8.af.alloc (.cells #[.int .u8 (((j:Int)*31+((nj:Int)+(k:Int))*7+1) % 256)] 5)).drop;have lZ:=hQ fp
          have hc:(wr.alloc (.cells #[.int .u8 (((j:Int)*31+((nj:Int)+(k:Int))*7+1) % 256)] 5)).cell? ⟨wr.heap.size,0,none⟩=some (.int .u8 (((j:Int)*31+((nj:Int)+(k:Int))*7+1) % 256)):=cell_of_heap (mq wr _) 0;have HC:=hQ hc;clear hc;have HMK:=hQ hmk;have hm2:m≤65556:=by omega
          clear fp hmk
          go_wp2_with (at_builtin
                       refine sG rfl _ _ _ rfl 5 i0 (.int .u8 0) 1 Tryz.underlying42 hi hz0 hz1 jg rfl _ _ _ _ _ rfl lZ.af.sat ⟨wr.heap.size,0,none⟩ 1 _ rfl HC.af rfl (by simp only [maxLen];omega) (by omega) ?_
                       intro g8 w8 gp KJ
                       have mI:=hQ gp
                       clear gp lZ HC)
          refine⟨⟨k+1,m+1,by omega,by have:=HMK.af;omega,congrArg (Value.int .i64) (by omega),(fa.af.alloc _).trans KJ,?_⟩,by simp [intOf];omega⟩;have h9:=dS.kS mI.af;rw [HP.af,Im] at h9;exact h9.to
        · have hkk:k=20:=by omega
          subst hkk hmk;have gu:=j8.af;obtain⟨j0,Xf,hy0,hy1,Cw⟩:=info_parts Ct;have mY:=hQ ((dS.to (M:= [Row 42 1 (.slice ga j gc) j gs,l8 5 (.slice a nj c) nj (.slice a7 (nj+20) c7) (nj+20) (Cu j (nj+20)),Row 42 1 (.slice (some ⟨lb,0,none⟩) M.length lc) M.length (M.map (·.1)),big qK D,big rowOf (M1.drop (j+1)),F]) gu).alloc (.cells [.slice a7 (nj+20) c7].toArray 42)).drop
          have HC:=hQ (qJ wr [.slice a7 (nj+20) c7] 42);clear gu
          go_wp2_with (at_builtin
                       refine eu rfl _ _ _ rfl 42 j0 (.slice none 0 0) 1 24 Tryz.underlying39 Xf hy0 hy1 Cw rfl _ _ _ rfl mY.af.sat ⟨wr.heap.size,0,none⟩ 1 1 [.slice a7 (nj+20) c7] rfl rfl HC.af (by simp [Value.oneCell']) (by simp only [maxLen];omega) (by omega) ?_
                       intro v8 w8 gp tB _
                       obtain⟨a8,c8,e8,_,_⟩:=Row.read gp
                       subst e8
                       have mI:=hQ gp
                       have HG8:=hQ ((fa.af.alloc _).eH tB)
                       clear gp tB mY HC)
          go_roundw
          case rel=>
           refine⟨j+1,gs++ [.slice a7 (nj+20) c7],D++ [(j,.slice a nj c,nj,.slice a7 (nj+20) c7)],by omega,congrArg (Value.int .i64) (by omega),HG8.af,hQ (by simp [hgl.af]),hQ (by simp [KI.af]),hQ fun t h h2 h3=> ?_,?_⟩
           · by_cases he:t=j
             · subst he
               rw [bV (by rw [KI.af];exact aD _),KI.af,bj (by rw [hgl.af];exact aD _)];simp [EA.af, ← RY.af]
             · rw [bG (by rw [KI.af];omega),bz (by rw [hgl.af];omega)]
               exact Zf.af t h _ (by omega)
           · have h0:dS [Row 42 1 (.slice a8 (j+1) c8) (j+1) (gs++ [.slice a7 (nj+20) c7]),qK (j,.slice a nj c,nj,.slice a7 (nj+20) c7),Row 42 1 (.slice (some ⟨lb,0,none⟩) M.length lc) M.length (M.map (·.1)),big qK D,big rowOf (M1.drop (j+1)),F] w8:=⟨mI.af⟩
             have h1:=h0.snoc qK D (j,.slice a nj c,nj,.slice a7 (nj+20) c7);exact h1.to
          case measure=>simp [intOf];omega
     · have SR:j=M.length:=by omega
       subst SR;rw [dy (by rw [HL.af];exact aD _)] at hs;have j8:=hQ hs;have gg:=hQ hst;clear hs hst;go_wp2;go_loopw [9] (fun i wx=> ∃j:Nat,j≤M.length∧i= .int .i64 j∧wx=wr) (fun i _=>M.length-(intOf i).toNat)
       case atStart=>exact⟨0,aG _,rfl,rfl⟩
       case round=>
        obtain⟨j,hj,rfl,rfl⟩:=hrel;rcases aB j M.length with hlt | hge
        · have hs:=j8.af
          obtain⟨lb,u,rfl,hu,qL,_,lz⟩:=Row.sF (hs.row (.slice la M.length lc)) j hlt;rw [aO,ag hlt] at hu;simp only [Option.map_some,Option.some.injEq] at hu;obtain⟨gb,u2,rfl,Nc,SS,_,gz⟩:=Row.sF (hs.row (.slice ga M.length gc)) j hlt;have SU:j<gs.length:=by rw [hgl.af];exact hlt
          have hjd:j<D.length:=by rw [KI.af];exact hlt
          rw [ag SU] at Nc;simp only [Option.some.injEq] at Nc
          have ed:D[j]=(j,M[j].1,M[j].2.length,gs[j]):=by
           have:=Zf.af j hlt SU hlt
           rw [ag hjd] at this;exact Option.some.inj this
          have h1:=hs.take qK D j hjd;rw [ed] at h1;have h2:Sat ((l8 5 M[j].1 M[j].2.length gs[j] (M[j].2.length+20) (Cu j (M[j].2.length+20))).star _) _:=h1.sat;obtain⟨va,vc,gga,ggc,e1,e2,_,wJ,r1,r2⟩:=l8.read h2;rw [← hu,e1] at qL;rw [← Nc,e2] at SS;have Pz:=HN.af M[j] (aE hlt);generalize M[j].2.length=nj at*;have R1:=hQ r1;have R2:=hQ r2
          clear hs h1 h2 ed hu Nc e1 e2 wJ r1 r2;go_wp2;go_loopw [10] (fun i wx=> ∃k:Nat,k≤nj+20∧i= .int .i64 k∧wx=wr) (fun i _=>nj+20-(intOf i).toNat)
          case atStart=>exact⟨0,by omega,rfl,rfl⟩
          case round=>
           obtain⟨k,hk,rfl,rfl⟩:=hrel;rcases aB k (nj+20) with hlk | Ip
           · obtain⟨b2,rfl,c2⟩:=R2.af k hlk
             rw [aO,AZ hlk] at c2;have c3:wr.cell? ⟨b2,k,none⟩=some (.int .u8 (((j:Int)*31+(k:Int)*7+1) % 256)):=c2;have z2:=ay _ _ c3;clear c2;by_cases hv:k<nj
             · obtain⟨b1,rfl,c1⟩:=R1.af k hv
               rw [aO,AZ hlk] at c1;have c4:wr.cell? ⟨b1,k,none⟩=some (.int .u8 (((j:Int)*31+(k:Int)*7+1) % 256)):=c1;have z1:=ay _ _ c4;clear c1;go_wp2;exact⟨⟨k+1,by omega,congrArg (Value.int .i64) (by omega),trivial⟩,by simp [intOf];omega⟩
             · go_wp2
               exact⟨⟨k+1,by omega,congrArg (Value.int .i64) (by omega),trivial⟩,by simp [intOf];omega⟩
           · have hkk:k=nj+20:=by omega
             subst hkk;go_wp2;go_roundw
             case rel=>exact⟨j+1,by omega,congrArg (Value.int .i64) (by omega),trivial⟩
             case measure=>simp [intOf];omega
        · have SR:j=M.length:=by omega
          subst SR;go_wp2;go_ret;exact⟨rfl,gg.af,(j8.af.ER (A1:=F))⟩
end Go.Proofs.YtiegeadmgpanoaaGreatDoor.D2
