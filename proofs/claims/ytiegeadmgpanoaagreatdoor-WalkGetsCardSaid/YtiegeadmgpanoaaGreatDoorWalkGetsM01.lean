/- Small separation logic over the heap's blocks: what a call owns, and what it leaves as it was. Plain lemmas, no condition. -/
import Derived.WalkKit
import Derived.Below
import Derived.Deep.QuietTactic
import Derived.BigQuiet
import Derived.Test.YtiegeadmgpanoaaGreatDoorWalkChecksM02
import Derived.Orders
import Derived.Tactics
import Derived.Test.YtiegeadmgpanoaaGreatDoorWalkChecksM01
import Derived.Test.YtiegeadmgpanoaaGreatDoorRows
import Derived.ProofKit
import Derived.OpenShut
import Derived.WalkSpells
import Derived.WalkLawsBesides
import Derived.OwnWalkIn
import Derived.RangeFuncNested
import Derived.RangeFuncBound
import Derived.RangeFuncCalls
import Derived.RangeFuncLeaves
import Derived.Shelf.Abstract
import Derived.Shelf.RegionOpen
import Derived.TacticsInMore
import Derived.LoopNIn
import Derived.LoopIn
import Derived.Maps.Own
import Derived.Test.YtiegeadmgpanoaaGreatDoorWalkChecksM03
import Derived.OrdersIn
import Derived.TacticsIn
import Derived.Lib.AppendZeros
import Derived.Test.YtiegeadmgpanoaaGreatDoorWalkChecksM05
import Derived.Lib.Hide
import Derived.Test.YtiegeadmgpanoaaGreatDoorWalkChecksM04
import Derived.Maps.OwnSet
import Derived.Lib.SliceRun
import Derived.BigFrame
import Derived.Lib.Bytealg
import Derived.Lib.BytesEntry
import Derived.Test.YtiegeadmgpanoaaGreatDoorWalkChecksM06
set_option maxRecDepth 100000
set_option maxHeartbeats 16000000




















namespace Go.Sl
open Go.RowKit
section
variable {α:Type}
theorem big_set(f:α→Pr):∀(l:List α) (i:Nat) (_:i<l.length) (y:α),big f (l.set i y)=(f y).star (big f (l.eraseIdx i))
 | [],_,h,_=>absurd h (by simp)
 | x :: l,0,_,_=>rfl
 | x :: l,i+1,h,y=>by
   show (f x).star (big f (l.set i y))=(f y).star ((f x).star (big f (l.eraseIdx i)))
   rw [big_set f l i (by simpa using h) y,Pr.left_comm]
end
section
variable {L R:List Pr}{w:World}{F:Pr}
theorem OwnL.give {α:Type}(f:α→Pr)(l:List α)(i:Nat)(h:i<l.length)(y:α)(o:OwnL L w){R2:List Pr} [k:Pull (f y) L R] [k2:Pull (big f (l.eraseIdx i)) R R2]:OwnL (big f (l.set i y) :: R2) w:=
 ⟨(o.pull2 (A1:=f y) (A2:=big f (l.eraseIdx i))).perm (by rw [← Pr.star_assoc, ← big_set f l i h y];rfl)⟩
end
theorem full_of {α:Type}{us cs:List α}(hl:us.length=cs.length)(h:∀i,i<cs.length→us[i]? =cs[i]?):us=cs:=
 List.ext_getElem? fun i=>by
  rcases Nat.lt_or_ge i cs.length with hi | hi
  · exact h i hi
  · rw [List.getElem?_eq_none (by omega),List.getElem?_eq_none hi]
theorem full_step {α:Type}{us cs:List α}{k:Nat}(hl:us.length=cs.length)(hk:k<cs.length)(h:∀i,i<k→us[i]? =cs[i]?):∀i,i<k+1→(us.set k cs[k])[i]? =cs[i]? :=by
 intro i hi;by_cases he:i=k
 · subst he
   rw [List.getElem?_set_self (by omega),List.getElem?_eq_getElem hk]
 · rw [List.getElem?_set_ne (by omega)]
   exact h i (by omega)
end Go.Sl
namespace Go.Proofs.YtiegeadmgpanoaaGreatDoor.M2
open ChangeShapes WideShapes ChangeAt RowKit Sl Cop
theorem slice_to(T e:TypeId)(hu:Tryz.prog.underlying T=some (.slice e))(k:Nat)(hz:∀w:World,(Go.sizeOf e).run Tryz.prog w= .ok k w)(a:Option Addr)(len cap n:Nat)(hn:n≤cap)(w:World):(Instr.sliceAt T (.slice a len cap) none (some (.int .i64 (n:Int))) none).run Tryz.prog w= .ok (.slice a n cap) w:=by
 have h0:(0:Int)≤(n:Int):=by omega
 have h1:(n:Int)≤(cap:Int):=by omega
 cases a with
 | none=>go_simp
 | some x=>
   by_cases hc:cap=0
   · subst hc
     obtain rfl:n=0:=by omega
     go_simp
   · go_simp
theorem wpList_slice_to {ops:Array Oper}{rest:List Oper}{o:Oper}{ac:Act}{Q:Exit→Act→World→Prop}{w:World}(hgd:o.guard=none)(T e:TypeId)(x h:Operand)(hop:o.op=Op.slice T x none (some h) none)(hu:Tryz.prog.underlying T=some (.slice e))(k:Nat)(hz:∀w:World,(Go.sizeOf e).run Tryz.prog w= .ok k w)(a:Option Addr)(len cap n:Nat)(hn:n≤cap)
 (hx:ac.eval x= .slice a len cap) (hh:ac.eval h= .int .i64 (n:Int)) (hK:wpList Tryz.prog ops Q rest (ac.put o.dst (.slice a n cap)) w):wpList Tryz.prog ops Q (o :: rest) ac w:=by
 refine wpList_plain hgd fun K' hK'=> ?_
 have hr:=slice_to T e hu k hz a len cap n hn w;unfold Oper.wp;simp [execOp,hop,hx,hh,hr,Result.andThen]
 exact hK' _ _ hK
end Go.Proofs.YtiegeadmgpanoaaGreatDoor.M2

namespace Go.Sl
open Go.RowKit
def Grew(T:TypeId)(v:Value)(n:Nat)(g:Value)(m:Nat)(ys:List Value):Pr:=fun h=>
 n≤m∧ys.length=m∧((∃b cap sp,v= .slice (some ⟨b,0,none⟩) n cap∧g= .slice (some ⟨b,0,none⟩) m cap∧ys.length+sp.length=cap∧cap≤maxLen∧Pr.pts b (.cells (ys++sp).toArray T (0,0)) h)∨
  ((Row T 1 v n (ys.take n)).star (Row T 1 g m ys)) h)
theorem Grew.mk_apart {T:TypeId}{v g:Value}{n m:Nat}{ys:List Value}{F:Pr}{w:World}(h:Sat (((Row T 1 v n (ys.take n)).star (Row T 1 g m ys)).star F) w)(hn:n≤m):Sat ((Grew T v n g m ys).star F) w:=by
 have hl:ys.length=m:=by
  obtain⟨_,_,_,h1,_⟩:=Row.read (h.perm (B:=(Row T 1 g m ys).star ((Row T 1 v n (ys.take n)).star F)) (by ac_rfl));omega
 exact h.mono fun x hx=>⟨hn,hl,.inr hx⟩
theorem Grew.mk_one {T:TypeId}{b cap n m:Nat}{ys sp:List Value}{F:Pr}{w:World}(h:Sat ((Pr.pts b (.cells (ys++sp).toArray T (0,0))).star F) w)(hl:ys.length=m)(hn:n≤m)(hc:ys.length+sp.length=cap)(hm:cap≤maxLen):
 Sat ((Grew T (.slice (some ⟨b,0,none⟩) n cap) n (.slice (some ⟨b,0,none⟩) m cap) m ys).star F) w:=
 h.mono fun _ hx=>⟨hn,hl,.inl ⟨b,cap,sp,rfl,rfl,hc,hm,hx⟩⟩
theorem Grew.open' {T:TypeId}{v g:Value}{n m:Nat}{ys:List Value}{F:Pr}{w:World}(h:Sat ((Grew T v n g m ys).star F) w):
 n≤m∧ys.length=m∧((∃b cap sp,v= .slice (some ⟨b,0,none⟩) n cap∧g= .slice (some ⟨b,0,none⟩) m cap∧ys.length+sp.length=cap∧cap≤maxLen∧Sat ((Pr.pts b (.cells (ys++sp).toArray T (0,0))).star F) w)∨
  Sat ((Row T 1 v n (ys.take n)).star ((Row T 1 g m ys).star F)) w):=by
 obtain⟨x,⟨a,f,⟨h1,h2,hc⟩,hf,hd,rfl⟩,hw⟩:=h;refine⟨h1,h2,?_⟩;rcases hc with⟨b,cap,sp,e1,e2,e3,e4,hp⟩ | hp
 · exact .inl ⟨b,cap,sp,e1,e2,e3,e4,_,⟨a,f,hp,hf,hd,rfl⟩,hw⟩
 · exact .inr ((show Sat (((Row T 1 v n (ys.take n)).star (Row T 1 g m ys)).star F) w from⟨_,⟨a,f,hp,hf,hd,rfl⟩,hw⟩).perm (Pr.star_assoc _ _ _))
theorem Grew.start {T:TypeId}{v:Value}{n:Nat}{ys:List Value}{F:Pr}{w:World}(h:Sat ((Row T 1 v n ys).star F) w):Sat ((Grew T v n v n ys).star F) w:=by
 obtain⟨hl,(⟨rfl,rfl,hF⟩ | ⟨b,cap,sp,rfl,h1,h2,h3,h4⟩)⟩:=Row.open' h
 · have e:ys= []:=List.eq_nil_of_length_eq_zero (by omega)
   subst e;refine Grew.mk_apart ?_ (Nat.le_refl _);rw [show ([]:List Value).take 0= [] from rfl,Row.nil,Pr.emp_star,Pr.emp_star];exact hF
 · exact Grew.mk_one h4 (by omega) (Nat.le_refl _) (by omega) h3
theorem Grew.read {T:TypeId}{v g:Value}{n m:Nat}{ys:List Value}{F:Pr}{w:World}(h:Sat ((Grew T v n g m ys).star F) w):
 ∃a c a' c',v= .slice a n c∧g= .slice a' m c'∧n≤m∧ys.length=m∧
  (∀i,i<n→∃b,a=some ⟨b,0,none⟩∧w.cell? ⟨b,i,none⟩=ys[i]?)∧(∀i,i<m→∃b,a'=some ⟨b,0,none⟩∧w.cell? ⟨b,i,none⟩=ys[i]?):=by
 obtain⟨h1,h2,hc⟩:=Grew.open' h;rcases hc with⟨b,cap,sp,rfl,rfl,h3,h4,hp⟩ | hp
 · have hcell:∀i,i<m→w.cell? ⟨b,i,none⟩=ys[i]? :=fun i hi=>by
    rw [cell_of_heap hp.pts_heap];simp [List.getElem?_append_left (show i<ys.length by omega)]
   exact⟨_,_,_,_,rfl,rfl,h1,h2,fun i hi=>⟨b,rfl,hcell i (by omega)⟩,fun i hi=>⟨b,rfl,hcell i hi⟩⟩
 · obtain⟨a,c,e1,_,g1⟩:=Row.read hp
   obtain⟨a',c',e2,_,g2⟩:=Row.read hp.right;refine⟨a,c,a',c',e1,e2,h1,h2,fun i hi=> ?_,fun i hi=> ?_⟩
   · obtain⟨b,eb,hb⟩:=g1 (by omega)
     refine⟨b,eb,((hb i (by omega)).1).trans ?_⟩;rw [List.getElem?_take,if_pos hi]
   · obtain⟨b,eb,hb⟩:=g2 (by omega)
     exact⟨b,eb,(hb i (by omega)).1⟩
section
variable {P:Program}{w:World}{F:Pr}
theorem run_append_grew(t ty e:TypeId)(i:TypeInfo)(z:Value)(bytes:Nat)(ht:P.underlying t=some (.slice e))(hi:P.info? e=some i)(hz:i.zero=some z)
 (hsize:i.size=1) (hby:i.bytes=bytes) (hzs:z.cells.size=1)
 (v g:Value) (n m:Nat) (ys:List Value) (hown:Sat ((Grew e v n g m ys).star F) w)
 (a:Addr) (c:Nat) (u:Value) (hu:w.cell? a=some u) (h1:u.oneCell'=true)
 (h63:m+1≤maxLen) (hbytes:(m+1)*bytes≤140737488355328):
 ∃g' w',(Builtin.append_ #[t,t] ty #[g,.slice (some a) 1 c]).run P w= .ok g' w'∧Sat ((Grew e v n g' (m+1) (ys++ [u])).star F) w'∧Stays w w':=by
 have hsmall:m+1≤9223372036854775807:=by simp only [maxLen] at h63;omega
 have hnews:∀j x,[u][j]? =some x→w.cell? (a.add j)=some x:=fun j x hx=>by
  cases j with
  | zero=>
    simp at hx
    subst hx;have e0:a.add 0=a:=by unfold Addr.add;cases a;split<;>simp_all
    rw [e0];exact hu
  | succ j=>simp at hx
 have hone:∀x∈ [u],x.oneCell'=true:=fun x hx=>by cases List.mem_singleton.1 hx;exact h1
 obtain⟨hnm,hl,hc⟩:=Grew.open' hown;rcases hc with⟨b,cap,sp,rfl,rfl,h3,h4,hp⟩ | hp
 · have hg:=hp.pts_heap
   by_cases hroom:m+1≤cap
   · have hsz:(ys++sp).toArray.size=cap:=by simp;omega
     have hr:=run_append_room (P:=P) w t ty e i ht hi b m cap _ hg a 1 c [u] (by simp [hsize]) hnews hone hroom (by rw [hsize,hsz];simpa using hroom);refine⟨_,_,hr,?_,⟨rfl,rfl,rfl,by simp⟩⟩
     have hp':=hp.put (w':=w.setRow b ((ys++sp).toArray.toList.take (m*i.size)++ [u]++(ys++sp).toArray.toList.drop (m*i.size+ [u].length)).toArray)
      (setRow_heap w b _ _ e _ hg) (fun k _ hk=>setRow_other w b k _ hk)
     have he:(ys++sp).toArray.toList.take (m*i.size)++ [u]++(ys++sp).toArray.toList.drop (m*i.size+ [u].length)=(ys++ [u])++sp.drop 1:=by
      show (ys++sp).take (m*i.size)++ [u]++(ys++sp).drop (m*i.size+1)=_
      rw [hsize,Nat.mul_one, ← hl,List.take_left,List.drop_append];simp
     rw [he] at hp' ⊢;exact Grew.mk_one hp' (by simp [hl]) (by omega) (by simp only [List.length_append,List.length_drop,List.length_singleton];omega) h4
   · have hsp:sp= []:=List.eq_nil_of_length_eq_zero (by omega)
     subst hsp;rw [List.append_nil] at hp hg
     have holds:∀j x,ys[j]? =some x→w.cell? ((⟨b,0,none⟩:Addr).add j)=some x:=by
      intro j x hx;rw [add_cell,cell_of_heap hg];simpa using hx
     have hr:=run_append_grow (P:=P) w t ty e i z ht hi hz ⟨b,0,none⟩ m cap ys (by rw [hsize];omega) holds a 1 c [u] (by simp [hsize]) hnews (by omega) (by omega) (growslice_fits (by omega) (by rw [hby];exact hbytes));refine⟨_,_,hr,?_,⟨rfl,rfl,rfl,by simp⟩⟩
     have hold:Sat ((Row e 1 (.slice (some ⟨b,0,none⟩) n cap) n (ys.take n)).star F) w:=by
      refine Row.mk' (sp:=ys.drop n) (by simp;omega) (by simp only [List.length_take,List.length_drop,Nat.mul_one];simp at h3;omega) (by simp at h3;omega) h4 ?_;rw [List.take_append_drop];exact hp
     have hnew:=row_fresh (e:=e) (size:=1) (n:=m+1) (cap:=grownCap w (m+1) cap e) (xs:=ys++ [u]) z.cells hold (by simp [hl]) hzs (grownCap_ge w (m+1) cap e) (grownCap_le_maxLen w (m+1) cap e h63)
     have hnew2:Sat ((Row e 1 (.slice (some ⟨w.heap.size,0,none⟩) (m+1) (grownCap w (m+1) cap e)) (m+1) (ys++ [u])).star ((Row e 1 (.slice (some ⟨b,0,none⟩) n cap) n (ys.take n)).star F)) (w.drew.alloc (.cells (ys.toArray++ #[u]++Builtin.zeroCells z.cells (grownCap w (m+1) cap e-(m+1))) e)):=by simpa using hnew
     refine Grew.mk_apart ?_ (by omega);rw [List.take_append_of_le_length (by omega)];exact hnew2.perm (by ac_rfl)
 · obtain⟨g',w',hr,h5,hg,_⟩:=run_append_sl (P:=P) t ty e i z 1 bytes ht hi hz hsize hby hzs g m ys (hp.perm (B:=(Row e 1 g m ys).star ((Row e 1 v n (ys.take n)).star F)) (by ac_rfl)) a 1 c [u] (by simp) hnews hone h63 hbytes
   refine⟨g',w',hr,Grew.mk_apart ?_ (by omega),⟨hg.os,hg.tape,hg.output,hg.size⟩⟩;rw [List.take_append_of_le_length (by omega)];exact h5.perm (by ac_rfl)
theorem wp_append_grew {o:Oper}{a:Act}{K:Act→World→Prop}{Q:Exit→Act→World→Prop}(s x:Operand)(t:TypeId)
 (ho:o.op= .call { callee:= .builtin .append,args:= #[s,x],argTypes:= #[t,t] })
 (e:TypeId) (i:TypeInfo) (z:Value) (bytes:Nat) (ht:P.underlying t=some (.slice e)) (hi:P.info? e=some i) (hz:i.zero=some z)
 (hsize:i.size=1) (hby:i.bytes=bytes) (hzs:z.cells.size=1)
 (v g:Value) (n m:Nat) (ys:List Value) (hs:a.eval s=g) (hown:Sat ((Grew e v n g m ys).star F) w)
 (ad:Addr) (c:Nat) (u:Value) (hx:a.eval x= .slice (some ad) 1 c) (hu:w.cell? ad=some u) (h1:u.oneCell'=true)
 (h63:m+1≤maxLen) (hbytes:(m+1)*bytes≤140737488355328)
 (h:∀g' w',Sat ((Grew e v n g' (m+1) (ys++ [u])).star F) w'→Stays w w'→K (a.put o.dst g') w'):o.wp P a w K Q:=by
 obtain⟨g',w',hr,h2,h3⟩:=run_append_grew (P:=P) t o.type e i z bytes ht hi hz hsize hby hzs v g n m ys hown ad c u hu h1 h63 hbytes;unfold Oper.wp execOp;simp only [ho,resolve,invoke,builtin,Sem.run_bind,Sem.run_pure,Result.andThen_ok,List.map_toArray,List.map_cons,List.map_nil,hs,hx,hr];exact h g' w' h2 h3
theorem wpList_append_grew {ops:Array Oper}{rest:List Oper}{o:Oper}{a:Act}{Q:Exit→Act→World→Prop}(hgd:o.guard=none)(s x:Operand)(t:TypeId)
 (ho:o.op= .call { callee:= .builtin .append,args:= #[s,x],argTypes:= #[t,t] })
 (e:TypeId) (i:TypeInfo) (z:Value) (bytes:Nat) (ht:P.underlying t=some (.slice e)) (hi:P.info? e=some i) (hz:i.zero=some z)
 (hsize:i.size=1) (hby:i.bytes=bytes) (hzs:z.cells.size=1)
 (v g:Value) (n m:Nat) (ys:List Value) (hs:a.eval s=g) (hown:Sat ((Grew e v n g m ys).star F) w)
 (ad:Addr) (c:Nat) (u:Value) (hx:a.eval x= .slice (some ad) 1 c) (hu:w.cell? ad=some u) (h1:u.oneCell'=true)
 (h63:m+1≤maxLen) (hbytes:(m+1)*bytes≤140737488355328)
 (h:∀g' w',Sat ((Grew e v n g' (m+1) (ys++ [u])).star F) w'→Stays w w'→wpList P ops Q rest (a.put o.dst g') w'):wpList P ops Q (o :: rest) a w:=
 wpList_plain hgd fun _ hK=>wp_append_grew s x t ho e i z bytes ht hi hz hsize hby hzs v g n m ys hs hown ad c u hx hu h1 h63 hbytes fun g' w' h2 h3=>hK _ _ (h g' w' h2 h3)
end
end Go.Sl

namespace Go.Cop
def patB(i k:Nat):Int:=((i:Int)*31+(k:Int)*7+1) % 256
def patL(i n:Nat):List Int:=(List.range n).map (patB i)
theorem patL_len(i n:Nat):(patL i n).length=n:=by simp [patL]
theorem patL_at {i n k:Nat}(h:k<n):(patL i n)[k]? =some (patB i k):=by simp [patL,h]
theorem patL_snoc(i n:Nat):patL i n++ [patB i n]=patL i (n+1):=by simp [patL,List.range_succ]
end Go.Cop
namespace Go.Proofs.YtiegeadmgpanoaaGreatDoor.G8
open ChangeShapes WideShapes ChangeAt RowKit Sl Cop G2
theorem infoRows:(Tryz.prog.info? 42).map (fun i=>(i.zero,i.size,i.bytes))=some (some (.slice none 0 0),1,24):=by kernel_rfl
def rowOf(x:Value × List Int):Pr:=BytesRow x.1 x.2
abbrev patV(i n:Nat):List Value:=(patL i n).map (Value.int .u8)
theorem patV_snoc(i n:Nat):patV i n++ [Value.int .u8 (patB i n)]=patV i (n+1):=by simp only [patV, ← patL_snoc,List.map_append,List.map_cons,List.map_nil]
def grewOf(x:Nat × Value × Nat × Value):Pr:=Grew 5 x.2.1 x.2.2.1 x.2.2.2 (x.2.2.1+20) (patV x.1 (x.2.2.1+20))
theorem apart_any(lv:Value)(M:List (Value × List Int))(hm:M.length≤4000)(hn:∀x∈M,x.2.length≤65536)(F:Pr)(w:World)(hF:Sat ((Row 42 1 lv M.length (M.map (·.1))).star ((big rowOf M).star F)) w):
 Calls Tryz.prog 26 #[lv] w fun e w'=>e= .returned (.bool true)∧Stays w w'∧Sat F w':=by
 obtain⟨la,lc,rfl⟩:=Row.shape hF;have hs0:=hQ (OwnL.in2 hF);have HN:=hQ hn;have hmi:(M.length:Int)≤4000:=by omega
 clear hF hn;go_enter Tryz.func26,Tryz.ntmps26
 go_wp2
 go_loopw [3] (fun i wr=> ∃(j:Nat) (M1:List (Value × List Int)),j≤M.length∧i= .int .i64 j∧Stays w wr∧OwnL [Row 42 1 (.slice la M.length lc) M.length (M.map (·.1)),big rowOf M1,F] wr∧Hid (M1.length=M.length)∧
  Hid (∀t (h:t<M.length),M1[t]? =some (M[t].1,if t<j then patL t M[t].2.length else M[t].2))) (fun i _=>M.length-(intOf i).toNat)
 case atStart=>exact⟨0,M,Nat.zero_le _,rfl,Stays.refl w,hs0.out,hQ rfl,hQ fun t h=>by rw [if_neg (by omega),List.getElem?_eq_getElem h]⟩
 case round=>
  obtain⟨j,M1,hj,rfl,hst,hs,hl1,hv1⟩:=hrel;clear hs0;rcases Nat.lt_or_ge j M.length with hlt | hge
  · have hj1:j<M1.length:=by rw [hl1.out];exact hlt
    have hs2:=hs.take rowOf M1 j hj1
    have ev:M1[j]=(M[j].1,M[j].2):=by
     have:=hv1.out j hlt
     rw [List.getElem?_eq_getElem hj1,if_neg (by omega)] at this;exact Option.some.inj this
    rw [ev] at hs2;obtain⟨a,c,ea⟩:=Row.shape hs2.sat;dsimp only at ea;obtain⟨lb,u,rfl,hu,lcell,_,lz⟩:=Row.at1 (hs2.row (.slice la M.length lc)) j hlt;rw [List.getElem?_map,List.getElem?_eq_getElem hlt] at hu;simp only [Option.map_some,Option.some.injEq] at hu;rw [← hu,ea] at lcell;have hnj:=HN.out M[j] (List.getElem_mem hlt);have HS2:=hQ hs2;have EA:=hQ ea;have HST:=hQ hst
    obtain⟨nj,hnj2⟩:∃nj,nj=M[j].2.length:=⟨_,rfl⟩;rw [← hnj2] at lcell hnj;have HNJ:=hQ hnj2;clear hs hs2 ev ea hu hst hnj2;go_wp2
    go_loopw [4] (fun i wx=> ∃(k:Nat) (Z:List Int),k≤nj∧i= .int .i64 k∧Stays w wx∧Hid (Z.length=nj)∧Hid (∀t,t<k→Z[t]? =(patL j nj)[t]?)∧
     OwnL [rowOf (.slice a nj c,Z),Row 42 1 (.slice (some ⟨lb,0,none⟩) M.length lc) M.length (M.map (·.1)),big rowOf (M1.eraseIdx j),F] wx) (fun i _=>nj-(intOf i).toNat)
    case atStart=>
     refine⟨0,M[j].2,Nat.zero_le _,rfl,HST.out,hQ HNJ.out.symm,hQ fun t h=>absurd h (by omega),?_⟩;have h1:=HS2.out;rw [EA.out, ← HNJ.out] at h1;exact h1.to
    case round=>
     obtain⟨k,Z,hk,rfl,hst,hzl,hzv,hs⟩:=hrel;obtain⟨_,_,e1,hu,lcell2,_,lz2⟩:=Row.at1 (hs.row (.slice (some ⟨lb,0,none⟩) M.length lc)) j hlt;cases e1;rw [List.getElem?_map,List.getElem?_eq_getElem hlt] at hu;simp only [Option.map_some,Option.some.injEq] at hu;rw [← hu,EA.out, ← HNJ.out] at lcell2;clear hu lcell lz;have HST2:=hQ hst;have HS3:=hQ hs;clear hst hs
     rcases Nat.lt_or_ge k nj with hlk | hgk
     · have hz:=HS3.out.sat
       have hz1:Sat ((Row 5 1 (.slice a nj c) nj (Z.map (Value.int .u8))).star (starL [Row 42 1 (.slice (some ⟨lb,0,none⟩) M.length lc) M.length (M.map (·.1)),big rowOf (M1.eraseIdx j),F])) wr:=by
        have:rowOf (.slice a nj c,Z)=Row 5 1 (.slice a nj c) nj (Z.map (Value.int .u8)):=by unfold rowOf BytesRow;dsimp only;rw [hzl.out]
        rw [← this];exact hz
       obtain⟨b,x,rfl,_,c1,f1,z1⟩:=Row.at1 hz1 k hlk;have N1:=hQ (Row.put1 hz1 k (by rw [List.length_map,hzl.out];exact hlk) (.int .u8 (patB j k)));clear hz hz1;have hp:patB j k=((j:Int)*31+(k:Int)*7+1) % 256:=rfl;have HP:=hQ hp;clear hp;go_wp2
       refine⟨⟨k+1,Z.set k (patB j k),by omega,congrArg (Value.int .i64) (by omega),HST2.out.setCell _ _,hQ (by rw [List.length_set];exact hzl.out),hQ ?_,?_⟩,by simp [intOf];omega⟩
       · have h7:(patL j nj)[k]'(by rw [patL_len];exact hlk)=patB j k:=by
          have:=patL_at (i:=j) hlk
          rw [List.getElem?_eq_getElem (by rw [patL_len];exact hlk)] at this;exact Option.some.inj this
         have h8:=full_step (us:=Z) (cs:=patL j nj) (k:=k) (by rw [hzl.out,patL_len]) (by rw [patL_len];exact hlk) hzv.out;rw [h7] at h8;exact h8
       · have h9:=N1.out
         rw [← List.map_set] at h9;have h10:rowOf (.slice (some ⟨b,0,none⟩) nj c,Z.set k (patB j k))=Row 5 1 (.slice (some ⟨b,0,none⟩) nj c) nj ((Z.set k (patB j k)).map (Value.int .u8)):=by unfold rowOf BytesRow;dsimp only;rw [List.length_set,hzl.out]
         rw [← h10] at h9;exact⟨h9⟩
     · have hkk:k=nj:=by omega
       subst hkk;have e2:Z=patL j k:=full_of (by rw [hzl.out,patL_len]) (by intro i hi;rw [patL_len] at hi;exact hzv.out i hi);subst e2;go_wp2;go_roundw
       case rel=>
        refine⟨j+1,M1.set j (.slice a k c,patL j k),by omega,congrArg (Value.int .i64) (by omega),HST2.out,?_,hQ (by rw [List.length_set];exact hl1.out),hQ fun t ht=> ?_⟩
        · have h5:=HS3.out.give rowOf M1 j hj1 (.slice a k c,patL j k)
          exact h5.to
        · by_cases he:t=j
          · subst he
            rw [List.getElem?_set_self hj1,if_pos (by omega),EA.out, ← HNJ.out]
          · rw [List.getElem?_set_ne (fun e=>he e.symm),hv1.out t ht]
            congr 2
            by_cases h6:t<j
            · rw [if_pos h6,if_pos (by omega)]
            · rw [if_neg h6,if_neg (by omega)]
       case measure=>simp [intOf];omega
  · have hjj:j=M.length:=by omega
    subst hjj;have hv2:∀t (h:t<M.length),M1[t]? =some (M[t].1,patL t M[t].2.length):=fun t h=>by rw [hv1.out t h,if_pos h]
    have HV:=hQ hv2;have HL:=hQ hl1.out;clear hv1 hv2 hl1;go_wp2
    go_loopw [5,6] (fun gv i wr=> ∃(j:Nat) (gs:List Value) (D:List (Nat × Value × Nat × Value)),j≤M.length∧i= .int .i64 j∧Stays w wr∧Hid (gs.length=j)∧Hid (D.length=j)∧
     Hid (∀t (h:t<M.length) (h2:t<gs.length),t<j→D[t]? =some (t,M[t].1,M[t].2.length,gs[t]))∧
     OwnL [Row 42 1 gv j gs,Row 42 1 (.slice la M.length lc) M.length (M.map (·.1)),big grewOf D,big rowOf (M1.drop j),F] wr) (fun _ i _=>M.length-(intOf i).toNat)
    case atStart=>
     refine⟨0,[],[],Nat.zero_le _,rfl,hst,hQ rfl,hQ rfl,hQ fun t h h2 h3=>absurd h3 (by omega),?_⟩;have h1:=(hs.nothing grewOf).emp;rw [← Row.nil 42 1, ← List.drop_zero (l:=M1)] at h1;exact h1.to
    case round=>
     clear hst hs;obtain⟨j,gs,D,hj,rfl,hst,hgl,hdl,hdv,hs⟩:=hrel;obtain⟨ga,gc,eg⟩:=Row.shape hs.sat;subst eg;rcases Nat.lt_or_ge j M.length with hlt | hge
     · have hj1:j<M1.length:=by rw [HL.out];exact hlt
       rw [List.drop_eq_getElem_cons hj1] at hs;have hs2:=hs.uncons rowOf M1[j] (M1.drop (j+1))
       have ev:M1[j]=(M[j].1,patL j M[j].2.length):=by
        have:=HV.out j hlt
        rw [List.getElem?_eq_getElem hj1] at this;exact Option.some.inj this
       rw [ev] at hs2;obtain⟨a,c,ea⟩:=Row.shape hs2.sat;dsimp only at ea;rw [patL_len] at ea;obtain⟨lb,u,rfl,hu,lcell,_,lz⟩:=Row.at1 (hs2.row (.slice la M.length lc)) j hlt;rw [List.getElem?_map,List.getElem?_eq_getElem hlt] at hu;simp only [Option.map_some,Option.some.injEq] at hu;rw [← hu,ea] at lcell;have hnj:=HN.out M[j] (List.getElem_mem hlt)
       have e3:rowOf (.slice a M[j].2.length c,patL j M[j].2.length)=Row 5 1 (.slice a M[j].2.length c) M[j].2.length (patV j M[j].2.length):=by unfold rowOf BytesRow;dsimp only;rw [patL_len]
       rw [ea,e3] at hs2;have hg:=OwnL.of1 (Grew.start hs2.sat);have HG:=hQ hg;have EA:=hQ ea;have HST:=hQ hst;obtain⟨nj,hnj2⟩:∃nj,nj=M[j].2.length:=⟨_,rfl⟩;rw [← hnj2] at lcell hnj HG EA;have HNJ:=hQ hnj2;clear hs hs2 ev ea hu hst hnj2 hg;go_wp2
       go_loopw [7,8] (fun g i wx=> ∃(k m:Nat),k≤20∧m=nj+k∧i= .int .i64 k∧Stays w wx∧OwnL [Grew 5 (.slice a nj c) nj g m (patV j m),Row 42 1 (.slice ga j gc) j gs,Row 42 1 (.slice (some ⟨lb,0,none⟩) M.length lc) M.length (M.map (·.1)),big grewOf D,big rowOf (M1.drop (j+1)),F] wx) (fun _ i _=>20-(intOf i).toNat)
       case atStart=>exact⟨0,nj,by omega,rfl,rfl,HST.out,HG.out.to⟩
       case round=>
        clear HG lcell lz;obtain⟨k,m,hk,hmk,rfl,hst,hs⟩:=hrel;obtain⟨_,_,e1,hu,lcell,_,lz⟩:=Row.at1 (hs.row (.slice (some ⟨lb,0,none⟩) M.length lc)) j hlt;cases e1;rw [List.getElem?_map,List.getElem?_eq_getElem hlt] at hu;simp only [Option.map_some,Option.some.injEq] at hu;rw [← hu,EA.out] at lcell;clear hu;obtain⟨_,_,a7,c7,e1,e2,_⟩:=Grew.read hs.sat;cases e1;subst e2;have HST2:=hQ hst
        have HS3:=hQ hs;clear hst hs;rcases Nat.lt_or_ge k 20 with hlk | hgk
        · have hp:(Value.int .u8 (((j:Int)*31+((nj:Int)+(k:Int))*7+1) % 256))= .int .u8 (patB j m):=by unfold patB;rw [show (m:Int)=(nj:Int)+k by omega]
          have HP:=hQ hp;clear hp;obtain⟨i0,hi,hz0,hz1,hz2⟩:=info_parts infoByte;have hs4:=(HS3.out.alloc (.cells #[.int .u8 (((j:Int)*31+((nj:Int)+(k:Int))*7+1) % 256)] 5)).drop;have HS4:=hQ hs4
          have hc:(wr.alloc (.cells #[.int .u8 (((j:Int)*31+((nj:Int)+(k:Int))*7+1) % 256)] 5)).cell? ⟨wr.heap.size,0,none⟩=some (.int .u8 (((j:Int)*31+((nj:Int)+(k:Int))*7+1) % 256)):=cell_of_heap (heap_new wr _) 0;have HC:=hQ hc;clear hc;have HMK:=hQ hmk;have hm2:m≤65556:=by omega
          clear hs4 hmk
          go_wp2_with (at_builtin
                       refine wpList_append_grew rfl _ _ _ rfl 5 i0 (.int .u8 0) 1 Tryz.underlying42 hi hz0 hz1 hz2 rfl _ _ _ _ _ rfl HS4.out.sat ⟨wr.heap.size,0,none⟩ 1 _ rfl HC.out rfl (by simp only [maxLen];omega) (by omega) ?_
                       intro g8 w8 hs8 st8
                       have HS8:=hQ hs8
                       clear hs8 HS4 HC)
          refine⟨⟨k+1,m+1,by omega,by have:=HMK.out;omega,congrArg (Value.int .i64) (by omega),(HST2.out.alloc _).trans st8,?_⟩,by simp [intOf];omega⟩;have h9:=OwnL.of1 HS8.out;rw [HP.out,patV_snoc] at h9;exact h9.to
        · have hkk:k=20:=by omega
          subst hkk hmk;have hs5:=HS3.out;obtain⟨j0,hj0,hy0,hy1,hy2⟩:=info_parts infoRows;have HS6:=hQ ((OwnL.to (M:= [Row 42 1 (.slice ga j gc) j gs,Grew 5 (.slice a nj c) nj (.slice a7 (nj+20) c7) (nj+20) (patV j (nj+20)),Row 42 1 (.slice (some ⟨lb,0,none⟩) M.length lc) M.length (M.map (·.1)),big grewOf D,big rowOf (M1.drop (j+1)),F]) hs5).alloc (.cells [.slice a7 (nj+20) c7].toArray 42)).drop
          have HC:=hQ (fresh_cells wr [.slice a7 (nj+20) c7] 42);clear hs5
          go_wp2_with (at_builtin
                       refine wpList_append_sl rfl _ _ _ rfl 42 j0 (.slice none 0 0) 1 24 Tryz.underlying39 hj0 hy0 hy1 hy2 rfl _ _ _ rfl HS6.out.sat ⟨wr.heap.size,0,none⟩ 1 1 [.slice a7 (nj+20) c7] rfl rfl HC.out (by simp [Value.oneCell']) (by simp only [maxLen];omega) (by omega) ?_
                       intro v8 w8 hs8 hg8 _
                       obtain⟨a8,c8,e8,_,_⟩:=Row.read hs8
                       subst e8
                       have HS8:=hQ hs8
                       have HG8:=hQ ((HST2.out.alloc _).of_grown hg8)
                       clear hs8 hg8 HS6 HC)
          go_roundw
          case rel=>
           refine⟨j+1,gs++ [.slice a7 (nj+20) c7],D++ [(j,.slice a nj c,nj,.slice a7 (nj+20) c7)],by omega,congrArg (Value.int .i64) (by omega),HG8.out,hQ (by simp [hgl.out]),hQ (by simp [hdl.out]),hQ fun t h h2 h3=> ?_,?_⟩
           · by_cases he:t=j
             · subst he
               rw [List.getElem?_append_right (by rw [hdl.out];exact Nat.le_refl _),hdl.out,List.getElem_append_right (by rw [hgl.out];exact Nat.le_refl _)];simp [EA.out, ← HNJ.out]
             · rw [List.getElem?_append_left (by rw [hdl.out];omega),List.getElem_append_left (by rw [hgl.out];omega)]
               exact hdv.out t h _ (by omega)
           · have h0:OwnL [Row 42 1 (.slice a8 (j+1) c8) (j+1) (gs++ [.slice a7 (nj+20) c7]),grewOf (j,.slice a nj c,nj,.slice a7 (nj+20) c7),Row 42 1 (.slice (some ⟨lb,0,none⟩) M.length lc) M.length (M.map (·.1)),big grewOf D,big rowOf (M1.drop (j+1)),F] w8:=⟨HS8.out⟩
             have h1:=h0.snoc grewOf D (j,.slice a nj c,nj,.slice a7 (nj+20) c7);exact h1.to
          case measure=>simp [intOf];omega
     · have hjj:j=M.length:=by omega
       subst hjj;rw [List.drop_of_length_le (by rw [HL.out];exact Nat.le_refl _)] at hs;have HS3:=hQ hs;have HST3:=hQ hst;clear hs hst;go_wp2;go_loopw [9] (fun i wx=> ∃j:Nat,j≤M.length∧i= .int .i64 j∧wx=wr) (fun i _=>M.length-(intOf i).toNat)
       case atStart=>exact⟨0,Nat.zero_le _,rfl,rfl⟩
       case round=>
        obtain⟨j,hj,rfl,rfl⟩:=hrel;rcases Nat.lt_or_ge j M.length with hlt | hge
        · have hs:=HS3.out
          obtain⟨lb,u,rfl,hu,lcell,_,lz⟩:=Row.at1 (hs.row (.slice la M.length lc)) j hlt;rw [List.getElem?_map,List.getElem?_eq_getElem hlt] at hu;simp only [Option.map_some,Option.some.injEq] at hu;obtain⟨gb,u2,rfl,hu2,gcell,_,gz⟩:=Row.at1 (hs.row (.slice ga M.length gc)) j hlt;have hjg:j<gs.length:=by rw [hgl.out];exact hlt
          have hjd:j<D.length:=by rw [hdl.out];exact hlt
          rw [List.getElem?_eq_getElem hjg] at hu2;simp only [Option.some.injEq] at hu2
          have ed:D[j]=(j,M[j].1,M[j].2.length,gs[j]):=by
           have:=hdv.out j hlt hjg hlt
           rw [List.getElem?_eq_getElem hjd] at this;exact Option.some.inj this
          have h1:=hs.take grewOf D j hjd;rw [ed] at h1;have h2:Sat ((Grew 5 M[j].1 M[j].2.length gs[j] (M[j].2.length+20) (patV j (M[j].2.length+20))).star _) _:=h1.sat;obtain⟨va,vc,gga,ggc,e1,e2,_,hyl,r1,r2⟩:=Grew.read h2;rw [← hu,e1] at lcell;rw [← hu2,e2] at gcell;have hnj:=HN.out M[j] (List.getElem_mem hlt);generalize M[j].2.length=nj at*;have R1:=hQ r1;have R2:=hQ r2
          clear hs h1 h2 ed hu hu2 e1 e2 hyl r1 r2;go_wp2;go_loopw [10] (fun i wx=> ∃k:Nat,k≤nj+20∧i= .int .i64 k∧wx=wr) (fun i _=>nj+20-(intOf i).toNat)
          case atStart=>exact⟨0,by omega,rfl,rfl⟩
          case round=>
           obtain⟨k,hk,rfl,rfl⟩:=hrel;rcases Nat.lt_or_ge k (nj+20) with hlk | hgk
           · obtain⟨b2,rfl,c2⟩:=R2.out k hlk
             rw [List.getElem?_map,patL_at hlk] at c2;have c3:wr.cell? ⟨b2,k,none⟩=some (.int .u8 (((j:Int)*31+(k:Int)*7+1) % 256)):=c2;have z2:=World.block_lt_of_cell? _ _ c3;clear c2;by_cases hv:k<nj
             · obtain⟨b1,rfl,c1⟩:=R1.out k hv
               rw [List.getElem?_map,patL_at hlk] at c1;have c4:wr.cell? ⟨b1,k,none⟩=some (.int .u8 (((j:Int)*31+(k:Int)*7+1) % 256)):=c1;have z1:=World.block_lt_of_cell? _ _ c4;clear c1;go_wp2;exact⟨⟨k+1,by omega,congrArg (Value.int .i64) (by omega),trivial⟩,by simp [intOf];omega⟩
             · go_wp2
               exact⟨⟨k+1,by omega,congrArg (Value.int .i64) (by omega),trivial⟩,by simp [intOf];omega⟩
           · have hkk:k=nj+20:=by omega
             subst hkk;go_wp2;go_roundw
             case rel=>exact⟨j+1,by omega,congrArg (Value.int .i64) (by omega),trivial⟩
             case measure=>simp [intOf];omega
        · have hjj:j=M.length:=by omega
          subst hjj;go_wp2;go_ret;exact⟨rfl,HST3.out,(HS3.out.end1 (A1:=F))⟩
end Go.Proofs.YtiegeadmgpanoaaGreatDoor.G8













