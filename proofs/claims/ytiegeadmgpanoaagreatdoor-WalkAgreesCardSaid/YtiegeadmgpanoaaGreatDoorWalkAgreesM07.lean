/- The program's Check; the conditions stand as hypotheses. -/
import Derived.Test.YtiegeadmgpanoaaGreatDoorWalkChecksM27
import Derived.Test.YtiegeadmgpanoaaGreatDoorWalkAgreesM05
import Derived.Test.YtiegeadmgpanoaaGreatDoorWalkChecksM28
import Derived.Test.YtiegeadmgpanoaaGreatDoorWalkChecksM23
import Derived.Test.YtiegeadmgpanoaaGreatDoorWalkChecksM17
import Derived.Test.YtiegeadmgpanoaaGreatDoorWalkAgreesM03
import Derived.Test.YtiegeadmgpanoaaGreatDoorWalkChecksM14
import Derived.Test.YtiegeadmgpanoaaGreatDoorRows
import Derived.WalkKit
import Derived.ProofKit
import Derived.LaidMore
import Derived.OpenShut
import Derived.Stop.Joined
import Derived.Test.YtiegeadmgpanoaaGreatDoorWalkChecksM22
import Derived.Test.YtiegeadmgpanoaaGreatDoorWalkChecksM11
import Derived.Test.YtiegeadmgpanoaaGreatDoorWalkAgreesM02
import Derived.Test.YtiegeadmgpanoaaGreatDoorWalkChecksM20
import Derived.Test.YtiegeadmgpanoaaGreatDoorWalkChecksM05
import Derived.Test.YtiegeadmgpanoaaGreatDoorWalkAgreesM01
import Derived.Test.YtiegeadmgpanoaaGreatDoorWalkChecksM16
import Derived.Test.YtiegeadmgpanoaaGreatDoorWalkChecksM03
import Derived.Test.YtiegeadmgpanoaaGreatDoorWalkChecksM13
import Derived.Deep.LoopGhost
import Derived.WalkMore
import Derived.Deep.CutRange
import Derived.Test.YtiegeadmgpanoaaGreatDoorWalkChecksM31
import Derived.Test.YtiegeadmgpanoaaGreatDoorWalkChecksM26
import Derived.Test.YtiegeadmgpanoaaGreatDoorWalkChecksM25
import Derived.Test.YtiegeadmgpanoaaGreatDoorWalkChecksM01
set_option maxRecDepth 100000
set_option maxHeartbeats 16000000




namespace Go.Proofs.YtiegeadmgpanoaaGreatDoor.L8
open ChangeShapes WideShapes ChangeAt RowKit Sl Cop Deep G2 Q4 S4 L5
instance:Inhabited (Value × List Int):=⟨(.slice none 0 0,[])⟩
section
variable {H:Type}{enc:TypeId × Value→H}
end
end Go.Proofs.YtiegeadmgpanoaaGreatDoor.L8
namespace Go.Cop
theorem stand_of_check {look:Int→Option PageV}(ok:PgsOk look){root height items:Int}(h:checkK look root height items=0):∃L,StandT look root height items L:=by
 rcases tree_of_check ok h with⟨rfl,rfl,rfl⟩ | ⟨h0,h1,h2,L,hT,hL⟩
 · exact⟨[],.inl ⟨rfl,rfl,rfl,rfl⟩⟩
 · exact⟨L,.inr ⟨h0,hL,(height-1).toNat,by omega,by omega,hT⟩⟩
end Go.Cop
namespace Go.Proofs.YtiegeadmgpanoaaGreatDoor.Z7
open ChangeShapes WideShapes ChangeAt RowKit Sl Cop F3 G2 J2 Q3 V3 G4 X3 M5 N2 L6 S6 J7 N5 S5 M2 K7 X5 Y5 V7 X7
end Go.Proofs.YtiegeadmgpanoaaGreatDoor.Z7

namespace Go.Cop
open Go.Proofs.YtiegeadmgpanoaaGreatDoor.L6
theorem items_kid(k:Int):∀(l:List ItemV) (i:Nat) (p:List Int),itemsE k i p l=0→∀x∈l,kidOk k x=true
 | [],_,_,_,x,hx=>by cases hx
 | y :: l,i,p,h,x,hx=>by
   unfold itemsE at h
   have h1:itemE k i p y=0:=by
    by_cases h0:itemE k i p y=0
    · exact h0
    · rw [if_neg h0] at h;exact h
   rw [if_pos h1] at h;rcases List.mem_cons.1 hx with rfl | hx
   · unfold itemE at h1
     by_cases ha:keyOk k i x=false
     · rw [if_pos ha] at h1;cases h1
     · rw [if_neg ha] at h1
       by_cases hb:ordOk i p x=false
       · rw [if_pos hb] at h1;cases h1
       · rw [if_neg hb] at h1
         by_cases hc:valOk k x=false
         · rw [if_pos hc] at h1;cases h1
         · rw [if_neg hc] at h1
           by_cases hd:kidOk k x=false
           · rw [if_pos hd] at h1;cases h1
           · simpa using hd
   · exact items_kid k l (i+1) y.key h x hx
def GoodP(look:Int→Option PageV)(n:Int):Prop:=(∃lv q L,TrK look lv n q L)∨∃(N k:Nat) (out:List Int),out.length<N∧N≤out.length+k∧(chainL look N k out n).2=0
theorem good_kids {look:Int→Option PageV}(ok:PgsOk look){n:Int}(h:GoodP look n):∃g,look n=some g∧∀c∈kidsOf g,GoodP look c:=by
 rcases h with⟨lv,q,L,hT⟩ | ⟨N,k,out,h1,h2,h3⟩
 · cases hT with
   | leaf _ _ g hl hk hx=>
     refine⟨g,hl,fun c hc=> ?_⟩;unfold kidsOf at hc;rw [hk] at hc;rw [if_neg (by simp),List.append_nil] at hc;unfold kidsK at hc;rw [List.take_length] at hc;obtain⟨x,hx1,rfl⟩:=List.mem_map.1 hc;obtain⟨hx2,hx3⟩:=List.mem_filter.1 hx1
     have hx4:x.child≠0:=by
      unfold kidItem at hx3;rw [hk] at hx3;simpa using hx3
     have hko:=items_kid _ _ _ _ (items_of_check (ok.chk n g hl)) x hx2
     have hs:32<x.size:=by
      by_cases hs:x.size≤32
      · unfold kidOk at hko
        rw [hk,if_pos ⟨rfl,hs⟩] at hko;exact absurd (of_decide_eq_true hko) hx4
      · omega
     have hv:=(hx x hx2).2;unfold valueL at hv;by_cases hb:x.size<0∨3840<x.size∨(x.size≤32∧(x.value.length:Int)≠x.size)
     · rw [if_pos hb] at hv;cases hv
     · rw [if_neg hb,if_neg (by omega)] at hv
       exact .inr ⟨x.size.toNat,x.size.toNat,[],by simp;omega,by simp,hv⟩
   | index lv _ _ g LL hl hk _ hlen hT=>
     refine⟨g,hl,fun c hc=> ?_⟩;unfold kidsOf at hc;rw [hk] at hc;rw [if_neg (by simp),List.append_nil] at hc;unfold kidsK at hc;rw [List.take_length] at hc;obtain⟨x,hx1,rfl⟩:=List.mem_map.1 hc;obtain⟨hx2,_⟩:=List.mem_filter.1 hx1;obtain⟨i,hi,rfl⟩:=List.getElem_of_mem hx2;have h1:=hT i (by omega);rw [itemAt_get hi] at h1;exact .inl ⟨_,_,_,h1⟩
 · cases k with
   | zero=>omega
   | succ k=>
     cases hl:look n with
     | none=>rw [chain_none h1 hl] at h3;cases h3
     | some g=>
       by_cases hk:g.kind=3
       · by_cases hc:g.data.length=min (N-out.length) 480∧((g.next=0)↔(N-out.length≤480))
         · rw [chain_ok h1 hl hk hc] at h3
           refine⟨g,rfl,fun c hcm=> ?_⟩;unfold kidsOf at hcm;rcases List.mem_append.1 hcm with hcm | hcm
           · unfold kidsK at hcm
             obtain⟨x,hx1,rfl⟩:=List.mem_map.1 hcm;obtain⟨_,hx3⟩:=List.mem_filter.1 hx1;unfold kidItem at hx3;rw [hk] at hx3;simp at hx3
           · by_cases hn:g.next=0
             · rw [hn] at hcm;simp at hcm
             · rw [hk,if_pos (by simp [hn])] at hcm
               obtain rfl:=List.mem_singleton.1 hcm;have h4:¬N-out.length≤480:=fun h=>hn (hc.2.2 h)
               have h5:=hc.1;refine .inr ⟨N,k,out++g.data,?_,?_,h3⟩<;>rw [List.length_append]<;>omega
         · rw [chain_form h1 hl hk hc] at h3;cases h3
       · rw [chain_kind h1 hl hk] at h3;cases h3
theorem stand_good {look:Int→Option PageV}{root height items:Int}{L:List ItemV}(h:StandT look root height items L)(h0:root≠0):GoodP look root:=by
 rcases h with⟨h1,_,_,_⟩ | ⟨_,_,lv,_,_,hT⟩
 · exact absurd h1 h0
 · exact .inl ⟨_,_,_,hT⟩
end Go.Cop

namespace Go.Proofs.YtiegeadmgpanoaaGreatDoor.M8
open ChangeShapes WideShapes ChangeAt RowKit Sl Cop Go.Shelf D2 F3 N3 P3 G2 J2 Q3 V3 G4 K4 X3 M5 P5 U5 W5 N2 P2 L6 S6 J7 N5 S5 K7 V7 Z7 B8 G6 J6 T6 B6 M2 N7 M7 K3 C4 D4 F4 M4 G5 K5 F6 D7 C8 K8 Q7
attribute [local go_sem] Oper.semAt_some
section
variable {r:Nat}{s:PoolS}{gs:List PageV}{hush:RTail}{x0:RX}
theorem refAt_own {F:Pr}{w:World}(h:Sat ((RefAt r s gs hush x0).star F) w):Sat ((Pr.own x0.h).star ((Pr.pts r (refC s.refs x0.cv x0.lv x0.pv hush)).star ((IntsRow x0.cv s.counts).star ((BoolsRow x0.lv s.last).star ((PgRow x0.pv x0.xs gs).star F))))) w:=h.perm (by unfold RefAt;ac_rfl)
end
end Go.Proofs.YtiegeadmgpanoaaGreatDoor.M8
namespace Go.Cop
def optK(o:Option ItemV):List Int:=match o with | some x=>x.key | none=> []
def optV(look:Int→Option PageV)(o:Option ItemV):List Int:=match o with | some x=>valK look x | none=> []
end Go.Cop
namespace Go.Proofs.YtiegeadmgpanoaaGreatDoor.N8
open ChangeShapes WideShapes ChangeAt RowKit Sl Cop Go.Shelf D2 F3 N3 P3 G2 J2 Q3 V3 G4 K4 X3 M5 P5 U5 W5 N2 P2 L6 S6 J7 N5 S5 K7 V7 Z7 B8 C8
attribute [local go_sem] Oper.semAt_some
theorem infoPairS:(Tryz.prog.info? 49).map (·.size)=some 2:=by kernel_rfl
theorem load_bool {w:World}{b:Nat}{x:Bool}{fz:Nat × Nat}(h:w.heap[b]? =some (.cells #[.bool x] 4 fz)):(loadVar 4 ⟨b,0,none⟩).run Tryz.prog w= .ok (.bool x) w:=by
 have hc:w.cell? ⟨b,0,none⟩=some (.bool x):=by rw [cell_of_heap h];rfl
 go_simp
theorem results_cell_tmp_tmp {fn:Func}{p u q:Tmp}{ty:TypeId}(h:fn.results= #[.cell p ty,.tmp u,.tmp q])(tmps:Array Value)(w:World)(g:Nat)(x y z:Value)
 (hp:tmps.getD p undef= .pointer (some ⟨g,0,none⟩)) (hr:(loadVar ty ⟨g,0,none⟩).run Tryz.prog w= .ok x w) (hy:tmps.getD u undef=y) (hz:tmps.getD q undef=z):
 (results fn tmps).run Tryz.prog w= .ok (.tuple #[x,y,z]) w:=by
 have hp':tmps[p]?.getD undef= .pointer (some ⟨g,0,none⟩):=by simpa using hp
 have hy':tmps[u]?.getD undef=y:=by simpa using hy
 have hz':tmps[q]?.getD undef=z:=by simpa using hz
 simp [results,h,hp',hy',hz',asAddr,Result.andThen,hr]
theorem results_cell3 {fn:Func}{p u q:Tmp}{ty tu tq:TypeId}(h:fn.results= #[.cell p ty,.cell u tu,.cell q tq])(tmps:Array Value)(w:World)(g g2 g3:Nat)(x y z:Value)
 (hp:tmps.getD p undef= .pointer (some ⟨g,0,none⟩)) (hr:(loadVar ty ⟨g,0,none⟩).run Tryz.prog w= .ok x w) (hu:tmps.getD u undef= .pointer (some ⟨g2,0,none⟩)) (hr2:(loadVar tu ⟨g2,0,none⟩).run Tryz.prog w= .ok y w)
 (hq:tmps.getD q undef= .pointer (some ⟨g3,0,none⟩)) (hr3:(loadVar tq ⟨g3,0,none⟩).run Tryz.prog w= .ok z w):
 (results fn tmps).run Tryz.prog w= .ok (.tuple #[x,y,z]) w:=by
 have hp':tmps[p]?.getD undef= .pointer (some ⟨g,0,none⟩):=by simpa using hp
 have hu':tmps[u]?.getD undef= .pointer (some ⟨g2,0,none⟩):=by simpa using hu
 have hq':tmps[q]?.getD undef= .pointer (some ⟨g3,0,none⟩):=by simpa using hq
 simp [results,h,hp',hu',hq',asAddr,Sem.run_bind,Result.andThen,hr,hr2,hr3]
abbrev pairC(a b:Value):Obj:= .cells #[a,b] 49
theorem load_pair {w:World}{b:Nat}{x y:Value}{fz:Nat × Nat}(h:w.heap[b]? =some (.cells #[x,y] 49 fz)):(loadVar 49 ⟨b,0,none⟩).run Tryz.prog w= .ok (.agg #[x,y]) w:=
 run_loadVar_row (P:=Tryz.prog) w b _ _ _ _ _ h Tryz.underlying49 rfl infoPairS
theorem pair_any(v:Nat)(s:VaultS)(look:Int→Option PageV)(hl:L6.Looks s look)(x:ItemV)(y1 y2:Value)(hv:(valueL look x.size x.child x.value).2=0)(F:Pr)(w:World)(hF:OwnL [rowsOf ((y1,y2),x),VaultA v s,F] w):
 Calls Tryz.prog 53 #[.pointer (some ⟨v,0,none⟩),itemV y1 y2 x.child x.size] w fun e w'=>Stays w w'∧∃o,e= .returned (.tuple #[pairV y1 o,.bool true,.int .i64 0])∧OwnL [BytesRow y1 x.key,BytesRow o (valK look x),VaultA v s,F] w':=by
 have hsh:OwnL [BytesRow y1 x.key,BytesRow y2 x.value] w:=⟨((hF.end1 (A1:=rowsOf ((y1,y2),x))).perm (B:=(BytesRow y1 x.key).star ((BytesRow y2 x.value).star Pr.emp)) (by rw [Pr.star_emp];rfl))⟩;obtain⟨ak,ck,rfl⟩:=Row.shape (hsh.pull1 (A1:=BytesRow y1 x.key));obtain⟨av,cv,rfl⟩:=Row.shape (hsh.pull1 (A1:=BytesRow y2 x.value))
 have hs0:=(hF.alloc (.cells #[.slice ak x.key.length ck,.slice av x.value.length cv,.int .i64 x.child,.int .i64 x.size] 89)).alloc (pairC (.slice none 0 0) (.slice none 0 0));rw [show (w.alloc (.cells #[.slice ak x.key.length ck,.slice av x.value.length cv,.int .i64 x.child,.int .i64 x.size] 89)).heap.size=w.heap.size+1 by simp] at hs0
 have HST:=hQ (((Stays.refl w).alloc (.cells #[.slice ak x.key.length ck,.slice av x.value.length cv,.int .i64 x.child,.int .i64 x.size] 89)).alloc (pairC (.slice none 0 0) (.slice none 0 0)));obtain⟨ax,hax,hsA⟩:=hs0.arena (rowsOf ((.slice ak x.key.length ck,.slice av x.value.length cv),x))
 have BL:=bload_any v s look hl x ax _ ⟨_,_,rfl,(rows_in hax).1,(rows_in hax).2⟩ _ _ (hsA.pull2 (A1:=VaultA v s) (A2:=Pr.own ax));rw [hv] at BL;have HBL:=hQ BL;have HAX:=hQ hax;clear hF hsh hs0 hsA BL hax hv hl;go_enter Tryz.func53,Tryz.ntmps53
 go_wp2_with fail
 refine HBL.out.mono ?_;rintro e w1 ⟨st1,o,rfl,hs1⟩;have hs2:=OwnL.of3 hs1;obtain⟨aw,cw,rfl⟩:=Row.shape hs1;have c1:=hs2.facts;simp only [CellsAt,Nat.reduceAdd,and_true] at c1;generalize w.heap.size+1=PB at*;generalize w.heap.size=IB at*;have HST1:=hQ (HST.out.trans st1);obtain⟨nw,hnw⟩:∃nw,(valueL look x.size x.child x.value).1.length=nw:=⟨_,rfl⟩
 have hs3:OwnL [BytesRow (.slice aw (valueL look x.size x.child x.value).1.length cw) (valueL look x.size x.child x.value).1,VaultA v s,BytesRow (.slice ak x.key.length ck) x.key,Pr.pts PB (pairC (.slice none 0 0) (.slice none 0 0)),F] w1:=by
  have h1:=(hs2.back (rowsOf ((.slice ak x.key.length ck,.slice av x.value.length cv),x)) HAX.out);have h2:OwnL ((BytesRow (.slice ak x.key.length ck) x.key).star (BytesRow (.slice av x.value.length cv) x.value) :: _) w1:=h1;exact h2.norm.to
 rw [hnw] at hs3 ⊢;have HS3:=hQ hs3;clear hs1 hs2 hs3 st1 HBL HAX HST hnw;go_wp2;have h4:=(HS3.out.set PB 0 (.slice ak x.key.length ck)).set PB 1 (.slice aw nw cw);refine bodyPost_ret (results_cell_tmp_tmp rfl _ _ PB (.agg #[.slice ak x.key.length ck,.slice aw nw cw]) (.bool true) (.int .i64 0) rfl (load_pair (h4.pts PB).pts_heap) rfl rfl) rfl ?_
 exact⟨(HST1.out.setCell _ _).setCell _ _,.slice aw nw cw,rfl,(h4.to (M:= [BytesRow (.slice ak x.key.length ck) x.key,BytesRow (.slice aw nw cw) (valueL look x.size x.child x.value).1,VaultA v s,F]): _)⟩
def CI(VB TB A6 A7 A8 v:Nat)(root height items:Int)(F:Pr)(pre:List ItX):Pr:=
 (Pr.pure (pre= [])).star ((Pr.pts VB (vBox v)).star ((Pr.pts TB (treeC root height items)).star ((Pr.pts A6 (pairC (.slice none 0 0) (.slice none 0 0))).star ((Pr.pts A7 (.cells #[.bool false] 4)).star ((Pr.pts A8 (.cells #[.int .i64 0] 32)).star F)))))
def CX(A6 A7 A8:Nat)(look:Int→Option PageV)(F:Pr)(c:Code)(pre:List ItX):Pr:=
 Pr.ex fun q:Value × Value × ItemV=>(Pr.pure (c= .ret∧pre.map (·.2)= [q.2.2])).star ((Pr.pts A6 (pairC q.1 q.2.1)).star ((Pr.pts A7 (.cells #[.bool true] 4)).star ((Pr.pts A8 (.cells #[.int .i64 0] 32)).star
  ((BytesRow q.1 q.2.2.key).star ((BytesRow q.2.1 (valK look q.2.2)).star F)))))
theorem load_err {w:World}{b:Nat}{x:Int}{fz:Nat × Nat}(h:w.heap[b]? =some (.cells #[.int .i64 x] 32 fz)):(loadVar 32 ⟨b,0,none⟩).run Tryz.prog w= .ok (.int .i64 x) w:=load_errno h
theorem ceil_any(v:Nat)(s:VaultS)(look:Int→Option PageV)(hl:L6.Looks s look)(okp:PgsOk look)(root height items:Int)(L:List ItemV)(hT:StandT look root height items L)(kv:Value)(key:List Int)(hr:Hp)(hk:Bytes hr kv key)(uk:U8 key)(nk:key.length≤140737488355000)(F:Pr)(w:World)(hF:OwnL [VaultA v s,Pr.own hr,F] w):
 Calls Tryz.prog 17 #[.pointer (some ⟨v,0,none⟩),treeV root height items,kv] w fun e w'=>Stays w w'∧∃a b,e= .returned (.tuple #[pairV a b,.bool ((L.filter fun x=>hasR ⟨key,[],true⟩ x.key).head?).isSome,.int .i64 0])∧OwnL [BytesRow a (optK (L.filter fun x=>hasR ⟨key,[],true⟩ x.key).head?),BytesRow b (optV look (L.filter fun x=>hasR ⟨key,[],true⟩ x.key).head?),VaultA v s,Pr.own hr,F] w':=by
 obtain⟨kak,kck,rfl⟩:=bytes_shape hk;obtain⟨hs1,_⟩:=hF.fresh [.pointer (some ⟨v,0,none⟩)] 27 w.heap.size rfl;obtain⟨hs2,_⟩:=hs1.fresh [.int .i64 root,.int .i64 height,.int .i64 items] 35 (w.heap.size+1) (by simp);obtain⟨hs3,_⟩:=hs2.fresh [.slice none 0 0,.slice none 0 0] 49 (w.heap.size+1+1) (by simp);obtain⟨hs4,_⟩:=hs3.fresh [.bool false] 4 (w.heap.size+1+1+1) (by simp)
 obtain⟨hs5,_⟩:=hs4.fresh [.int .i64 0] 32 (w.heap.size+1+1+1+1) (by simp);have HS5:=hQ hs5
 have HST:=hQ ((((((Stays.refl w).alloc (.cells [Value.pointer (some ⟨v,0,none⟩)].toArray 27)).alloc (.cells [Value.int .i64 root,.int .i64 height,.int .i64 items].toArray 35)).alloc (.cells [Value.slice none 0 0,.slice none 0 0].toArray 49)).alloc (.cells [Value.bool false].toArray 4)).alloc (.cells [Value.int .i64 0].toArray 32))
 have hMV:∀x∈L.filter (fun x=>hasR ⟨key,[],true⟩ x.key),(valueL look x.size x.child x.value).2=0:=fun x hx=>stand_val hT x (List.mem_filter.1 hx).1
 have IT:=hQ (fun tb vb rb=>items1 tb vb rb v s look hl okp root height items L hT _ _ ⟨key,[],true⟩ hr ⟨_,_,rfl,hk,RowIn.nil _ _⟩ ⟨uk,fun z hz=>by cases hz⟩ ⟨nk,Nat.zero_le _⟩);generalize (L.filter fun x=>hasR ⟨key,[],true⟩ x.key)=M at*;have HH:=hQ (And.intro hl hMV);clear hF hs1 hs2 hs3 hs4 hs5 hk hT hl okp uk nk hMV;refine calls_of_wp_marks (n:=9) Tryz.func17 rfl ?_
 simp only [Tryz.ntmps17,List.size_toArray,List.length_cons,List.length_nil,Nat.reduceAdd,Nat.reduceSub,Array.replicate_succ,Array.replicate_zero,List.push_toArray,List.append_toArray,List.nil_append,List.cons_append];go_wp2_with fail
 have U1:=HS5.out;have U2:=HST.out;clear HS5 HST;generalize (((((w.alloc (.cells [Value.pointer (some ⟨v,0,none⟩)].toArray 27)).alloc (.cells [Value.int .i64 root,.int .i64 height,.int .i64 items].toArray 35)).alloc (.cells [Value.slice none 0 0,.slice none 0 0].toArray 49)).alloc (.cells [Value.bool false].toArray 4)).alloc (.cells [Value.int .i64 0].toArray 32))=w0 at*
 generalize w.heap.size+1+1+1+1=A8 at*;generalize w.heap.size+1+1+1=A7 at*;generalize w.heap.size+1+1=A6 at*;generalize w.heap.size+1=TB at*;generalize w.heap.size=VB at*;refine(items_any v root height items _ _ true _ _ _ _ _ _ rfl rfl _).mono ?_;rintro e w2 ⟨rfl,rfl⟩;have U3:=((U1.alloc (vBox v)).alloc (treeC root height items)).alloc (rangeC (.slice kak key.length kck) (.slice none 0 0) true)
 have U4:=((U2.alloc (vBox v)).alloc (treeC root height items)).alloc (rangeC (.slice kak key.length kck) (.slice none 0 0) true);rw [show ((w0.alloc (vBox v)).alloc (treeC root height items)).heap.size=w0.heap.size+1+1 by simp,show (w0.alloc (vBox v)).heap.size=w0.heap.size+1 by simp] at U3;clear U1 U2
 generalize ((w0.alloc (vBox v)).alloc (treeC root height items)).alloc (rangeC (.slice kak key.length kck) (.slice none 0 0) true)=w1 at*;generalize w0.heap.size+1+1=R2 at*;generalize w0.heap.size+1=T2 at*;generalize w0.heap.size=V2 at*;have HS1:=hQ U3;have HST:=hQ U4;clear U3 U4;go_wp2
 refine wp_rangeFunc_v 9 (gf:=92) rfl (enters_of Tryz.func92 (by kernel_rfl) rfl) (IT.out T2 V2 R2) (fun _=>rfl)
  (fun pre=>CI VB TB A6 A7 A8 v root height items F pre) (fun c pre=>CX A6 A7 A8 look F c pre) ?start ?round ?done ?stop
 case start=>
  have h2:=HS1.out.to (M:= [Pr.pts VB (vBox v),Pr.pts TB (treeC root height items),Pr.pts A6 (pairC (.slice none 0 0) (.slice none 0 0)),Pr.pts A7 (.cells #[.bool false] 4),Pr.pts A8 (.cells #[.int .i64 0] 32),F,Pr.pts T2 (treeC root height items),Pr.pts V2 (vBox v),Pr.pts R2 (rangeC (.slice kak key.length kck) (.slice none 0 0) true),VaultA v s,Pr.own hr]);unfold CI;rw [Pr.star_assoc]
  exact Sat.pure.2 ⟨rfl,h2.sat.perm (by simp only [starL,Pr.star_emp,Pr.star_assoc,ItA])⟩
 case round=>
  intro l' pre x W1' F1 hok hs;obtain⟨⟨y1,y2⟩,x⟩:=x;unfold CI at hs
  have hs9:Sat ((Pr.pure (pre= [])).star (((Pr.pts VB (vBox v)).star ((Pr.pts TB (treeC root height items)).star ((Pr.pts A6 (pairC (.slice none 0 0) (.slice none 0 0))).star ((Pr.pts A7 (.cells #[.bool false] 4)).star ((Pr.pts A8 (.cells #[.int .i64 0] 32)).star F))))).star ((rowsOf ((y1,y2),x)).star ((ItA T2 V2 R2 v s root height items (.slice kak key.length kck) (.slice none 0 0) true hr).star F1)))) W1':=hs.perm (by simp only [Pr.star_assoc,ItA])
  clear hs;obtain⟨hp9,hs⟩:=Sat.pure.1 hs9;clear hs9;subst hp9
  have hs1:OwnL [Pr.pts VB (vBox v),Pr.pts TB (treeC root height items),Pr.pts A6 (pairC (.slice none 0 0) (.slice none 0 0)),Pr.pts A7 (.cells #[.bool false] 4),Pr.pts A8 (.cells #[.int .i64 0] 32),F,rowsOf ((y1,y2),x),Pr.pts T2 (treeC root height items),Pr.pts V2 (vBox v),Pr.pts R2 (rangeC (.slice kak key.length kck) (.slice none 0 0) true),VaultA v s,Pr.own hr,F1] W1':=⟨hs.perm (by simp only [starL,Pr.star_emp,Pr.star_assoc,ItA])⟩
  have hsh:OwnL [BytesRow y1 x.key,BytesRow y2 x.value] W1':=⟨((hs1.end1 (A1:=rowsOf ((y1,y2),x))).perm (B:=(BytesRow y1 x.key).star ((BytesRow y2 x.value).star Pr.emp)) (by rw [Pr.star_emp];rfl))⟩;obtain⟨ak,ck,rfl⟩:=Row.shape (hsh.pull1 (A1:=BytesRow y1 x.key));obtain⟨av,cv,rfl⟩:=Row.shape (hsh.pull1 (A1:=BytesRow y2 x.value))
  have HVX:=hQ (HH.out.2 x (hok.subset (List.mem_append_right _ (List.mem_singleton_self x))));have HS2:=hQ hs1;clear hs hs1 hsh hok;simp only [encI,itemV];gi_wp2
  have hsA:=HS2.out.alloc (.cells #[.slice ak x.key.length ck,.slice av x.value.length cv,.int .i64 x.child,.int .i64 x.size] 89);obtain⟨B,hB⟩:∃B,W1'.heap.size=B:=⟨_,rfl⟩;rw [hB] at hsA ⊢
  refine⟨starL [Pr.pts B (.cells #[.slice ak x.key.length ck,.slice av x.value.length cv,.int .i64 x.child,.int .i64 x.size] 89),Pr.pts VB (vBox v),Pr.pts TB (treeC root height items),Pr.pts A6 (pairC (.slice none 0 0) (.slice none 0 0)),Pr.pts A7 (.cells #[.bool false] 4),Pr.pts A8 (.cells #[.int .i64 0] 32),F,rowsOf ((.slice ak x.key.length ck,.slice av x.value.length cv),x),Pr.pts T2 (treeC root height items),Pr.pts V2 (vBox v),Pr.pts R2 (rangeC (.slice kak key.length kck) (.slice none 0 0) true),VaultA v s,Pr.own hr],(Stays.refl _).alloc _,(hsA.to (M:= [Pr.pts B (.cells #[.slice ak x.key.length ck,.slice av x.value.length cv,.int .i64 x.child,.int .i64 x.size] 89),Pr.pts VB (vBox v),Pr.pts TB (treeC root height items),Pr.pts A6 (pairC (.slice none 0 0) (.slice none 0 0)),Pr.pts A7 (.cells #[.bool false] 4),Pr.pts A8 (.cells #[.int .i64 0] 32),F,rowsOf ((.slice ak x.key.length ck,.slice av x.value.length cv),x),Pr.pts T2 (treeC root height items),Pr.pts V2 (vBox v),Pr.pts R2 (rangeC (.slice kak key.length kck) (.slice none 0 0) true),VaultA v s,Pr.own hr,F1])).sat.perm (by simp only [starL,Pr.star_emp,Pr.star_assoc]),?_⟩
  clear hsA HS2 hB;intro F2 W2 _ hs2
  have hs3:OwnL [Pr.pts B (.cells #[.slice ak x.key.length ck,.slice av x.value.length cv,.int .i64 x.child,.int .i64 x.size] 89),Pr.pts VB (vBox v),Pr.pts TB (treeC root height items),Pr.pts A6 (pairC (.slice none 0 0) (.slice none 0 0)),Pr.pts A7 (.cells #[.bool false] 4),Pr.pts A8 (.cells #[.int .i64 0] 32),F,rowsOf ((.slice ak x.key.length ck,.slice av x.value.length cv),x),Pr.pts T2 (treeC root height items),Pr.pts V2 (vBox v),Pr.pts R2 (rangeC (.slice kak key.length kck) (.slice none 0 0) true),VaultA v s,Pr.own hr,F2] W2:=⟨hs2.perm (by simp only [starL,Pr.star_emp,Pr.star_assoc])⟩
  have c1:=hs3.facts;simp only [CellsAt,Nat.reduceAdd,and_true] at c1;have PA:=hQ (pair_any v s look HH.out.1 x _ _ HVX.out _ _ (OwnL.in2 (hs3.pull2 (A1:=rowsOf ((.slice ak x.key.length ck,.slice av x.value.length cv),x)) (A2:=VaultA v s))));clear hs2 hs3;gi_wp2_with fail
  refine⟨trivial,?_⟩;refine(CallsIn.inRound _ (callsIn_wide.2 PA.out)).mono ?_;rintro e w3 ⟨st3,o,rfl,hs4⟩;have hs5:=hs4.flat;obtain⟨aw,cw,rfl⟩:=Row.shape (hs5.pull1 (A1:=BytesRow o (valK look x)));clear c1;have c1:=hs5.facts;simp only [CellsAt,Nat.reduceAdd,and_true] at c1;have HS5:=hQ hs5;have HST3:=hQ st3;clear hs4 hs5 st3 PA;gi_wp2
  refine⟨((((HST3.out.setCell _ _).setCell _ _).setCell _ _).setCell _ _),?_⟩
  have h8:=((((HS5.out.set A6 0 (.slice ak x.key.length ck)).set A6 1 (.slice aw (valK look x).length cw)).set A7 0 (.bool true)).set A8 0 (.int .i64 0)).to (M:= [Pr.pts A6 (pairC (.slice ak x.key.length ck) (.slice aw (valK look x).length cw)),Pr.pts A7 (.cells #[.bool true] 4),Pr.pts A8 (.cells #[.int .i64 0] 32),BytesRow (.slice ak x.key.length ck) x.key,BytesRow (.slice aw (valK look x).length cw) (valK look x),F,Pr.pts T2 (treeC root height items),Pr.pts V2 (vBox v),Pr.pts R2 (rangeC (.slice kak key.length kck) (.slice none 0 0) true),VaultA v s,Pr.own hr,F2])
  unfold CX;rw [Pr.ex_star,Pr.ex_star];refine Sat.ex0.2 ⟨(.slice ak x.key.length ck,.slice aw (valK look x).length cw,x),?_⟩;rw [Pr.star_assoc,Pr.star_assoc];exact Sat.pure.2 ⟨⟨rfl,rfl⟩,h8.sat.perm (by simp only [starL,Pr.star_emp,Pr.star_assoc,ItA])⟩
 case done=>
  intro D xs W2 hxs hst hs;unfold CI at hs;rw [Pr.star_assoc,Pr.star_assoc] at hs
  obtain⟨hp9,hs9⟩:=Sat.pure.1 (hs.perm (B:=(Pr.pure (xs= [])).star ((Pr.pts D (.deferred (some []))).star (((Pr.pts VB (vBox v)).star ((Pr.pts TB (treeC root height items)).star ((Pr.pts A6 (pairC (.slice none 0 0) (.slice none 0 0))).star ((Pr.pts A7 (.cells #[.bool false] 4)).star ((Pr.pts A8 (.cells #[.int .i64 0] 32)).star F))))).star (ItA T2 V2 R2 v s root height items (.slice kak key.length kck) (.slice none 0 0) true hr)))) (by simp only [Pr.star_assoc,ItA];ac_rfl))
  clear hs;subst hp9;rename Sat _ _=>hs
  have hs3:OwnL [Pr.pts D (.deferred (some [])),Pr.pts A6 (pairC (.slice none 0 0) (.slice none 0 0)),Pr.pts A7 (.cells #[.bool false] 4),Pr.pts A8 (.cells #[.int .i64 0] 32),F,VaultA v s,Pr.own hr] W2:=(⟨hs.perm (by simp only [starL,Pr.star_emp,Pr.star_assoc,ItA]<;>ac_rfl)⟩:OwnL [Pr.pts D (.deferred (some [])),Pr.pts VB (vBox v),Pr.pts TB (treeC root height items),Pr.pts A6 (pairC (.slice none 0 0) (.slice none 0 0)),Pr.pts A7 (.cells #[.bool false] 4),Pr.pts A8 (.cells #[.int .i64 0] 32),F,Pr.pts T2 (treeC root height items),Pr.pts V2 (vBox v),Pr.pts R2 (rangeC (.slice kak key.length kck) (.slice none 0 0) true),VaultA v s,Pr.own hr] W2).to
  have c1:=hs3.facts;simp only [CellsAt,Nat.reduceAdd,and_true] at c1;have HS3:=hQ hs3;have HST3:=hQ (HST.out.trans hst);have HM:=hQ (show M= [] from hxs.symm);clear hs hs3 hst HS1 hxs;go_wp2;have h6:=(((HS3.out.set A6 0 (.slice none 0 0)).set A6 1 (.slice none 0 0)).set A7 0 (.bool false)).set A8 0 (.int .i64 0);have q1:=h6.pull1 (A1:=Pr.pts D (.deferred (some [])))
  have q2:=OwnL.of0 (q1.putObj (.deferred none)).right;refine marks_ret1 (D:=D) rfl q1.pts_heap ⟨_,results_cell3 rfl _ _ A6 A7 A8 (.agg #[.slice none 0 0,.slice none 0 0]) (.bool false) (.int .i64 0) rfl (load_pair (q2.pts A6).pts_heap) rfl (load_bool (q2.pts A7).pts_heap) rfl (load_err (q2.pts A8).pts_heap),((((HST3.out.setCell _ _).setCell _ _).setCell _ _).setCell _ _).putObj _ _,?_⟩
  rw [HM.out];have h7:=(q2.to (M:= [VaultA v s,Pr.own hr,F])).emp.emp;rw [← Row.nil 5 1] at h7;exact⟨_,_,rfl,h7⟩
 case stop=>
  intro D c pre W2 hpre hst hs;unfold CX at hs;rw [Pr.ex_star,Pr.ex_star] at hs;obtain⟨⟨a,b,x⟩,hs8⟩:=Sat.ex0.1 hs;clear hs;rw [Pr.star_assoc,Pr.star_assoc] at hs8;obtain⟨⟨hc9,hx⟩,hs⟩:=Sat.pure.1 hs8;clear hs8;subst hc9;dsimp only at hx hs
  have hs3:OwnL [Pr.pts D (.deferred (some [])),Pr.pts A6 (pairC a b),Pr.pts A7 (.cells #[.bool true] 4),Pr.pts A8 (.cells #[.int .i64 0] 32),BytesRow a x.key,BytesRow b (valK look x),F,VaultA v s,Pr.own hr] W2:=(⟨hs.perm (by simp only [starL,Pr.star_emp,Pr.star_assoc,ItA]<;>ac_rfl)⟩:OwnL [Pr.pts D (.deferred (some [])),Pr.pts A6 (pairC a b),Pr.pts A7 (.cells #[.bool true] 4),Pr.pts A8 (.cells #[.int .i64 0] 32),BytesRow a x.key,BytesRow b (valK look x),F,Pr.pts T2 (treeC root height items),Pr.pts V2 (vBox v),Pr.pts R2 (rangeC (.slice kak key.length kck) (.slice none 0 0) true),VaultA v s,Pr.own hr] W2).to
  have HM:=hQ (show M.head?=some x from by
   rw [hx] at hpre
   obtain⟨t,rfl⟩:=hpre
   rfl)
  have HS3:=hQ hs3;have HST3:=hQ (HST.out.trans hst);clear hs hs3 hst HS1 hx hpre;go_wp2;have q1:=HS3.out.pull1 (A1:=Pr.pts D (.deferred (some [])));have q2:=OwnL.of0 (q1.putObj (.deferred none)).right
  refine marks_ret1 (D:=D) rfl q1.pts_heap ⟨_,results_cell3 rfl _ _ A6 A7 A8 (.agg #[a,b]) (.bool true) (.int .i64 0) rfl (load_pair (q2.pts A6).pts_heap) rfl (load_bool (q2.pts A7).pts_heap) rfl (load_err (q2.pts A8).pts_heap),HST3.out.putObj _ _,?_⟩;rw [HM.out];exact⟨_,_,rfl,q2.to (M:= [BytesRow a x.key,BytesRow b (valK look x),VaultA v s,Pr.own hr,F])⟩
end Go.Proofs.YtiegeadmgpanoaaGreatDoor.N8
namespace Go.Proofs.YtiegeadmgpanoaaGreatDoor.P8
open ChangeShapes WideShapes ChangeAt RowKit Sl Cop Go.Shelf G2 J2 Q3 X3 M5 C8
attribute [local go_sem] Oper.semAt_some
def PairsIn(h:Hp)(v:Value)(zs:List PairX):Prop:=RowIn h 2 v zs.length (zs.flatMap pairCells)∧∀z∈zs,Bytes h z.1.1 z.2.1∧Bytes h z.1.2 z.2.2
theorem PairsIn.sub {a b:Hp}(hs:a.sub b){v:Value}{zs:List PairX}(h:PairsIn a v zs):PairsIn b v zs:=⟨h.1.sub hs,fun z hz=>⟨(h.2 z hz).1.sub hs,(h.2 z hz).2.sub hs⟩⟩
theorem pairs_rd {h:Hp}{v:Value}{zs:List PairX}(hp:PairsIn h v zs):∃a c,v= .slice a zs.length c∧zs.length≤c∧c≤maxLen∧∀i (_:i<zs.length),∃b off k1 n1 k2 n2,a=some ⟨b,off,none⟩∧
 zs[i].1.1= .slice k1 zs[i].2.1.length n1∧zs[i].1.2= .slice k2 zs[i].2.2.length n2∧∀w,h.le w→w.cell? ⟨b,off+i*2,none⟩=some (.slice k1 zs[i].2.1.length n1)∧w.cell? ⟨b,off+i*2+1,none⟩=some (.slice k2 zs[i].2.2.length n2):=by
 obtain⟨⟨hlen,a,c,e,h1,h2,hc⟩,hb⟩:=hp;refine⟨a,c,e,h1,h2,fun i hi=> ?_⟩;obtain⟨b,off,ea,hcell⟩:=hc (by omega);obtain⟨p1,p2⟩:=hb zs[i] (List.getElem_mem hi);obtain⟨k1,n1,e1⟩:=bytes_shape p1;obtain⟨k2,n2,e2⟩:=bytes_shape p2;refine⟨b,off,k1,n1,k2,n2,ea,e1,e2,fun w hw=> ?_⟩
 have at':∀j,j<2→∀v,(pairCells zs[i])[j]? =some v→w.cell? ⟨b,off+i*2+j,none⟩=some v:=by
  intro j hj v hv;have h3:=hcell (i*2+j) (by omega);have h4:=flat_at pairCells 2 (fun _=>rfl) zs i j hi hj;rw [hv] at h4;rw [Nat.add_assoc];exact Hp.cell_le hw (h3.trans h4)
 have q0:=at' 0 (by omega) _ rfl;have q1:=at' 1 (by omega) _ rfl;rw [e1] at q0;rw [e2] at q1;exact⟨q0,q1⟩
theorem pairs_in {zs:List PairX}{v:Value}{a:Hp}(h:((PairRow v zs).star (big pairRows zs)) a):PairsIn a v zs:=by
 obtain⟨x,y,hx,hy,s1,s2⟩:=star_sub h;refine⟨(Row.rowIn hx).sub s1,fun z hz=> ?_⟩;obtain⟨i,hi,rfl⟩:=List.getElem_of_mem hz;rw [big_at pairRows zs i hi] at hy;obtain⟨b,c,hb,_,s3,_⟩:=star_sub hy;obtain⟨d,e,hd,he,s5,s6⟩:=star_sub (show ((BytesRow zs[i].1.1 zs[i].2.1).star (BytesRow zs[i].1.2 zs[i].2.2)) b from hb);exact⟨(((Row.rowIn hd).sub s5).sub s3).sub s2,(((Row.rowIn he).sub s6).sub s3).sub s2⟩
abbrev pairC2(X:PairX)(k1:Option Addr)(n1:Nat)(k2:Option Addr)(n2:Nat):Obj:= .cells #[.slice k1 X.2.1.length n1,.slice k2 X.2.2.length n2] 49
def encP(x:Int × PairX):Array Value:= #[.int .i64 x.1,pairV x.2.1.1 x.2.1.2]
def OkBP(zs:List PairX)(pre:List (Int × PairX))(x:Int × PairX):Prop:= ∃i,∃hi:i<zs.length,pre.length+i+1=zs.length∧x=((i:Int),zs[i])
def OkAP(zs:List PairX)(pre:List (Int × PairX))(x:Int × PairX):Prop:= ∃hi:pre.length<zs.length,x=((pre.length:Int),zs[pre.length])
def BackOwnP(sb:Nat)(pv:Value)(h:Hp):Pr:=(Pr.pts sb (.cells #[pv] 60)).star (Pr.own h)
theorem backOwn_facts {sb:Nat}{aw:Option Addr}{n cw:Nat}{h:Hp}{A:Pr}{wr:World}(hs:Sat (A.star (BackOwnP sb (.slice aw n cw) h)) wr):wr.cell? ⟨sb,0,none⟩=some (.slice aw n cw)∧sb<wr.heap.size∧h.le wr:=by
 unfold BackOwnP at hs;have h1:Sat ((Pr.pts sb (.cells #[.slice aw n cw] 60)).star ((Pr.own h).star A)) wr:=hs.perm (by ac_rfl);exact⟨by rw [cell_of_heap h1.pts_heap];rfl,h1.lt,h1.right.own⟩
theorem backwardP(sb:Nat)(pv:Value)(h:Hp)(zs:List PairX)(hi:PairsIn h pv zs)(hzn:zs.length≤140737488355328):
 IterG Tryz.prog 97 #[.pointer (some ⟨sb,0,none⟩)] encP (OkBP zs) (fun xs=>xs.length=zs.length) (fun xs=>xs.length≤zs.length) (BackOwnP sb pv h):=by
 intro l' J Jx W hY h0;refine(callsIn_wide (n:=3)).1 ?_;refine callsIn_of_wp Tryz.func97 rfl trivial ?_ rfl;simp only [Tryz.ntmps97,List.size_toArray,List.length_cons,List.length_nil,Nat.reduceAdd,Nat.reduceSub,Array.replicate_succ,Array.replicate_zero,List.push_toArray,List.append_toArray,List.nil_append,List.cons_append];obtain⟨aw,cw,rfl,hc1,hc2,rd⟩:=pairs_rd hi;obtain⟨q1,z1,_⟩:=backOwn_facts h0
 have hl3:(zs.length:Int)≤140737488355328:=by omega
 have HY:=hQ hY;have H0:=hQ h0;have RD:=hQ rd;clear hY h0 rd hi hc1 hc2 hzn;gi_wp2
 gi_loopw [3] (fun i wr=> ∃(r:Nat) (pre:List (Int × PairX)),pre.length+r=zs.length∧i= .int .i64 ((r:Int)-1)∧Stays W wr∧Sat ((J pre).star (BackOwnP sb (.slice aw zs.length cw) h)) wr) (fun i _=>(intOf i+1).toNat)
 case atStart=>exact⟨zs.length,[],by simp,rfl,Stays.refl _,H0.out⟩
 case round=>
  obtain⟨r,pre,hr,rfl,hR,hs⟩:=hrel;cases r with
  | zero=>
    gi_wp2
    go_end0
    exact⟨⟨_,rfl⟩,hR,.inl ⟨pre,by simpa using hr,hs⟩⟩
  | succ r=>
    obtain⟨q1,z1,hle⟩:=backOwn_facts hs;have hlt:r<zs.length:=by omega
    obtain⟨b,off,k1,n1,k2,n2,rfl,e1,e2,hc⟩:=RD.out r hlt;obtain⟨c0,c1⟩:=hc wr hle;have HS:=hQ hs;have HR:=hQ hr;clear hs hc hr;have hlt3:(r:Int)<zs.length:=by omega
    obtain⟨X,hX⟩:∃X,zs[r]=X:=⟨_,rfl⟩;have HX:=hQ hX;rw [hX] at c0 c1 e1 e2;clear hX;have HE:=hQ (And.intro e1 e2);clear e1 e2;rw [show ((r+1:Nat):Int)-1=(r:Int) by omega];gi_wp2
    have hy:=HY.out Pr.emp pre ((r:Int),X) _ ⟨r,hlt,by have:=HR.out;omega,by rw [HX.out]⟩ (HS.out.perm (Pr.star_emp _).symm);unfold encP at hy;dsimp only at hy;rw [HE.out.1,HE.out.2] at hy;refine at_yield hy ?_;clear hy;rintro e w' ⟨hR',(⟨rfl,hs'⟩ | ⟨rfl,hs'⟩)⟩<;>rw [Pr.star_emp] at hs'
    · refine⟨_,rfl,?_⟩
      have HS':=hQ hs';clear hs';gi_wp2
      go_roundw
      case rel=>exact⟨r,_,by rw [List.length_append];have:=HR.out;simp;omega,rfl,hR.trans hR',HS'.out⟩
      case measure=>simp [intOf]
    · refine⟨_,rfl,?_⟩
      have HS':=hQ hs';clear hs';gi_wp2
      refine bodyPost_ret (results_none rfl _ _ _) rfl ?_;exact⟨⟨_,rfl⟩,hR.trans hR',.inr ⟨_,by rw [List.length_append];have:=HR.out;simp;omega,HS'.out⟩⟩
end Go.Proofs.YtiegeadmgpanoaaGreatDoor.P8

