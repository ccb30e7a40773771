/- The program's Check; the conditions stand as hypotheses. -/
import Derived.Test.YtiegeadmgpanoaaGreatDoorWalkChecksM27
import Derived.Test.YtiegeadmgpanoaaGreatDoorWalkGetsM05
import Derived.Test.YtiegeadmgpanoaaGreatDoorWalkChecksM28
import Derived.Test.YtiegeadmgpanoaaGreatDoorWalkChecksM23
import Derived.Test.YtiegeadmgpanoaaGreatDoorWalkChecksM17
import Derived.Test.YtiegeadmgpanoaaGreatDoorWalkGetsM04
import Derived.Test.YtiegeadmgpanoaaGreatDoorWalkChecksM14
import Derived.Test.YtiegeadmgpanoaaGreatDoorRows
import Derived.WalkKit
import Derived.ProofKit
import Derived.LaidMore
import Derived.OpenShut
import Derived.Stop.Joined
import Derived.Test.YtiegeadmgpanoaaGreatDoorWalkChecksM22
import Derived.Test.YtiegeadmgpanoaaGreatDoorWalkChecksM11
import Derived.Test.YtiegeadmgpanoaaGreatDoorWalkGetsM02
import Derived.Test.YtiegeadmgpanoaaGreatDoorWalkChecksM20
import Derived.Test.YtiegeadmgpanoaaGreatDoorWalkChecksM05
import Derived.Test.YtiegeadmgpanoaaGreatDoorWalkGetsM01
import Derived.Test.YtiegeadmgpanoaaGreatDoorWalkChecksM16
import Derived.Test.YtiegeadmgpanoaaGreatDoorWalkChecksM03
import Derived.Test.YtiegeadmgpanoaaGreatDoorWalkChecksM13
import Derived.Deep.LoopGhost
import Derived.WalkMore
import Derived.Deep.CutRange
import Derived.Test.YtiegeadmgpanoaaGreatDoorWalkChecksM31
import Derived.Test.YtiegeadmgpanoaaGreatDoorWalkChecksM26
import Derived.Test.YtiegeadmgpanoaaGreatDoorWalkChecksM25
import Derived.Test.YtiegeadmgpanoaaGreatDoorWalkChecksM01
set_option maxRecDepth 100000
set_option maxHeartbeats 16000000




namespace Go.Proofs.YtiegeadmgpanoaaGreatDoor.M8
open ChangeShapes WideShapes ChangeAt RowKit Sl Cop Deep G2 Q4 S4 L5
instance:Inhabited (Value × List Int):=⟨(.slice none 0 0,[])⟩
section
variable {H:Type}{enc:TypeId × Value→H}
theorem texts_sz {W:World}{base:Nat}{v:Value}{d:DataW H}{p:List MemPlace}(hval:Value.okWide Tryz.prog W .any base 39 v)(h:DataW.Trod enc Tryz.prog W 0 (fun _=>true) true 39 v d p):
 ∃vals:List (Value × List Int),RowIn (heapOf W) 1 v vals.length (vals.map Prod.fst)∧(∀x∈vals,Bytes (heapOf W) x.1 x.2∧U8 x.2)∧(Small d 39→∀x∈vals,x.2.length≤reachBytes):=by
 obtain⟨a,len,cap,rfl⟩:=okWide_slice Tryz.underlying39 hval;obtain⟨n,hn⟩:=h;obtain⟨len,n',C,D,Pl,hC,hr,hs⟩:=rows_of Tryz.underlying39 cells_bs (by omega) hn
 obtain⟨Y,hY⟩:=choose_lt (α:=Value × List Int) (n:=len) (p:=fun i y=>C i= [y.1]∧(Bytes (heapOf W) y.1 y.2∧U8 y.2)∧(Small (D i) 42→y.2.length≤reachBytes)) (fun i hi=>by
  obtain⟨h1,h2⟩:=hC i hi
  obtain⟨c,hc⟩:∃c,C i= [c]:=by
   match hh:C i with
   | [c]=>exact⟨c,rfl⟩
   | []=>rw [hh] at h1;simp at h1
   | _ :: _ :: _=>rw [hh] at h1;simp at h1
  rw [hc] at h2
  obtain⟨l,h3,h4,h5⟩:=bytes_sz h2
  exact⟨(c,l),hc,⟨h3,h4⟩,h5⟩)
 refine⟨(List.range len).map Y,?_,?_,fun hw=> ?_⟩
 · have e1:(List.range len).flatMap C=((List.range len).map Y).map Prod.fst:=by
    rw [List.map_map];have:(List.range len).flatMap C=(List.range len).flatMap fun i=> [(Y i).1]:=flatMap_congr_range fun i hi=>(hY i hi).1
    rw [this, ← List.map_eq_flatMap];rfl
   rw [← e1];simpa using hr
 · intro x hx
   obtain⟨i,hi,rfl⟩:=List.mem_map.1 hx;exact(hY i (List.mem_range.1 hi)).2.1
 · intro x hx
   obtain⟨i,hi,rfl⟩:=List.mem_map.1 hx;exact(hY i (List.mem_range.1 hi)).2.2 ((hs hw).2 i (List.mem_range.1 hi))
end
end Go.Proofs.YtiegeadmgpanoaaGreatDoor.M8
namespace Go.Cop
theorem stand_of_check {look:Int→Option PageV}(ok:PgsOk look){root height items:Int}(h:checkK look root height items=0):∃L,StandT look root height items L:=by
 rcases tree_of_check ok h with⟨rfl,rfl,rfl⟩ | ⟨h0,h1,h2,L,hT,hL⟩
 · exact⟨[],.inl ⟨rfl,rfl,rfl,rfl⟩⟩
 · exact⟨L,.inr ⟨h0,hL,(height-1).toNat,by omega,by omega,hT⟩⟩
end Go.Cop
namespace Go.Proofs.YtiegeadmgpanoaaGreatDoor.Z7
open ChangeShapes WideShapes ChangeAt RowKit Sl Cop F3 G2 J2 Q3 V3 G4 X3 M5 N2 L6 S6 J7 N5 S5 M2 K7 X5 Y5 V7 X7
end Go.Proofs.YtiegeadmgpanoaaGreatDoor.Z7

namespace Go.Cop
open Go.Proofs.YtiegeadmgpanoaaGreatDoor.L6
theorem items_kid(k:Int):∀(l:List ItemV) (i:Nat) (p:List Int),itemsE k i p l=0→∀x∈l,kidOk k x=true
 | [],_,_,_,x,hx=>by cases hx
 | y :: l,i,p,h,x,hx=>by
   unfold itemsE at h
   have h1:itemE k i p y=0:=by
    by_cases h0:itemE k i p y=0
    · exact h0
    · rw [if_neg h0] at h;exact h
   rw [if_pos h1] at h;rcases List.mem_cons.1 hx with rfl | hx
   · unfold itemE at h1
     by_cases ha:keyOk k i x=false
     · rw [if_pos ha] at h1;cases h1
     · rw [if_neg ha] at h1
       by_cases hb:ordOk i p x=false
       · rw [if_pos hb] at h1;cases h1
       · rw [if_neg hb] at h1
         by_cases hc:valOk k x=false
         · rw [if_pos hc] at h1;cases h1
         · rw [if_neg hc] at h1
           by_cases hd:kidOk k x=false
           · rw [if_pos hd] at h1;cases h1
           · simpa using hd
   · exact items_kid k l (i+1) y.key h x hx
def GoodP(look:Int→Option PageV)(n:Int):Prop:=(∃lv q L,TrK look lv n q L)∨∃(N k:Nat) (out:List Int),out.length<N∧N≤out.length+k∧(chainL look N k out n).2=0
theorem good_kids {look:Int→Option PageV}(ok:PgsOk look){n:Int}(h:GoodP look n):∃g,look n=some g∧∀c∈kidsOf g,GoodP look c:=by
 rcases h with⟨lv,q,L,hT⟩ | ⟨N,k,out,h1,h2,h3⟩
 · cases hT with
   | leaf _ _ g hl hk hx=>
     refine⟨g,hl,fun c hc=> ?_⟩;unfold kidsOf at hc;rw [hk] at hc;rw [if_neg (by simp),List.append_nil] at hc;unfold kidsK at hc;rw [List.take_length] at hc;obtain⟨x,hx1,rfl⟩:=List.mem_map.1 hc;obtain⟨hx2,hx3⟩:=List.mem_filter.1 hx1
     have hx4:x.child≠0:=by
      unfold kidItem at hx3;rw [hk] at hx3;simpa using hx3
     have hko:=items_kid _ _ _ _ (items_of_check (ok.chk n g hl)) x hx2
     have hs:32<x.size:=by
      by_cases hs:x.size≤32
      · unfold kidOk at hko
        rw [hk,if_pos ⟨rfl,hs⟩] at hko;exact absurd (of_decide_eq_true hko) hx4
      · omega
     have hv:=(hx x hx2).2;unfold valueL at hv;by_cases hb:x.size<0∨3840<x.size∨(x.size≤32∧(x.value.length:Int)≠x.size)
     · rw [if_pos hb] at hv;cases hv
     · rw [if_neg hb,if_neg (by omega)] at hv
       exact .inr ⟨x.size.toNat,x.size.toNat,[],by simp;omega,by simp,hv⟩
   | index lv _ _ g LL hl hk _ hlen hT=>
     refine⟨g,hl,fun c hc=> ?_⟩;unfold kidsOf at hc;rw [hk] at hc;rw [if_neg (by simp),List.append_nil] at hc;unfold kidsK at hc;rw [List.take_length] at hc;obtain⟨x,hx1,rfl⟩:=List.mem_map.1 hc;obtain⟨hx2,_⟩:=List.mem_filter.1 hx1;obtain⟨i,hi,rfl⟩:=List.getElem_of_mem hx2;have h1:=hT i (by omega);rw [itemAt_get hi] at h1;exact .inl ⟨_,_,_,h1⟩
 · cases k with
   | zero=>omega
   | succ k=>
     cases hl:look n with
     | none=>rw [chain_none h1 hl] at h3;cases h3
     | some g=>
       by_cases hk:g.kind=3
       · by_cases hc:g.data.length=min (N-out.length) 480∧((g.next=0)↔(N-out.length≤480))
         · rw [chain_ok h1 hl hk hc] at h3
           refine⟨g,rfl,fun c hcm=> ?_⟩;unfold kidsOf at hcm;rcases List.mem_append.1 hcm with hcm | hcm
           · unfold kidsK at hcm
             obtain⟨x,hx1,rfl⟩:=List.mem_map.1 hcm;obtain⟨_,hx3⟩:=List.mem_filter.1 hx1;unfold kidItem at hx3;rw [hk] at hx3;simp at hx3
           · by_cases hn:g.next=0
             · rw [hn] at hcm;simp at hcm
             · rw [hk,if_pos (by simp [hn])] at hcm
               obtain rfl:=List.mem_singleton.1 hcm;have h4:¬N-out.length≤480:=fun h=>hn (hc.2.2 h)
               have h5:=hc.1;refine .inr ⟨N,k,out++g.data,?_,?_,h3⟩<;>rw [List.length_append]<;>omega
         · rw [chain_form h1 hl hk hc] at h3;cases h3
       · rw [chain_kind h1 hl hk] at h3;cases h3
theorem stand_good {look:Int→Option PageV}{root height items:Int}{L:List ItemV}(h:StandT look root height items L)(h0:root≠0):GoodP look root:=by
 rcases h with⟨h1,_,_,_⟩ | ⟨_,_,lv,_,_,hT⟩
 · exact absurd h1 h0
 · exact .inl ⟨_,_,_,hT⟩
end Go.Cop

namespace Go.Proofs.YtiegeadmgpanoaaGreatDoor.N8
open ChangeShapes WideShapes ChangeAt RowKit Sl Cop Go.Shelf D2 F3 N3 P3 G2 J2 Q3 V3 G4 K4 X3 M5 P5 U5 W5 N2 P2 L6 S6 J7 N5 S5 K7 V7 Z7 B8 G6 J6 T6 B6 M2 N7 M7 K3 C4 D4 F4 M4 G5 K5 F6 D7 C8 L8 Q7
attribute [local go_sem] Oper.semAt_some
section
variable {r:Nat}{s:PoolS}{gs:List PageV}{hush:RTail}{x0:RX}
theorem refAt_own {F:Pr}{w:World}(h:Sat ((RefAt r s gs hush x0).star F) w):Sat ((Pr.own x0.h).star ((Pr.pts r (refC s.refs x0.cv x0.lv x0.pv hush)).star ((IntsRow x0.cv s.counts).star ((BoolsRow x0.lv s.last).star ((PgRow x0.pv x0.xs gs).star F))))) w:=h.perm (by unfold RefAt;ac_rfl)
theorem refAt_le {F:Pr}{w:World}(h:Sat ((RefAt r s gs hush x0).star F) w):x0.h.le w:=(refAt_own h).own
theorem copy_at(v:Value)(l:List Int)(hx:Bytes x0.h v l)(hn:l.length≤140737488355328)(F:Pr)(w:World)(hF:Sat ((RefAt r s gs hush x0).star F) w):
 Calls Tryz.prog 58 #[v] w fun e w'=>Stays w w'∧∃v',e= .returned v'∧Sat ((BytesRow v' l).star ((RefAt r s gs hush x0).star F)) w':=by
 refine(copybytes_any x0.h v l _ w (refAt_own hF) hx hn).mono ?_;rintro e w' ⟨v',rfl,hs,st⟩;refine⟨st,v',rfl,(hs.perm (B:=(RefAt r s gs hush x0).star ((BytesRow v' l).star F)) ?_).perm (by ac_rfl)⟩;unfold RefAt;ac_rfl
theorem there_look(ok:ROk s gs x0){look:Int→Option PageV}(hl:RLooks s gs look){n:Int}{g:PageV}(hn:look n=some g){F:Pr}{w:World}(hF:Sat ((RefAt r s gs hush x0).star F) w):
 Calls Tryz.prog 85 #[.pointer (some ⟨r,0,none⟩),.int .i64 n] w fun e w'=>e= .returned (.bool true)∧w=w':=by
 obtain⟨h0,_⟩:=hl.some n g hn
 have ht:s.there n:=by
  by_cases ht:s.there n
  · exact ht
  · exact absurd (by unfold PoolS.count;rw [if_neg ht]) h0
 have hpos:decide (0<s.count n)=true:=by
  rw [decide_eq_true_eq];obtain⟨j,rfl,hj⟩:=there_idx ht;rw [count_idx hj] at h0 ⊢;have:=ok.c0 s.counts[j] (List.getElem_mem hj)
  simp [hj] at h0 ⊢
  omega
 have C:=rthere_any r s gs hush n _ _ (refA_iff.2 ⟨x0,ok,hF⟩);rw [hpos] at C;exact C
end
theorem rall_any(r:Nat)(s:PoolS)(gs:List PageV)(hush:RTail)(x0:RX)(ok0:ROk s gs x0)(look:Int→Option PageV)(hl:RLooks s gs look)(okp:PgsOk look)(root height items:Int)(L:List ItemV)(hT:StandT look root height items L)(F:Pr)(w:World)(hF:OwnL [RefAt r s gs hush x0,F] w):
 Calls Tryz.prog 51 #[.pointer (some ⟨r,0,none⟩),treeV root height items] w fun e w'=>Stays w w'∧∃ov zs,e= .returned ov∧zs.map (·.2)=L.map (pairK look)∧OwnL [PairRow ov zs,big pairRows zs,RefAt r s gs hush x0,F] w':=by
 obtain⟨j0,hj0,hy0,hy1,hy2⟩:=info_parts infoPair;obtain⟨i0,hi0,hz0,hz1,hz2⟩:=info_parts infoInt;have hval:=stand_val hT;have hlen:=stand_len okp hT;have hs0:=hF.alloc (treeC root height items);rcases hT with⟨rfl,rfl,rfl,rfl⟩ | ⟨hr0,hi9,lv,hh9,hlv,hT⟩
 · have HS0:=hQ (hs0.to (M:= [RefAt r s gs hush x0,F]))
   have HST:=hQ ((Stays.refl w).alloc (treeC 0 0 0));clear hF hs0 hval hlen;go_enter Tryz.func51,Tryz.ntmps51
   go_wp2;go_ret;refine⟨HST.out,.slice none 0 0,[],rfl,rfl,?_⟩;have h1:=HS0.out.emp;rw [← Row.nil 49 2] at h1;have h2:OwnL [big pairRows [],PairRow (.slice none 0 0) [],RefAt r s gs hush x0,F] (w.alloc (treeC 0 0 0)):=h1.emp;exact h2.to
 · clear hi9 hh9
   have hb0:(root == 0)=false:=by rw [beq_eq_false_iff_ne];exact hr0
   obtain⟨n9,hn9,htr⟩:=trav_all9 okp hT;have htr0:=htr [] [] 0 .nil;rw [List.append_nil,Nat.add_zero] at htr0;have hn11:=pow9_11 hn9 hlv;have HTR:=hQ htr0;have hs1:=hs0.alloc (.cells #[.int .i64 root] 3);rw [show (w.alloc (treeC root height items)).heap.size=w.heap.size+1 by simp] at hs1;have HS0:=hQ hs1
   have HST0:=hQ (((Stays.refl w).alloc (treeC root height items)).alloc (.cells #[.int .i64 root] 3));have HH:=hQ (And.intro hl (And.intro okp ok0));have HL:=hQ (And.intro hval hlen);have hz:=World.size_alloc w (treeC root height items);have c1:=hs0.facts;simp only [CellsAt,Nat.reduceAdd,and_true] at c1;clear hF hs0 hs1 hT htr htr0 hr0 hl okp hval hlen hn9 ok0;go_enter Tryz.func51,Tryz.ntmps51
   go_wp2;clear c1 hz;have U1:=HS0.out;have U2:=HST0.out;clear HS0 HST0;generalize (w.alloc (treeC root height items)).alloc (.cells #[.int .i64 root] 3)=W0 at*;generalize w.heap.size+1=B0 at*;generalize w.heap.size=TB at*;have HS0:=hQ U1;have HST0:=hQ U2;clear U1 U2
   go_loopg [5,6] n9 (fun k o t wr=> ∃(st:List Int) (out:List ItemV) (zs:List PairX),k≤n9∧Hid (TravA look st out k)∧Hid (zs.map (·.2)++out.map (pairK look)=L.map (pairK look))∧Hid (∀x∈out,x∈L)∧Stays w wr∧OwnL [IntsRow t st.reverse,PairRow o zs,big pairRows zs,Pr.pts TB (treeC root height items),RefAt r s gs hush x0,F] wr)
   case atStart=>
    refine⟨[root],L,[],Nat.le_refl _,HTR,hQ rfl,hQ (fun _ h=>h),HST0.out,?_⟩;have h1:=HS0.out.pull1 (A1:=Pr.pts B0 (.cells #[.int .i64 root] 3));have h2:=(OwnL.of1 (Row.mk' (T:=3) (k:=1) (b:=B0) (cap:=1) (n:=1) (xs:= [.int .i64 root]) (sp:= []) rfl rfl (Nat.le_refl _) (by simp [maxLen]) h1)).emp;rw [← Row.nil 49 2] at h2
    have h3:OwnL [big pairRows [],PairRow (.slice none 0 0) [],IntsRow (.slice (some ⟨B0,0,none⟩) 1 1) [root].reverse,Pr.pts TB (treeC root height items),RefAt r s gs hush x0,F] W0:=h2.emp;exact h3.to
   case round=>
    obtain⟨st,out,zs,hkn,htv,hpo,hmem,hst,hs⟩:=hrel;rename World=>wr
    clear HTR HS0 HST0;obtain⟨ao,co,rfl⟩:=Row.shape (hs.pull1 (A1:=PairRow u5 zs));cases st with
    | nil=>
      have hs1:=hs;rw [List.reverse_nil] at hs1;obtain⟨a,c,rfl⟩:=Row.shape (hs1.pull1 (A1:=IntsRow u6 []));have HS1:=hQ (hs1.to (M:= [PairRow (.slice ao zs.length co) zs,big pairRows zs,RefAt r s gs hush x0,F]));have HST:=hQ hst
      have HD:=hQ (show zs.map (·.2)=L.map (pairK look) from by
       have h1:=hpo.out
       have h2:=htv.out
       cases h2
       rwa [List.map_nil,List.append_nil] at h1)
      clear hs hs1 hst htv hpo hmem;go_wp2;go_ret;exact⟨HST.out,_,zs,rfl,HD.out,HS1.out⟩
    | cons n st=>
      rw [List.reverse_cons] at hs;obtain⟨T,hTT⟩:∃T,T=st.reverse:=⟨_,rfl⟩;obtain⟨m,hm⟩:∃m,m=T.length:=⟨_,rfl⟩;rw [← hTT] at hs;obtain⟨a,c,rfl⟩:=Row.shape (hs.pull1 (A1:=IntsRow u6 (T++ [n])));have hstl:=travA_len htv.out
      have hmb:(m:Int)≤31381059609:=by
       have h1:m=st.length:=by rw [hm,hTT,List.length_reverse]
       simp only [List.length_cons] at hstl;omega
      have hl1:(T++ [n]).length=m+1:=by rw [List.length_append, ← hm];rfl
      have hsr:OwnL [Row 3 1 (.slice a (m+1) c) (m+1) (T.map (Value.int .i64)++ [.int .i64 n]),PairRow (.slice ao zs.length co) zs,big pairRows zs,Pr.pts TB (treeC root height items),RefAt r s gs hush x0,F] wr:=by
       have h1:=hs;unfold IntsRow at h1;rw [hl1,List.map_append] at h1;exact h1
      obtain⟨b,u,rfl,hu,d9,_,zb⟩:=Row.at1 (hsr.row (.slice a (m+1) c)) m (Nat.lt_succ_self m);rw [List.getElem?_append_right (by simp [hm]),List.length_map, ← hm,Nat.sub_self] at hu;cases hu
      obtain⟨g,hg,hgk⟩:∃g,look n=some g∧((g.kind=1∧∃out' k',gk=k'+1∧out=g.items++out'∧TravA look st out' k')∨(g.kind=2∧∃k',gk=k'+1∧TravA look (g.items.map (·.child)++st) out k')):=by
       have h2:=htv.out;cases h2 with
       | leaf _ _ g out' k' h3 h4 h5=>exact⟨g,h3,.inl ⟨h4,out',k',rfl,rfl,h5⟩⟩
       | index _ _ g _ k' h3 h4 h5=>exact⟨g,h3,.inr ⟨h4,k',rfl,h5⟩⟩
      have hfit:=fit_of_check (HH.out.2.1.chk n g hg);have hn8:=hfit.n;have TH:=hQ (there_look HH.out.2.2 HH.out.1 hg (hsr.pull1 (A1:=RefAt r s gs hush x0)));obtain⟨j,cp,bp,tai,tad,tci,tcd,hnj,hj,q3,y1,y2,hpg,d0,d1,d2,d3,d4⟩:=page_cells HH.out.2.2 HH.out.1 hg (hsr.pull1 (A1:=RefAt r s gs hush x0));subst hnj;have hj2:(j:Int)<(s.counts.length:Int):=by omega
      have hcl:=HH.out.2.2.n2;have hj3:(j:Int)≤65536:=by omega
      have hmc:=row_le (hsr.row (.slice (some ⟨b,0,none⟩) (m+1) c));have hmc3:(m:Int)+1≤(c:Int):=by omega
      obtain⟨_,_,epv,hit,_⟩:=id hpg;simp only [pageV,Value.agg.injEq,Array.mk.injEq,List.cons.injEq,and_true,true_and] at epv;obtain⟨rfl,rfl⟩:=epv;obtain⟨_,_,e9,_,rd⟩:=items_rd hit;cases e9;have RD:=hQ rd;have HG:=hQ hfit;have HNE:=hQ (And.intro (fun h=>((form_of_check (HH.out.2.1.chk _ g hg)).leaf h).2) (fun h=>((form_of_check (HH.out.2.1.chk _ g hg)).index h).2.2));have HGK:=hQ hgk
      have HTT:=hQ (And.intro hTT hm);have HST:=hQ (hst.alloc (pageC g.kind g.level (.slice tai g.items.length tci) (.slice tad g.data.length tcd) g.next));have HKN:=hQ hkn;have hcut:=OwnL.of1 (row_cut (hsr.row (.slice (some ⟨b,0,none⟩) (m+1) c)) (Nat.le_succ m));rw [List.take_append_of_le_length (by simp [hm]),List.take_of_length_le (by simp [hm])] at hcut
      have hs2:=(hcut.to (M:= [Row 3 1 (.slice (some ⟨b,0,none⟩) m c) m (T.map (Value.int .i64)),PairRow (.slice ao zs.length co) zs,big pairRows zs,Pr.pts TB (treeC root height items),RefAt r s gs hush x0,F])).alloc (pageC g.kind g.level (.slice tai g.items.length tci) (.slice tad g.data.length tcd) g.next);have HS2:=hQ hs2;have c1:=hsr.facts;simp only [CellsAt,Nat.reduceAdd,and_true] at c1
      rw [hl1];clear hs hsr hst htv hstl hl1 hTT hm hg hgk hfit hmc hkn hit hpg rd hcut hs2;go_wp2_with fail
      refine TH.out.mono ?_;rintro e w1 ⟨rfl,rfl⟩;go_wp2;clear c1 d0 d1 d2 d3 d4 d9 q3 y1 y2 zb TH;obtain⟨PB,hPB⟩:∃PB,wr.heap.size=PB:=⟨_,rfl⟩;rw [hPB];have U1:=HS2.out;have U2:=HST.out;clear HS2 HST;rw [hPB] at U1;generalize wr.alloc (pageC g.kind g.level (.slice tai g.items.length tci) (.slice tad g.data.length tcd) g.next)=W2 at*;clear hPB;have HS2:=hQ U1;have HST:=hQ U2;clear U1 U2
      rcases HGK.out with⟨hk2,out',k',hk1,ho,htv⟩ | ⟨hk2,k',hk1,htv⟩
      · have HK:=hQ (And.intro hk1 htv)
        have HPO:=hQ (show zs.map (·.2)++(g.items.drop 0).map (pairK look)++out'.map (pairK look)=L.map (pairK look) from by rw [List.drop_zero,List.append_assoc, ← List.map_append, ← ho];exact hpo.out);have HIM:=hQ (And.intro (show ∀x∈g.items,x∈L from fun x hx=>hmem.out x (ho ▸ List.mem_append_left _ hx)) (show ∀x∈out',x∈L from fun x hx=>hmem.out x (ho ▸ List.mem_append_right _ hx)))
        have HKD:=hQ hk2;have hkb:(g.kind == 2)=false:=by rw [hk2];rfl
        have hkb2:(g.kind == 1)=true:=by rw [hk2];rfl
        clear HGK hk1 htv hk2 ho hpo hmem;go_loopg [6,9] 0 (fun k t i wy=>wy=W2∧t= .slice (some ⟨b,0,none⟩) m c∧i= .int .i64 ((g.items.length:Int)-1))
        case atStart=>exact⟨rfl,rfl,rfl⟩
        case round=>
         obtain⟨rfl,rfl,rfl⟩:=hrel;have c1:=HS2.out.facts;simp only [CellsAt,Nat.reduceAdd,and_true] at c1;have hne:1≤g.items.length:=HNE.out.1 HKD.out;have hge:(0:Int)≤(g.items.length:Int)-1:=by omega
         go_wp2
         go_loopg [5,10] g.items.length (fun k o i wy=> ∃(q:Nat) (zs':List PairX),q+k=g.items.length∧i= .int .i64 q∧Hid (zs'.map (·.2)++(g.items.drop q).map (pairK look)++out'.map (pairK look)=L.map (pairK look))∧Stays w wy∧OwnL [Pr.pts PB (pageC g.kind g.level (.slice tai g.items.length tci) (.slice tad g.data.length tcd) g.next),Row 3 1 (.slice (some ⟨b,0,none⟩) m c) m (T.map (Value.int .i64)),PairRow o zs',big pairRows zs',Pr.pts TB (treeC root height items),RefAt r s gs hush x0,F] wy)
         case atStart=>exact⟨0,zs,Nat.zero_add _,rfl,HPO,HST.out,HS2.out.to⟩
         case round=>
          obtain⟨q,zs',hqk,rfl,hpo,hst,hs2⟩:=hrel;rename World=>wy
          clear HS2 HST HPO c1;obtain⟨ao,co,rfl⟩:=Row.shape (hs2.pull1 (A1:=PairRow u5 zs'));have c1:=hs2.facts;simp only [CellsAt,Nat.reduceAdd,and_true] at c1;rcases Nat.lt_or_ge q g.items.length with hlt | hge
          · obtain⟨k0,hk0⟩:∃k0,k0+1=gk:=⟨gk-1,by omega⟩
            obtain⟨b1,off,ak,ck,av,cv,rfl,hbk,hbv,hc⟩:=RD.out q hlt;have hle:=refAt_le (hs2.pull1 (A1:=RefAt r s gs hush x0));obtain⟨d0,d1,d2,d3⟩:=hc wy hle;have zb:=World.block_lt_of_cell? _ _ d0;have hvx:=HL.out.1 _ (HIM.out.1 _ (List.getElem_mem hlt))
            have hzl:zs'.length+1≤68719476736:=by
             have h1:=congrArg List.length hpo.out;simp only [List.length_append,List.length_map,List.length_drop] at h1;have:=HL.out.2
             omega
            have hzl2:(zs'.length:Int)+1≤68719476736:=by omega
            have hql:(q:Int)<(g.items.length:Int):=by omega
            have hpd:g.items.drop q=g.items[q] :: g.items.drop (q+1):=List.drop_eq_getElem_cons hlt;have hk9:=HG.out.k _ (List.getElem_mem hlt);rw [hpd] at hpo;generalize g.items[q]=x at*;have BL:=rbload_at r s gs hush x0 HH.out.2.2 look HH.out.1 x (itemV (.slice ak x.key.length ck) (.slice av x.value.length cv) x.child x.size) ⟨_,_,rfl,hbk,hbv⟩ _ _ (hs2.pull1 (A1:=RefAt r s gs hush x0))
            rw [hvx] at BL;have HBL:=hQ BL;have HC:=hQ (And.intro hbk hc);have HSTQ:=hQ hst;clear hs2 BL hbk hbv hc hle hst hpd;go_wp2_with fail
            refine HBL.out.mono ?_;rintro e w3 ⟨st3,o,rfl,hs3⟩;obtain⟨aw,cw,rfl⟩:=Row.shape hs3;have hs4:=OwnL.of2 hs3;have hle:=refAt_le (hs4.pull1 (A1:=RefAt r s gs hush x0));clear c1 d0 d1 d2 d3 zb;obtain⟨d0,d1,d2,d3⟩:=HC.out.2 w3 hle;have zb:=World.block_lt_of_cell? _ _ d0;have c1:=hs4.facts;simp only [CellsAt,Nat.reduceAdd,and_true] at c1
            have CP:=hQ (copy_at _ x.key HC.out.1 (by omega) _ _ (hs4.pull1 (A1:=RefAt r s gs hush x0)));have HST3:=hQ (HSTQ.out.trans st3);clear hs3 hs4 st3 hle HBL HSTQ;go_wp2_with fail
            refine CP.out.mono ?_;rintro e w4 ⟨st4,o4,rfl,hs5⟩;obtain⟨a4,c4,rfl⟩:=Row.shape hs5;have hs6:=OwnL.of2 hs5;have hA2:=hs6.alloc (.cells #[.slice a4 x.key.length c4,.slice aw (valueL look x.size x.child x.value).1.length cw] 49);have H1:=hQ (hA2.pull1 (A1:=PairRow (.slice ao zs'.length co) zs'))
            have HCN:=hQ (new_cells w4 [.slice a4 x.key.length c4,.slice aw (valueL look x.size x.child x.value).1.length cw] 49 _ rfl);have HST4:=hQ ((HST3.out.trans st4).alloc (.cells #[.slice a4 x.key.length c4,.slice aw (valueL look x.size x.child x.value).1.length cw] 49));clear c1 d0 d1 d2 d3 zb;have c1:=hs6.facts;simp only [CellsAt,Nat.reduceAdd,and_true] at c1
            obtain⟨nw,hnw⟩:∃nw,(valueL look x.size x.child x.value).1.length=nw:=⟨_,rfl⟩;rw [hnw] at H1 HCN HST4 ⊢;have HNW:=hQ hnw;have HPO:=hQ hpo.out;clear hs5 hs6 hA2 st4 HST3 CP HC hnw hpo
            go_wp2_with (at_builtin;refine wpList_append_sl rfl _ _ _ rfl 49 j0 _ 2 48 Tryz.underlying60 hj0 hy0 hy1 hy2 rfl _ _ _ rfl H1.out ⟨w4.heap.size,0,none⟩ 1 1 [.slice a4 x.key.length c4,.slice aw nw cw] rfl rfl HCN.out (by simp [Value.oneCell']) (by simp only [maxLen];omega) (by omega) ?_;intro v7 w5 hs8 hg8 _;obtain⟨a7,c7,e7,_,_⟩:=Row.read hs8;subst e7;have hs9:=(OwnL.of1 hs8);have HS9:=hQ hs9;have HST6:=hQ (HST4.out.of_grown hg8);clear hs8 hs9 hg8)
            go_roundg k0
            case measure=>omega
            case rel=>
             refine⟨q+1,zs'++ [((.slice a4 x.key.length c4,.slice aw nw cw),pairK look x)],by omega,congrArg (Value.int .i64) (by omega),hQ ?_,HST6.out,?_⟩
             · rw [List.map_append, ← HPO.out]
               simp
             · have h8:=HS9.out.join2 (BytesRow (.slice a4 x.key.length c4) x.key) (BytesRow (.slice aw nw cw) (valueL look x.size x.child x.value).1)
               have h9:OwnL (pairRows ((.slice a4 x.key.length c4,.slice aw nw cw),pairK look x) :: _) w5:=h8;have h10:=h9.snoc pairRows zs' ((.slice a4 x.key.length c4,.slice aw nw cw),pairK look x)
               have h11:=h10.to (M:= [Pr.pts PB (pageC g.kind g.level (.slice (some ⟨b1,off,none⟩) g.items.length tci) (.slice tad g.data.length tcd) g.next),Row 3 1 (.slice (some ⟨b,0,none⟩) m c) m (T.map (Value.int .i64)),Row 49 2 (.slice a7 (zs'.length+1) c7) (zs'.length+1) (zs'.flatMap pairCells++ [.slice a4 x.key.length c4,.slice aw nw cw]),big pairRows (zs'++ [((.slice a4 x.key.length c4,.slice aw nw cw),pairK look x)]),Pr.pts TB (treeC root height items),RefAt r s gs hush x0,F])
               refine⟨h11.sat.perm ?_⟩;simp only [starL,PairRow,List.length_append,List.length_singleton,List.flatMap_append,List.flatMap_cons,List.flatMap_nil,List.append_nil];rfl
          · have hqe:q=g.items.length:=by omega
            have HS3:=hQ hs2;have HST3:=hQ hst
            have HPO3:=hQ (show zs'.map (·.2)++out'.map (pairK look)=L.map (pairK look) from by
             have h1:=hpo.out
             rwa [List.drop_eq_nil_of_le hge,List.map_nil,List.append_nil] at h1)
            have hq3:¬(q:Int)<(g.items.length:Int):=by omega
            clear hs2 hst hpo;go_wp2;go_roundg k'
            case measure=>rw [HK.out.1];exact Nat.lt_succ_self k'
            case rel=>
             refine⟨st,out',zs',by have h1:=HKN.out;have h2:=HK.out.1;omega,hQ HK.out.2,HPO3,hQ HIM.out.2,HST3.out,?_⟩;rw [← HTT.out.1];unfold IntsRow;rw [← HTT.out.2];exact HS3.out.to
      · have HK:=hQ (And.intro hk1 htv)
        have HPO:=hQ hpo.out;have HIM:=hQ hmem.out;have hkb:(g.kind == 2)=true:=by rw [hk2];rfl
        have hkb2:(g.kind == 1)=false:=by rw [hk2];rfl
        clear HGK hk1 htv hk2 hpo hmem
        go_loopg [6,9] g.items.length (fun k t i wy=>k≤g.items.length∧i= .int .i64 ((k:Int)-1)∧Stays w wy∧OwnL [IntsRow t (T++((g.items.drop k).map (·.child)).reverse),Pr.pts PB (pageC g.kind g.level (.slice tai g.items.length tci) (.slice tad g.data.length tcd) g.next),PairRow (.slice ao zs.length co) zs,big pairRows zs,Pr.pts TB (treeC root height items),RefAt r s gs hush x0,F] wy)
        case atStart=>
         refine⟨Nat.le_refl _,rfl,HST.out,?_⟩;rw [List.drop_length];unfold IntsRow;rw [List.map_nil,List.reverse_nil,List.append_nil, ← HTT.out.2];exact HS2.out.to
        case round=>
         obtain⟨hkl,rfl,hst,hs2⟩:=hrel;rename World=>wy
         clear HS2 HST;obtain⟨at',ct,rfl⟩:=Row.shape (hs2.pull1 (A1:=IntsRow u6 (T++((g.items.drop gk).map (·.child)).reverse)));have c1:=hs2.facts;simp only [CellsAt,Nat.reduceAdd,and_true] at c1;cases gk with
         | succ q=>
           have hlt:q<g.items.length:=by omega
           obtain⟨b1,off,ak,ck,av,cv,rfl,_,_,hc⟩:=RD.out q hlt;have hle:=refAt_le (hs2.pull1 (A1:=RefAt r s gs hush x0));obtain⟨d0,d1,d2,d3⟩:=hc wy hle;have zb:=World.block_lt_of_cell? _ _ d0;have hql:(q:Int)<(g.items.length:Int):=by omega
           have hpd:g.items.drop q=g.items[q] :: g.items.drop (q+1):=List.drop_eq_getElem_cons hlt;obtain⟨X,hX⟩:∃X,T++((g.items.drop (q+1)).map (·.child)).reverse=X:=⟨_,rfl⟩;have hXn:T++((g.items.drop q).map (·.child)).reverse=X++ [g.items[q].child]:=by rw [hpd,List.map_cons,List.reverse_cons, ← List.append_assoc,hX]
           have hXl:X.length≤m+8:=by
            rw [← hX];simp only [List.length_append,List.length_reverse,List.length_map,List.length_drop];have:=HTT.out.2
            omega
           have hq1:((q+1:Nat):Int)-1=(q:Int):=by omega
           rw [hX] at hs2 ⊢;rw [hq1];generalize g.items[q]=x at*;have hs3:=hs2.alloc (.cells #[.int .i64 x.child] 3);have H1:=hQ (hs3.pull1 (A1:=IntsRow (.slice at' X.length ct) X));have HCN:=hQ (new_cells wy [.int .i64 x.child] 3 _ rfl);have HST4:=hQ (hst.alloc (.cells #[.int .i64 x.child] 3));have HXN:=hQ hXn;clear hs2 hs3 hc hle hst hpd hX hXn
           go_wp2_with (at_builtin;refine wpList_append_sl rfl _ _ _ rfl 3 i0 (.int .i64 0) 1 8 Tryz.underlying22 hi0 hz0 hz1 hz2 rfl _ _ _ rfl H1.out ⟨wy.heap.size,0,none⟩ 1 1 [.int .i64 x.child] rfl rfl HCN.out (by simp [Value.oneCell']) (by simp only [maxLen];omega) (by omega) ?_;intro v7 w5 hs8 hg8 _;obtain⟨a7,c7,e7,_,_⟩:=Row.read hs8;subst e7;have hs9:=(OwnL.of1 hs8);have HS9:=hQ hs9;have HST6:=hQ (HST4.out.of_grown hg8);clear hs8 hs9 hg8)
           go_roundg q
           case measure=>omega
           case rel=>
            refine⟨by omega,rfl,HST6.out,?_⟩;rw [HXN.out]
            have h7:=HS9.out.to (M:= [Row 3 1 (.slice a7 (X.length+1) c7) (X.length+1) (X.map (Value.int .i64)++ [.int .i64 x.child]),Pr.pts PB (pageC g.kind g.level (.slice (some ⟨b1,off,none⟩) g.items.length tci) (.slice tad g.data.length tcd) g.next),PairRow (.slice ao zs.length co) zs,big pairRows zs,Pr.pts TB (treeC root height items),RefAt r s gs hush x0,F]);refine⟨h7.sat.perm ?_⟩
            unfold IntsRow;rw [List.length_append,List.map_append];rfl
         | zero=>
           have HS3:=hQ hs2;have HSTQ:=hQ hst;clear hs2 hst;rw [show ((0:Nat):Int)-1= -1 from rfl];rw [List.drop_zero] at HS3 ⊢;obtain⟨X,hX⟩:∃X,T++(g.items.map (·.child)).reverse=X:=⟨_,rfl⟩;have HX:=hQ hX;rw [hX] at HS3 ⊢;clear hX;go_wp2;go_loopg [5,10] 0 (fun k o i wz=>wz=wy∧o= .slice ao zs.length co∧i= .int .i64 0)
           case atStart=>exact⟨rfl,rfl,rfl⟩
           case round=>
            obtain⟨rfl,rfl,rfl⟩:=hrel;by_cases hg0:(0:Int)<(g.items.length:Int)
            all_goals
             go_wp2;go_roundg k'
             case measure=>rw [HK.out.1];exact Nat.lt_succ_self k'
             case rel=>
              refine⟨g.items.map (·.child)++st,out,zs,by have h1:=HKN.out;have h2:=HK.out.1;omega,hQ HK.out.2,HPO,HIM,HSTQ.out,?_⟩;rw [List.reverse_append, ← HTT.out.1,HX.out];exact HS3.out.to
end Go.Proofs.YtiegeadmgpanoaaGreatDoor.N8
namespace Go.Cop
def optK(o:Option ItemV):List Int:=match o with | some x=>x.key | none=> []
def optV(look:Int→Option PageV)(o:Option ItemV):List Int:=match o with | some x=>valK look x | none=> []
end Go.Cop
namespace Go.Proofs.YtiegeadmgpanoaaGreatDoor.P8
open ChangeShapes WideShapes ChangeAt RowKit Sl Cop Go.Shelf D2 F3 N3 P3 G2 J2 Q3 V3 G4 K4 X3 M5 P5 U5 W5 N2 P2 L6 S6 J7 N5 S5 K7 V7 Z7 B8 C8
attribute [local go_sem] Oper.semAt_some
theorem infoPairS:(Tryz.prog.info? 49).map (·.size)=some 2:=by kernel_rfl
theorem load_bool {w:World}{b:Nat}{x:Bool}{fz:Nat × Nat}(h:w.heap[b]? =some (.cells #[.bool x] 4 fz)):(loadVar 4 ⟨b,0,none⟩).run Tryz.prog w= .ok (.bool x) w:=by
 have hc:w.cell? ⟨b,0,none⟩=some (.bool x):=by rw [cell_of_heap h];rfl
 go_simp
theorem results_cell_tmp_tmp {fn:Func}{p u q:Tmp}{ty:TypeId}(h:fn.results= #[.cell p ty,.tmp u,.tmp q])(tmps:Array Value)(w:World)(g:Nat)(x y z:Value)
 (hp:tmps.getD p undef= .pointer (some ⟨g,0,none⟩)) (hr:(loadVar ty ⟨g,0,none⟩).run Tryz.prog w= .ok x w) (hy:tmps.getD u undef=y) (hz:tmps.getD q undef=z):
 (results fn tmps).run Tryz.prog w= .ok (.tuple #[x,y,z]) w:=by
 have hp':tmps[p]?.getD undef= .pointer (some ⟨g,0,none⟩):=by simpa using hp
 have hy':tmps[u]?.getD undef=y:=by simpa using hy
 have hz':tmps[q]?.getD undef=z:=by simpa using hz
 simp [results,h,hp',hy',hz',asAddr,Result.andThen,hr]
theorem results_cell3 {fn:Func}{p u q:Tmp}{ty tu tq:TypeId}(h:fn.results= #[.cell p ty,.cell u tu,.cell q tq])(tmps:Array Value)(w:World)(g g2 g3:Nat)(x y z:Value)
 (hp:tmps.getD p undef= .pointer (some ⟨g,0,none⟩)) (hr:(loadVar ty ⟨g,0,none⟩).run Tryz.prog w= .ok x w) (hu:tmps.getD u undef= .pointer (some ⟨g2,0,none⟩)) (hr2:(loadVar tu ⟨g2,0,none⟩).run Tryz.prog w= .ok y w)
 (hq:tmps.getD q undef= .pointer (some ⟨g3,0,none⟩)) (hr3:(loadVar tq ⟨g3,0,none⟩).run Tryz.prog w= .ok z w):
 (results fn tmps).run Tryz.prog w= .ok (.tuple #[x,y,z]) w:=by
 have hp':tmps[p]?.getD undef= .pointer (some ⟨g,0,none⟩):=by simpa using hp
 have hu':tmps[u]?.getD undef= .pointer (some ⟨g2,0,none⟩):=by simpa using hu
 have hq':tmps[q]?.getD undef= .pointer (some ⟨g3,0,none⟩):=by simpa using hq
 simp [results,h,hp',hu',hq',asAddr,Sem.run_bind,Result.andThen,hr,hr2,hr3]
abbrev pairC(a b:Value):Obj:= .cells #[a,b] 49
theorem load_pair {w:World}{b:Nat}{x y:Value}{fz:Nat × Nat}(h:w.heap[b]? =some (.cells #[x,y] 49 fz)):(loadVar 49 ⟨b,0,none⟩).run Tryz.prog w= .ok (.agg #[x,y]) w:=
 run_loadVar_row (P:=Tryz.prog) w b _ _ _ _ _ h Tryz.underlying49 rfl infoPairS
theorem pair_any(v:Nat)(s:VaultS)(look:Int→Option PageV)(hl:L6.Looks s look)(x:ItemV)(y1 y2:Value)(hv:(valueL look x.size x.child x.value).2=0)(F:Pr)(w:World)(hF:OwnL [rowsOf ((y1,y2),x),VaultA v s,F] w):
 Calls Tryz.prog 53 #[.pointer (some ⟨v,0,none⟩),itemV y1 y2 x.child x.size] w fun e w'=>Stays w w'∧∃o,e= .returned (.tuple #[pairV y1 o,.bool true,.int .i64 0])∧OwnL [BytesRow y1 x.key,BytesRow o (valK look x),VaultA v s,F] w':=by
 have hsh:OwnL [BytesRow y1 x.key,BytesRow y2 x.value] w:=⟨((hF.end1 (A1:=rowsOf ((y1,y2),x))).perm (B:=(BytesRow y1 x.key).star ((BytesRow y2 x.value).star Pr.emp)) (by rw [Pr.star_emp];rfl))⟩;obtain⟨ak,ck,rfl⟩:=Row.shape (hsh.pull1 (A1:=BytesRow y1 x.key));obtain⟨av,cv,rfl⟩:=Row.shape (hsh.pull1 (A1:=BytesRow y2 x.value))
 have hs0:=(hF.alloc (.cells #[.slice ak x.key.length ck,.slice av x.value.length cv,.int .i64 x.child,.int .i64 x.size] 89)).alloc (pairC (.slice none 0 0) (.slice none 0 0));rw [show (w.alloc (.cells #[.slice ak x.key.length ck,.slice av x.value.length cv,.int .i64 x.child,.int .i64 x.size] 89)).heap.size=w.heap.size+1 by simp] at hs0
 have HST:=hQ (((Stays.refl w).alloc (.cells #[.slice ak x.key.length ck,.slice av x.value.length cv,.int .i64 x.child,.int .i64 x.size] 89)).alloc (pairC (.slice none 0 0) (.slice none 0 0)));obtain⟨ax,hax,hsA⟩:=hs0.arena (rowsOf ((.slice ak x.key.length ck,.slice av x.value.length cv),x))
 have BL:=bload_any v s look hl x ax _ ⟨_,_,rfl,(rows_in hax).1,(rows_in hax).2⟩ _ _ (hsA.pull2 (A1:=VaultA v s) (A2:=Pr.own ax));rw [hv] at BL;have HBL:=hQ BL;have HAX:=hQ hax;clear hF hsh hs0 hsA BL hax hv hl;go_enter Tryz.func53,Tryz.ntmps53
 go_wp2_with fail
 refine HBL.out.mono ?_;rintro e w1 ⟨st1,o,rfl,hs1⟩;have hs2:=OwnL.of3 hs1;obtain⟨aw,cw,rfl⟩:=Row.shape hs1;have c1:=hs2.facts;simp only [CellsAt,Nat.reduceAdd,and_true] at c1;generalize w.heap.size+1=PB at*;generalize w.heap.size=IB at*;have HST1:=hQ (HST.out.trans st1);obtain⟨nw,hnw⟩:∃nw,(valueL look x.size x.child x.value).1.length=nw:=⟨_,rfl⟩
 have hs3:OwnL [BytesRow (.slice aw (valueL look x.size x.child x.value).1.length cw) (valueL look x.size x.child x.value).1,VaultA v s,BytesRow (.slice ak x.key.length ck) x.key,Pr.pts PB (pairC (.slice none 0 0) (.slice none 0 0)),F] w1:=by
  have h1:=(hs2.back (rowsOf ((.slice ak x.key.length ck,.slice av x.value.length cv),x)) HAX.out);have h2:OwnL ((BytesRow (.slice ak x.key.length ck) x.key).star (BytesRow (.slice av x.value.length cv) x.value) :: _) w1:=h1;exact h2.norm.to
 rw [hnw] at hs3 ⊢;have HS3:=hQ hs3;clear hs1 hs2 hs3 st1 HBL HAX HST hnw;go_wp2;have h4:=(HS3.out.set PB 0 (.slice ak x.key.length ck)).set PB 1 (.slice aw nw cw);refine bodyPost_ret (results_cell_tmp_tmp rfl _ _ PB (.agg #[.slice ak x.key.length ck,.slice aw nw cw]) (.bool true) (.int .i64 0) rfl (load_pair (h4.pts PB).pts_heap) rfl rfl) rfl ?_
 exact⟨(HST1.out.setCell _ _).setCell _ _,.slice aw nw cw,rfl,(h4.to (M:= [BytesRow (.slice ak x.key.length ck) x.key,BytesRow (.slice aw nw cw) (valueL look x.size x.child x.value).1,VaultA v s,F]): _)⟩
def CI(VB TB A6 A7 A8 v:Nat)(root height items:Int)(F:Pr)(pre:List ItX):Pr:=
 (Pr.pure (pre= [])).star ((Pr.pts VB (vBox v)).star ((Pr.pts TB (treeC root height items)).star ((Pr.pts A6 (pairC (.slice none 0 0) (.slice none 0 0))).star ((Pr.pts A7 (.cells #[.bool false] 4)).star ((Pr.pts A8 (.cells #[.int .i64 0] 32)).star F)))))
def CX(A6 A7 A8:Nat)(look:Int→Option PageV)(F:Pr)(c:Code)(pre:List ItX):Pr:=
 Pr.ex fun q:Value × Value × ItemV=>(Pr.pure (c= .ret∧pre.map (·.2)= [q.2.2])).star ((Pr.pts A6 (pairC q.1 q.2.1)).star ((Pr.pts A7 (.cells #[.bool true] 4)).star ((Pr.pts A8 (.cells #[.int .i64 0] 32)).star
  ((BytesRow q.1 q.2.2.key).star ((BytesRow q.2.1 (valK look q.2.2)).star F)))))
theorem load_err {w:World}{b:Nat}{x:Int}{fz:Nat × Nat}(h:w.heap[b]? =some (.cells #[.int .i64 x] 32 fz)):(loadVar 32 ⟨b,0,none⟩).run Tryz.prog w= .ok (.int .i64 x) w:=load_errno h
theorem ceil_any(v:Nat)(s:VaultS)(look:Int→Option PageV)(hl:L6.Looks s look)(okp:PgsOk look)(root height items:Int)(L:List ItemV)(hT:StandT look root height items L)(kv:Value)(key:List Int)(hr:Hp)(hk:Bytes hr kv key)(uk:U8 key)(nk:key.length≤140737488355000)(F:Pr)(w:World)(hF:OwnL [VaultA v s,Pr.own hr,F] w):
 Calls Tryz.prog 17 #[.pointer (some ⟨v,0,none⟩),treeV root height items,kv] w fun e w'=>Stays w w'∧∃a b,e= .returned (.tuple #[pairV a b,.bool ((L.filter fun x=>hasR ⟨key,[],true⟩ x.key).head?).isSome,.int .i64 0])∧OwnL [BytesRow a (optK (L.filter fun x=>hasR ⟨key,[],true⟩ x.key).head?),BytesRow b (optV look (L.filter fun x=>hasR ⟨key,[],true⟩ x.key).head?),VaultA v s,Pr.own hr,F] w':=by
 obtain⟨kak,kck,rfl⟩:=bytes_shape hk;obtain⟨hs1,_⟩:=hF.fresh [.pointer (some ⟨v,0,none⟩)] 27 w.heap.size rfl;obtain⟨hs2,_⟩:=hs1.fresh [.int .i64 root,.int .i64 height,.int .i64 items] 35 (w.heap.size+1) (by simp);obtain⟨hs3,_⟩:=hs2.fresh [.slice none 0 0,.slice none 0 0] 49 (w.heap.size+1+1) (by simp);obtain⟨hs4,_⟩:=hs3.fresh [.bool false] 4 (w.heap.size+1+1+1) (by simp)
 obtain⟨hs5,_⟩:=hs4.fresh [.int .i64 0] 32 (w.heap.size+1+1+1+1) (by simp);have HS5:=hQ hs5
 have HST:=hQ ((((((Stays.refl w).alloc (.cells [Value.pointer (some ⟨v,0,none⟩)].toArray 27)).alloc (.cells [Value.int .i64 root,.int .i64 height,.int .i64 items].toArray 35)).alloc (.cells [Value.slice none 0 0,.slice none 0 0].toArray 49)).alloc (.cells [Value.bool false].toArray 4)).alloc (.cells [Value.int .i64 0].toArray 32))
 have hMV:∀x∈L.filter (fun x=>hasR ⟨key,[],true⟩ x.key),(valueL look x.size x.child x.value).2=0:=fun x hx=>stand_val hT x (List.mem_filter.1 hx).1
 have IT:=hQ (fun tb vb rb=>items1 tb vb rb v s look hl okp root height items L hT _ _ ⟨key,[],true⟩ hr ⟨_,_,rfl,hk,RowIn.nil _ _⟩ ⟨uk,fun z hz=>by cases hz⟩ ⟨nk,Nat.zero_le _⟩);generalize (L.filter fun x=>hasR ⟨key,[],true⟩ x.key)=M at*;have HH:=hQ (And.intro hl hMV);clear hF hs1 hs2 hs3 hs4 hs5 hk hT hl okp uk nk hMV;refine calls_of_wp_marks (n:=9) Tryz.func17 rfl ?_
 simp only [Tryz.ntmps17,List.size_toArray,List.length_cons,List.length_nil,Nat.reduceAdd,Nat.reduceSub,Array.replicate_succ,Array.replicate_zero,List.push_toArray,List.append_toArray,List.nil_append,List.cons_append];go_wp2_with fail
 have U1:=HS5.out;have U2:=HST.out;clear HS5 HST;generalize (((((w.alloc (.cells [Value.pointer (some ⟨v,0,none⟩)].toArray 27)).alloc (.cells [Value.int .i64 root,.int .i64 height,.int .i64 items].toArray 35)).alloc (.cells [Value.slice none 0 0,.slice none 0 0].toArray 49)).alloc (.cells [Value.bool false].toArray 4)).alloc (.cells [Value.int .i64 0].toArray 32))=w0 at*
 generalize w.heap.size+1+1+1+1=A8 at*;generalize w.heap.size+1+1+1=A7 at*;generalize w.heap.size+1+1=A6 at*;generalize w.heap.size+1=TB at*;generalize w.heap.size=VB at*;refine(items_any v root height items _ _ true _ _ _ _ _ _ rfl rfl _).mono ?_;rintro e w2 ⟨rfl,rfl⟩;have U3:=((U1.alloc (vBox v)).alloc (treeC root height items)).alloc (rangeC (.slice kak key.length kck) (.slice none 0 0) true)
 have U4:=((U2.alloc (vBox v)).alloc (treeC root height items)).alloc (rangeC (.slice kak key.length kck) (.slice none 0 0) true);rw [show ((w0.alloc (vBox v)).alloc (treeC root height items)).heap.size=w0.heap.size+1+1 by simp,show (w0.alloc (vBox v)).heap.size=w0.heap.size+1 by simp] at U3;clear U1 U2
 generalize ((w0.alloc (vBox v)).alloc (treeC root height items)).alloc (rangeC (.slice kak key.length kck) (.slice none 0 0) true)=w1 at*;generalize w0.heap.size+1+1=R2 at*;generalize w0.heap.size+1=T2 at*;generalize w0.heap.size=V2 at*;have HS1:=hQ U3;have HST:=hQ U4;clear U3 U4;go_wp2
 refine wp_rangeFunc_v 9 (gf:=92) rfl (enters_of Tryz.func92 (by kernel_rfl) rfl) (IT.out T2 V2 R2) (fun _=>rfl)
  (fun pre=>CI VB TB A6 A7 A8 v root height items F pre) (fun c pre=>CX A6 A7 A8 look F c pre) ?start ?round ?done ?stop
 case start=>
  have h2:=HS1.out.to (M:= [Pr.pts VB (vBox v),Pr.pts TB (treeC root height items),Pr.pts A6 (pairC (.slice none 0 0) (.slice none 0 0)),Pr.pts A7 (.cells #[.bool false] 4),Pr.pts A8 (.cells #[.int .i64 0] 32),F,Pr.pts T2 (treeC root height items),Pr.pts V2 (vBox v),Pr.pts R2 (rangeC (.slice kak key.length kck) (.slice none 0 0) true),VaultA v s,Pr.own hr]);unfold CI;rw [Pr.star_assoc]
  exact Sat.pure.2 ⟨rfl,h2.sat.perm (by simp only [starL,Pr.star_emp,Pr.star_assoc,ItA])⟩
 case round=>
  intro l' pre x W1' F1 hok hs;obtain⟨⟨y1,y2⟩,x⟩:=x;unfold CI at hs
  have hs9:Sat ((Pr.pure (pre= [])).star (((Pr.pts VB (vBox v)).star ((Pr.pts TB (treeC root height items)).star ((Pr.pts A6 (pairC (.slice none 0 0) (.slice none 0 0))).star ((Pr.pts A7 (.cells #[.bool false] 4)).star ((Pr.pts A8 (.cells #[.int .i64 0] 32)).star F))))).star ((rowsOf ((y1,y2),x)).star ((ItA T2 V2 R2 v s root height items (.slice kak key.length kck) (.slice none 0 0) true hr).star F1)))) W1':=hs.perm (by simp only [Pr.star_assoc,ItA])
  clear hs;obtain⟨hp9,hs⟩:=Sat.pure.1 hs9;clear hs9;subst hp9
  have hs1:OwnL [Pr.pts VB (vBox v),Pr.pts TB (treeC root height items),Pr.pts A6 (pairC (.slice none 0 0) (.slice none 0 0)),Pr.pts A7 (.cells #[.bool false] 4),Pr.pts A8 (.cells #[.int .i64 0] 32),F,rowsOf ((y1,y2),x),Pr.pts T2 (treeC root height items),Pr.pts V2 (vBox v),Pr.pts R2 (rangeC (.slice kak key.length kck) (.slice none 0 0) true),VaultA v s,Pr.own hr,F1] W1':=⟨hs.perm (by simp only [starL,Pr.star_emp,Pr.star_assoc,ItA])⟩
  have hsh:OwnL [BytesRow y1 x.key,BytesRow y2 x.value] W1':=⟨((hs1.end1 (A1:=rowsOf ((y1,y2),x))).perm (B:=(BytesRow y1 x.key).star ((BytesRow y2 x.value).star Pr.emp)) (by rw [Pr.star_emp];rfl))⟩;obtain⟨ak,ck,rfl⟩:=Row.shape (hsh.pull1 (A1:=BytesRow y1 x.key));obtain⟨av,cv,rfl⟩:=Row.shape (hsh.pull1 (A1:=BytesRow y2 x.value))
  have HVX:=hQ (HH.out.2 x (hok.subset (List.mem_append_right _ (List.mem_singleton_self x))));have HS2:=hQ hs1;clear hs hs1 hsh hok;simp only [encI,itemV];gi_wp2
  have hsA:=HS2.out.alloc (.cells #[.slice ak x.key.length ck,.slice av x.value.length cv,.int .i64 x.child,.int .i64 x.size] 89);obtain⟨B,hB⟩:∃B,W1'.heap.size=B:=⟨_,rfl⟩;rw [hB] at hsA ⊢
  refine⟨starL [Pr.pts B (.cells #[.slice ak x.key.length ck,.slice av x.value.length cv,.int .i64 x.child,.int .i64 x.size] 89),Pr.pts VB (vBox v),Pr.pts TB (treeC root height items),Pr.pts A6 (pairC (.slice none 0 0) (.slice none 0 0)),Pr.pts A7 (.cells #[.bool false] 4),Pr.pts A8 (.cells #[.int .i64 0] 32),F,rowsOf ((.slice ak x.key.length ck,.slice av x.value.length cv),x),Pr.pts T2 (treeC root height items),Pr.pts V2 (vBox v),Pr.pts R2 (rangeC (.slice kak key.length kck) (.slice none 0 0) true),VaultA v s,Pr.own hr],(Stays.refl _).alloc _,(hsA.to (M:= [Pr.pts B (.cells #[.slice ak x.key.length ck,.slice av x.value.length cv,.int .i64 x.child,.int .i64 x.size] 89),Pr.pts VB (vBox v),Pr.pts TB (treeC root height items),Pr.pts A6 (pairC (.slice none 0 0) (.slice none 0 0)),Pr.pts A7 (.cells #[.bool false] 4),Pr.pts A8 (.cells #[.int .i64 0] 32),F,rowsOf ((.slice ak x.key.length ck,.slice av x.value.length cv),x),Pr.pts T2 (treeC root height items),Pr.pts V2 (vBox v),Pr.pts R2 (rangeC (.slice kak key.length kck) (.slice none 0 0) true),VaultA v s,Pr.own hr,F1])).sat.perm (by simp only [starL,Pr.star_emp,Pr.star_assoc]),?_⟩
  clear hsA HS2 hB;intro F2 W2 _ hs2
  have hs3:OwnL [Pr.pts B (.cells #[.slice ak x.key.length ck,.slice av x.value.length cv,.int .i64 x.child,.int .i64 x.size] 89),Pr.pts VB (vBox v),Pr.pts TB (treeC root height items),Pr.pts A6 (pairC (.slice none 0 0) (.slice none 0 0)),Pr.pts A7 (.cells #[.bool false] 4),Pr.pts A8 (.cells #[.int .i64 0] 32),F,rowsOf ((.slice ak x.key.length ck,.slice av x.value.length cv),x),Pr.pts T2 (treeC root height items),Pr.pts V2 (vBox v),Pr.pts R2 (rangeC (.slice kak key.length kck) (.slice none 0 0) true),VaultA v s,Pr.own hr,F2] W2:=⟨hs2.perm (by simp only [starL,Pr.star_emp,Pr.star_assoc])⟩
  have c1:=hs3.facts;simp only [CellsAt,Nat.reduceAdd,and_true] at c1;have PA:=hQ (pair_any v s look HH.out.1 x _ _ HVX.out _ _ (OwnL.in2 (hs3.pull2 (A1:=rowsOf ((.slice ak x.key.length ck,.slice av x.value.length cv),x)) (A2:=VaultA v s))));clear hs2 hs3;gi_wp2_with fail
  refine⟨trivial,?_⟩;refine(CallsIn.inRound _ (callsIn_wide.2 PA.out)).mono ?_;rintro e w3 ⟨st3,o,rfl,hs4⟩;have hs5:=hs4.flat;obtain⟨aw,cw,rfl⟩:=Row.shape (hs5.pull1 (A1:=BytesRow o (valK look x)));clear c1;have c1:=hs5.facts;simp only [CellsAt,Nat.reduceAdd,and_true] at c1;have HS5:=hQ hs5;have HST3:=hQ st3;clear hs4 hs5 st3 PA;gi_wp2
  refine⟨((((HST3.out.setCell _ _).setCell _ _).setCell _ _).setCell _ _),?_⟩
  have h8:=((((HS5.out.set A6 0 (.slice ak x.key.length ck)).set A6 1 (.slice aw (valK look x).length cw)).set A7 0 (.bool true)).set A8 0 (.int .i64 0)).to (M:= [Pr.pts A6 (pairC (.slice ak x.key.length ck) (.slice aw (valK look x).length cw)),Pr.pts A7 (.cells #[.bool true] 4),Pr.pts A8 (.cells #[.int .i64 0] 32),BytesRow (.slice ak x.key.length ck) x.key,BytesRow (.slice aw (valK look x).length cw) (valK look x),F,Pr.pts T2 (treeC root height items),Pr.pts V2 (vBox v),Pr.pts R2 (rangeC (.slice kak key.length kck) (.slice none 0 0) true),VaultA v s,Pr.own hr,F2])
  unfold CX;rw [Pr.ex_star,Pr.ex_star];refine Sat.ex0.2 ⟨(.slice ak x.key.length ck,.slice aw (valK look x).length cw,x),?_⟩;rw [Pr.star_assoc,Pr.star_assoc];exact Sat.pure.2 ⟨⟨rfl,rfl⟩,h8.sat.perm (by simp only [starL,Pr.star_emp,Pr.star_assoc,ItA])⟩
 case done=>
  intro D xs W2 hxs hst hs;unfold CI at hs;rw [Pr.star_assoc,Pr.star_assoc] at hs
  obtain⟨hp9,hs9⟩:=Sat.pure.1 (hs.perm (B:=(Pr.pure (xs= [])).star ((Pr.pts D (.deferred (some []))).star (((Pr.pts VB (vBox v)).star ((Pr.pts TB (treeC root height items)).star ((Pr.pts A6 (pairC (.slice none 0 0) (.slice none 0 0))).star ((Pr.pts A7 (.cells #[.bool false] 4)).star ((Pr.pts A8 (.cells #[.int .i64 0] 32)).star F))))).star (ItA T2 V2 R2 v s root height items (.slice kak key.length kck) (.slice none 0 0) true hr)))) (by simp only [Pr.star_assoc,ItA];ac_rfl))
  clear hs;subst hp9;rename Sat _ _=>hs
  have hs3:OwnL [Pr.pts D (.deferred (some [])),Pr.pts A6 (pairC (.slice none 0 0) (.slice none 0 0)),Pr.pts A7 (.cells #[.bool false] 4),Pr.pts A8 (.cells #[.int .i64 0] 32),F,VaultA v s,Pr.own hr] W2:=(⟨hs.perm (by simp only [starL,Pr.star_emp,Pr.star_assoc,ItA]<;>ac_rfl)⟩:OwnL [Pr.pts D (.deferred (some [])),Pr.pts VB (vBox v),Pr.pts TB (treeC root height items),Pr.pts A6 (pairC (.slice none 0 0) (.slice none 0 0)),Pr.pts A7 (.cells #[.bool false] 4),Pr.pts A8 (.cells #[.int .i64 0] 32),F,Pr.pts T2 (treeC root height items),Pr.pts V2 (vBox v),Pr.pts R2 (rangeC (.slice kak key.length kck) (.slice none 0 0) true),VaultA v s,Pr.own hr] W2).to
  have c1:=hs3.facts;simp only [CellsAt,Nat.reduceAdd,and_true] at c1;have HS3:=hQ hs3;have HST3:=hQ (HST.out.trans hst);have HM:=hQ (show M= [] from hxs.symm);clear hs hs3 hst HS1 hxs;go_wp2;have h6:=(((HS3.out.set A6 0 (.slice none 0 0)).set A6 1 (.slice none 0 0)).set A7 0 (.bool false)).set A8 0 (.int .i64 0);have q1:=h6.pull1 (A1:=Pr.pts D (.deferred (some [])))
  have q2:=OwnL.of0 (q1.putObj (.deferred none)).right;refine marks_ret1 (D:=D) rfl q1.pts_heap ⟨_,results_cell3 rfl _ _ A6 A7 A8 (.agg #[.slice none 0 0,.slice none 0 0]) (.bool false) (.int .i64 0) rfl (load_pair (q2.pts A6).pts_heap) rfl (load_bool (q2.pts A7).pts_heap) rfl (load_err (q2.pts A8).pts_heap),((((HST3.out.setCell _ _).setCell _ _).setCell _ _).setCell _ _).putObj _ _,?_⟩
  rw [HM.out];have h7:=(q2.to (M:= [VaultA v s,Pr.own hr,F])).emp.emp;rw [← Row.nil 5 1] at h7;exact⟨_,_,rfl,h7⟩
 case stop=>
  intro D c pre W2 hpre hst hs;unfold CX at hs;rw [Pr.ex_star,Pr.ex_star] at hs;obtain⟨⟨a,b,x⟩,hs8⟩:=Sat.ex0.1 hs;clear hs;rw [Pr.star_assoc,Pr.star_assoc] at hs8;obtain⟨⟨hc9,hx⟩,hs⟩:=Sat.pure.1 hs8;clear hs8;subst hc9;dsimp only at hx hs
  have hs3:OwnL [Pr.pts D (.deferred (some [])),Pr.pts A6 (pairC a b),Pr.pts A7 (.cells #[.bool true] 4),Pr.pts A8 (.cells #[.int .i64 0] 32),BytesRow a x.key,BytesRow b (valK look x),F,VaultA v s,Pr.own hr] W2:=(⟨hs.perm (by simp only [starL,Pr.star_emp,Pr.star_assoc,ItA]<;>ac_rfl)⟩:OwnL [Pr.pts D (.deferred (some [])),Pr.pts A6 (pairC a b),Pr.pts A7 (.cells #[.bool true] 4),Pr.pts A8 (.cells #[.int .i64 0] 32),BytesRow a x.key,BytesRow b (valK look x),F,Pr.pts T2 (treeC root height items),Pr.pts V2 (vBox v),Pr.pts R2 (rangeC (.slice kak key.length kck) (.slice none 0 0) true),VaultA v s,Pr.own hr] W2).to
  have HM:=hQ (show M.head?=some x from by
   rw [hx] at hpre
   obtain⟨t,rfl⟩:=hpre
   rfl)
  have HS3:=hQ hs3;have HST3:=hQ (HST.out.trans hst);clear hs hs3 hst HS1 hx hpre;go_wp2;have q1:=HS3.out.pull1 (A1:=Pr.pts D (.deferred (some [])));have q2:=OwnL.of0 (q1.putObj (.deferred none)).right
  refine marks_ret1 (D:=D) rfl q1.pts_heap ⟨_,results_cell3 rfl _ _ A6 A7 A8 (.agg #[a,b]) (.bool true) (.int .i64 0) rfl (load_pair (q2.pts A6).pts_heap) rfl (load_bool (q2.pts A7).pts_heap) rfl (load_err (q2.pts A8).pts_heap),HST3.out.putObj _ _,?_⟩;rw [HM.out];exact⟨_,_,rfl,q2.to (M:= [BytesRow a x.key,BytesRow b (valK look x),VaultA v s,Pr.own hr,F])⟩
end Go.Proofs.YtiegeadmgpanoaaGreatDoor.P8

