/- The items of a tree whose keys lie in a range, one by one; the conditions stand as hypotheses. -/
import Derived.Test.YtiegeadmgpanoaaGreatDoorWalkChecksM11
import Derived.Test.YtiegeadmgpanoaaGreatDoorWalkChecksM28
import Derived.Test.YtiegeadmgpanoaaGreatDoorWalkChecksM20
import Derived.Test.YtiegeadmgpanoaaGreatDoorWalkChecksM05
import Derived.Test.YtiegeadmgpanoaaGreatDoorWalkChecksM16
import Derived.Test.YtiegeadmgpanoaaGreatDoorWalkChecksM03
import Derived.Test.YtiegeadmgpanoaaGreatDoorWalkChecksM13
import Derived.Deep.LoopGhost
import Derived.WalkMore
import Derived.Deep.CutRange
import Derived.Test.YtiegeadmgpanoaaGreatDoorWalkChecksM25
import Derived.Test.YtiegeadmgpanoaaGreatDoorWalkChecksM01
set_option maxRecDepth 100000
set_option maxHeartbeats 16000000
namespace Go.Proofs.YtiegeadmgpanoaaGreatDoor.B8
open ChangeShapes WideShapes ChangeAt RowKit Sl Cop Go.Shelf D2 F3 N3 P3 G2 J2 Q3 V3 G4 X3 M5 P5 U5 W5 N2 P2 L6 J7 N5 S5 C6 K7 V7 Z7 D6
attribute [local go_sem] Oper.semAt_some
abbrev vBox(v:Nat):Obj:= .cells #[.pointer (some ⟨v,0,none⟩)] 27
theorem read_sh(v:Nat)(s:VaultS)(look:Int→Option PageV)(hl:L6.Looks s look)(n:Int)(g:PageV)(hg:look n=some g)(F:Pr)(w:World)(hF:Sat ((VaultA v s).star F) w):
 Calls Tryz.prog 45 #[.pointer (some ⟨v,0,none⟩),.int .i64 n] w fun e w'=>Stays w w'∧∃(tai tad:Option Addr) (tci tcd:Nat) (ys:List (Value × Value)),e= .returned (.tuple #[pageV g.kind g.level (.slice tai g.items.length tci) (.slice tad g.data.length tcd) g.next,.int .i64 0])∧ys.length=g.items.length∧
  Sat ((ItRow (.slice tai g.items.length tci) ys g.items).star ((big rowsOf (ys.zip g.items)).star ((BytesRow (.slice tad g.data.length tcd) g.data).star ((VaultA v s).star F)))) w':=by
 obtain⟨h1,h2,h3,h4⟩:=hl.some n g hg;refine(read_rows v s n h1 g h4 F w hF h2 h3).mono ?_;rintro e w' ⟨hst,t,rfl,rfl,hs⟩;obtain⟨hyl,h5⟩:=pgOwn_iff.1 hs;obtain⟨vi,vd,ys,g⟩:=t;obtain⟨ai,ci,e1⟩:=Row.shape h5;obtain⟨ad,cd,e2⟩:=Row.shape h5.right.right;dsimp only at e1 e2 hyl h5 ⊢;subst e1 e2;exact⟨hst,ai,ad,ci,cd,ys,rfl,hyl,h5⟩
theorem rows_page {tai tad:Option Addr}{tci tcd:Nat}{ys:List (Value × Value)}{g:PageV}{a:Hp}(h:((ItRow (.slice tai g.items.length tci) ys g.items).star ((big rowsOf (ys.zip g.items)).star (BytesRow (.slice tad g.data.length tcd) g.data))) a)(hyl:ys.length=g.items.length):PageIn a (pageV g.kind g.level (.slice tai g.items.length tci) (.slice tad g.data.length tcd) g.next) g:=by
 refine pgOwn_in (t:=⟨.slice tai g.items.length tci,.slice tad g.data.length tcd,ys,g⟩) ?_;unfold PgOwn TRows;rw [Pr.star_emp];exact⟨Hp.nil,a,⟨hyl,rfl⟩,h,fun k=> .inl rfl,rfl⟩
theorem row_le {T k n c:Nat}{a:Option Addr}{xs:List Value}{F:Pr}{w:World}(h:Sat ((Row T k (.slice a n c) n xs).star F) w):n≤c:=by
 obtain⟨_,(⟨e,_,_⟩ | ⟨b,cap,sp,e,_,h2,_,_⟩)⟩:=Row.open' h
 · cases e;exact Nat.le_refl _
 · cases e;exact h2
abbrev ItX:=(Value × Value) × ItemV
def encI(x:ItX):Array Value:= #[itemV x.1.1 x.1.2 x.2.child x.2.size]
def OkI(M:List ItemV)(pre:List ItX)(x:ItX):Prop:=pre.map (·.2)++ [x.2]<+:M
def ItA(tb vb rb v:Nat)(s:VaultS)(root height items:Int)(lo hi:Value)(op:Bool)(hr:Hp):Pr:=
 (Pr.pts tb (treeC root height items)).star ((Pr.pts vb (vBox v)).star ((Pr.pts rb (rangeC lo hi op)).star ((VaultA v s).star (Pr.own hr))))
theorem rows_in {y:Value × Value}{x:ItemV}{a:Hp}(h:rowsOf (y,x) a):Bytes a y.1 x.key∧Bytes a y.2 x.value:=by
 obtain⟨b,c,hb,hc,s1,s2⟩:=star_sub (show ((BytesRow y.1 x.key).star (BytesRow y.2 x.value)) a from h);exact⟨(Row.rowIn hb).sub s1,(Row.rowIn hc).sub s2⟩
theorem items1(tb vb rb v:Nat)(s:VaultS)(look:Int→Option PageV)(hl:L6.Looks s look)(okp:PgsOk look)(root height items:Int)(L:List ItemV)(hT:StandT look root height items L)(lo hi:Value)(r:RangeV)(hr:Hp)(hri:RangeIn hr (.agg #[lo,hi,.bool r.op]) r)(ur:RU8 r)(nr:RLen 140737488355000 r):
 IterV Tryz.prog 92 #[.pointer (some ⟨tb,0,none⟩),.pointer (some ⟨vb,0,none⟩),.pointer (some ⟨rb,0,none⟩)] encI (OkI (L.filter fun x=>hasR r x.key)) (fun xs=>xs.map (·.2)=L.filter fun x=>hasR r x.key) (fun xs=>xs.map (·.2)<+:L.filter fun x=>hasR r x.key) rowsOf (ItA tb vb rb v s root height items lo hi r.op hr):=by
 intro l' J Jx W hY h0;refine(callsIn_wide (n:=3)).1 ?_;refine callsIn_of_wp Tryz.func92 rfl trivial ?_ rfl;simp only [Tryz.ntmps92,List.size_toArray,List.length_cons,List.length_nil,Nat.reduceAdd,Nat.reduceSub,Array.replicate_succ,Array.replicate_zero,List.push_toArray,List.append_toArray,List.nil_append,List.cons_append];obtain⟨lo',hi',e,hlo,hhi⟩:=id hri;cases e;obtain⟨al,cl,rfl,_⟩:=bytes_rd hlo
 obtain⟨ah,ch,rfl,_⟩:=bytes_rd hhi;have hs0:OwnL [J [],Pr.pts tb (treeC root height items),Pr.pts vb (vBox v),Pr.pts rb (rangeC (.slice al r.lo.length cl) (.slice ah r.hi.length ch) r.op),VaultA v s,Pr.own hr] W:=⟨h0.perm (by simp only [starL,Pr.star_emp,ItA])⟩;have c1:=hs0.facts;simp only [CellsAt,Nat.reduceAdd,and_true] at c1;rcases hT with⟨rfl,rfl,rfl,rfl⟩ | ⟨hr0,_,lv,_,hlv,hT⟩
 · have H0:=hQ h0
   clear h0 hs0 hY hri hlo hhi;refine wpIn_wide.2 ?_;go_wp2;go_step3
   go_wp2;rw [Exit.noGoto_ret];refine bodyPost_ret (results_none rfl _ _ _) rfl ?_;exact⟨⟨_,rfl⟩,Stays.refl _,.inl ⟨[],rfl,H0.out⟩⟩
 · obtain⟨i0,hi0,hz0,hz1,hz2⟩:=info_parts infoInt
   have hb0:(root == 0)=false:=by rw [beq_eq_false_iff_ne];exact hr0
   obtain⟨n9,hn9,htr⟩:=trav_tr9 okp r ur hT;have htr0:=htr [] [] 0 .nil;rw [List.append_nil,Nat.add_zero] at htr0;have hn11:=pow9_11 hn9 hlv;generalize (L.filter fun x=>hasR r x.key)=M at*;have HTR:=hQ htr0;have hsa:=hs0.alloc (.cells #[.int .i64 root] 3);have HS0:=hQ hsa;have HY:=hQ hY;have HH:=hQ (And.intro hl (And.intro okp (And.intro hri (And.intro ur nr))))
   clear h0 hs0 hY hri hlo hhi hT htr htr0 hr0 hl okp ur nr;refine wpIn_wide.2 ?_;go_wp2;go_step3
   go_wp2;go_step3
   go_wp2;have hsa2:=HS0.out;have hst0:=(Stays.refl W).alloc (.cells #[.int .i64 root] 3);clear HS0 hsa c1;generalize W.alloc (.cells #[.int .i64 root] 3)=W0 at*;generalize W.heap.size=B0 at*;have HS0:=hQ hsa2;have HST0:=hQ hst0;clear hsa2 hst0
   go_loopg [5] n9 (fun k t wr=> ∃(st:List Int) (out:List ItemV) (pre:List ItX),k≤n9∧Hid (TravK look r st out k)∧Hid (pre.map (·.2)++out=M)∧Stays W wr∧OwnL [IntsRow t st.reverse,J pre,Pr.pts tb (treeC root height items),Pr.pts vb (vBox v),Pr.pts rb (rangeC (.slice al r.lo.length cl) (.slice ah r.hi.length ch) r.op),VaultA v s,Pr.own hr] wr)
   case atStart=>
    refine⟨[root],M,[],Nat.le_refl _,HTR,hQ rfl,HST0.out,?_⟩;have h1:=HS0.out.pull1 (A1:=Pr.pts B0 (.cells #[.int .i64 root] 3));have h2:=OwnL.of1 (Row.mk' (T:=3) (k:=1) (b:=B0) (cap:=1) (n:=1) (xs:= [.int .i64 root]) (sp:= []) rfl rfl (Nat.le_refl _) (by simp [maxLen]) h1);exact h2
   case round=>
    obtain⟨st,out,pre,hkn,htv,hpo,hst,hs⟩:=hrel;clear HTR HS0 HST0;cases st with
    | nil=>
      have hs1:=hs;rw [List.reverse_nil] at hs1;obtain⟨a,c,rfl⟩:=Row.shape (hs1.pull1 (A1:=IntsRow u5 []));have HS1:=hQ hs1;have HST:=hQ hst
      have HD:=hQ (show pre.map (·.2)=M from by
       have h1:=hpo.out
       have h2:=htv.out
       cases h2
       rwa [List.append_nil] at h1)
      clear hs hs1 hst htv hpo;go_wp2;rw [Exit.noGoto_normal];go_end0
      refine⟨⟨_,rfl⟩,HST.out,.inl ⟨pre,HD.out,?_⟩⟩;exact(HS1.out.to (M:= [J pre,Pr.pts tb (treeC root height items),Pr.pts vb (vBox v),Pr.pts rb (rangeC (.slice al r.lo.length cl) (.slice ah r.hi.length ch) r.op),VaultA v s,Pr.own hr])).sat.perm (by simp only [starL,Pr.star_emp,ItA])
    | cons n st=>
      rw [List.reverse_cons] at hs;obtain⟨T,hTT⟩:∃T,T=st.reverse:=⟨_,rfl⟩;obtain⟨m,hm⟩:∃m,m=T.length:=⟨_,rfl⟩;rw [← hTT] at hs;obtain⟨a,c,rfl⟩:=Row.shape (hs.pull1 (A1:=IntsRow u5 (T++ [n])));have hstl:=trav_len htv.out
      have hmb:(m:Int)≤31381059609:=by
       have h1:m=st.length:=by rw [hm,hTT,List.length_reverse]
       simp only [List.length_cons] at hstl;omega
      have hl1:(T++ [n]).length=m+1:=by rw [List.length_append, ← hm];rfl
      have hsr:OwnL [Row 3 1 (.slice a (m+1) c) (m+1) (T.map (Value.int .i64)++ [.int .i64 n]),J pre,Pr.pts tb (treeC root height items),Pr.pts vb (vBox v),Pr.pts rb (rangeC (.slice al r.lo.length cl) (.slice ah r.hi.length ch) r.op),VaultA v s,Pr.own hr] wr:=by
       have h1:=hs;unfold IntsRow at h1;rw [hl1,List.map_append] at h1;exact h1
      obtain⟨b,u,rfl,q1,q2,q3,q4⟩:=Row.at1 (hsr.row (.slice a (m+1) c)) m (Nat.lt_succ_self m);clear q1 q2 q3 q4 u
      obtain⟨g,hg,hgk⟩:∃g,look n=some g∧((g.kind≠2∧∃out' k',gk=k'+1∧out=g.items.filter (fun x=>hasR r x.key)++out'∧TravK look r st out' k')∨(g.kind=2∧∃k',gk=k'+1∧TravK look r (withinK g r++st) out k')):=by
       have h2:=htv.out;cases h2 with
       | leaf _ _ g out' k' h3 h4 h5=>exact⟨g,h3,.inl ⟨h4,out',k',rfl,rfl,h5⟩⟩
       | index _ _ g _ k' h3 h4 h5=>exact⟨g,h3,.inr ⟨h4,k',rfl,h5⟩⟩
      have hfit:=fit_of_check (HH.out.2.1.chk n g hg);have hn8:=hfit.n;have HG:=hQ (And.intro hg (And.intro hfit (HH.out.2.1.u8 n g hg)));have HGK:=hQ hgk;have HPO:=hpo;have RD:=hQ (fun(G:Pr) (wx:World) hG=>read_sh v s look HH.out.1 n g hg G wx hG);have HTT:=hQ (And.intro hTT hm);have HS:=hQ hsr;have HST:=hQ hst;have HKN:=hQ hkn;have hmc:=row_le (hsr.row (.slice (some ⟨b,0,none⟩) (m+1) c))
      have hmc3:(m:Int)+1≤(c:Int):=by omega
      rw [hl1];clear hs hsr hst htv hstl hl1 hTT hm hg hgk hfit hmc hpo hkn;go_wp2_with fail
      go_cut [7,8] from 23 to 31 (fun t1 t2 wx=> ∃(PB:Nat) (tai tad:Option Addr) (tci tcd:Nat) (ys:List (Value × Value)),t1= .pointer (some ⟨PB,0,none⟩)∧t2= .int .i64 0∧ys.length=g.items.length∧Stays W wx∧OwnL [Pr.pts PB (pageC g.kind g.level (.slice tai g.items.length tci) (.slice tad g.data.length tcd) g.next),ItRow (.slice tai g.items.length tci) ys g.items,big rowsOf (ys.zip g.items),BytesRow (.slice tad g.data.length tcd) g.data,VaultA v s,Row 3 1 (.slice (some ⟨b,0,none⟩) (m+1) c) (m+1) (T.map (Value.int .i64)++ [.int .i64 n]),J pre,Pr.pts tb (treeC root height items),Pr.pts vb (vBox v),Pr.pts rb (rangeC (.slice al r.lo.length cl) (.slice ah r.hi.length ch) r.op),Pr.own hr] wx)
      case first=>
       have c1:=HS.out.facts;simp only [CellsAt,Nat.reduceAdd,and_true] at c1;obtain⟨_,_,e,hu,d0,_,zb⟩:=Row.at1 (HS.out.row (.slice (some ⟨b,0,none⟩) (m+1) c)) m (Nat.lt_succ_self m);cases e;rw [List.getElem?_append_right (by simp [HTT.out.2]),List.length_map, ← HTT.out.2,Nat.sub_self] at hu;cases hu
       refine wp_region_forked (sz:=63) (by kernel_rfl) [0,1,2,3,4] [(9,[],[0,1,2,3,4],[(5,[6,7,8],[1,2,3]),(10,[11],[8])]),(5,[6,7,8],[1,2,3],[(9,[],[1,2,3,6,7,8]),(10,[11],[8])])] rfl (by kernel_rfl) (by kernel_rfl) (by kernel_rfl) ?_;refine wpQ_all _ rfl rfl ?_;simp only [pick,pQ];iterate 5 (go_big_quiet_step (fail))
       refine wpQuiet_nil ?_;intro sx hsx;rcases List.mem_cons.1 hsx with rfl | hsx
       · have hs8:=(HS.out.alloc (pageC 0 0 (.slice none 0 0) (.slice none 0 0) 0)).drew
         have V:=hQ (RD.out _ _ (hs8.pull1 (A1:=VaultA v s)));have HSTA:=hQ (HST.out.alloc (pageC 0 0 (.slice none 0 0) (.slice none 0 0) 0)).drew;clear hs8;refine wpRest_act rfl ?_;go_wp2;refine onN_mk ?_;refine wpQ_nil ⟨?_,?_⟩
         · exact cQ
         refine wpRest_act rfl ?_;go_wp2_with fail
         refine V.out.mono ?_;rintro e w5 ⟨st5,tai,tad,tci,tcd,ys,rfl,hyl,hs9⟩;dsimp only [pageV];have hs10:=OwnL.of4 hs9;have c1:=hs10.facts;simp only [CellsAt,Nat.reduceAdd,and_true] at c1
         have hs11:=(((((hs10.set wr.heap.size 0 (.int .i64 g.kind)).set wr.heap.size 1 (.int .i64 g.level)).set wr.heap.size 2 (.slice tai g.items.length tci)).set wr.heap.size 3 (.slice tad g.data.length tcd)).set wr.heap.size 4 (.int .i64 g.next))
         have HEND:=hQ (And.intro hyl (And.intro ((((((HSTA.out.trans st5).setCell ⟨wr.heap.size,0,none⟩ (.int .i64 g.kind)).setCell ⟨wr.heap.size,1,none⟩ (.int .i64 g.level)).setCell ⟨wr.heap.size,2,none⟩ (.slice tai g.items.length tci)).setCell ⟨wr.heap.size,3,none⟩ (.slice tad g.data.length tcd)).setCell ⟨wr.heap.size,4,none⟩ (.int .i64 g.next)) hs11));clear hs9 hs10 hs11 hyl st5 V HSTA d0 zb
         go_wp2;refine onN_mk ?_;refine wpQ_all _ rfl rfl ?_;simp only [pick,pQ];iterate 3 (go_big_quiet_step (fail))
         refine wpQuiet_nil ⟨?_,?_⟩
         · exact cQ
         refine wpRest_act rfl ?_;go_wp2;refine onN_mk ?_;refine wpQ_all _ rfl rfl ?_;simp only [pick,pQ];iterate 1 (go_big_quiet_step (fail))
         refine wpQuiet_nil ⟨?_,?_⟩
         · exact cQ
         refine wpRest_nil ?_;go_wp2;go_meet
         exact⟨_,tai,tad,tci,tcd,ys,rfl,rfl,HEND.out.1,HEND.out.2.1,HEND.out.2.2.to⟩
       · cases List.mem_singleton.1 hsx
         have V:=hQ (RD.out _ _ (HS.out.drew.pull1 (A1:=VaultA v s)));refine wpRest_act rfl ?_;go_wp2_with fail
         refine V.out.mono ?_;rintro e w5 ⟨st5,tai,tad,tci,tcd,ys,rfl,hyl,hs9⟩;dsimp only [pageV];have hs10:=OwnL.of4 hs9;have c1:=hs10.facts;simp only [CellsAt,Nat.reduceAdd,and_true] at c1;have hs11:=hs10.alloc (pageC g.kind g.level (.slice tai g.items.length tci) (.slice tad g.data.length tcd) g.next)
         have HEND:=hQ (And.intro hyl (And.intro ((HST.out.drew.trans st5).alloc (pageC g.kind g.level (.slice tai g.items.length tci) (.slice tad g.data.length tcd) g.next)) hs11));clear hs9 hs10 hs11 hyl st5 V d0 zb;go_wp2;refine onN_mk ?_;refine wpQ_all _ rfl rfl ?_;simp only [pick,pQ];iterate 3 (go_big_quiet_step (fail))
         refine wpQuiet_nil ⟨?_,?_⟩
         · exact cQ
         refine wpRest_act rfl ?_;go_wp2;refine onN_mk ?_;refine wpQ_nil ⟨?_,?_⟩
         · exact cQ
         refine wpRest_act rfl ?_;go_wp2;refine onN_mk ?_;refine wpQ_all _ rfl rfl ?_;simp only [pick,pQ];iterate 1 (go_big_quiet_step (fail))
         refine wpQuiet_nil ⟨?_,?_⟩
         · exact cQ
         refine wpRest_nil ?_;go_wp2;go_meet
         exact⟨_,tai,tad,tci,tcd,ys,rfl,rfl,HEND.out.1,HEND.out.2.1,HEND.out.2.2.to⟩
      case rest=>
       obtain⟨PB,tai,tad,tci,tcd,ys,rfl,rfl,hyl,st1,hs1⟩:=hcut;clear HS HST RD;have hcut:=OwnL.of1 (row_cut (hs1.row (.slice (some ⟨b,0,none⟩) (m+1) c)) (Nat.le_succ m));rw [List.take_append_of_le_length (by simp [HTT.out.2]),List.take_of_length_le (by simp [HTT.out.2])] at hcut
       have hs2:=hcut.to (M:= [Pr.pts PB (pageC g.kind g.level (.slice tai g.items.length tci) (.slice tad g.data.length tcd) g.next),ItRow (.slice tai g.items.length tci) ys g.items,big rowsOf (ys.zip g.items),BytesRow (.slice tad g.data.length tcd) g.data,VaultA v s,Row 3 1 (.slice (some ⟨b,0,none⟩) m c) m (T.map (Value.int .i64)),J pre,Pr.pts tb (treeC root height items),Pr.pts vb (vBox v),Pr.pts rb (rangeC (.slice al r.lo.length cl) (.slice ah r.hi.length ch) r.op),Pr.own hr])
       have HS2:=hQ hs2;have HST1:=hQ st1;have HYL:=hQ hyl;have c1:=hs2.facts;simp only [CellsAt,Nat.reduceAdd,and_true] at c1;clear hs1 hs2 hcut st1 hyl;rcases HGK.out with⟨hk2,out',k',hk1,ho,htv⟩ | ⟨hk2,k',hk1,htv⟩
       · have HK:=hQ (And.intro hk1 htv)
         have hkb:(g.kind == 2)=false:=by rw [beq_eq_false_iff_ne];exact hk2
         have HPO2:=hQ (show pre.map (·.2)++((g.items.drop 0).filter (fun x=>hasR r x.key)++out')=M from by rw [List.drop_zero, ← ho];exact HPO.out);clear HGK hk1 htv hk2 ho HPO;go_wp2
         go_loopg [48] g.items.length (fun k t wy=> ∃(j:Nat) (pre':List ItX),j+k=g.items.length∧t= .int .i64 j∧Hid (pre'.map (·.2)++((g.items.drop j).filter (fun x=>hasR r x.key)++out')=M)∧Stays W wy∧OwnL [Pr.pts PB (pageC g.kind g.level (.slice tai g.items.length tci) (.slice tad g.data.length tcd) g.next),ItRow (.slice tai g.items.length tci) ys g.items,big rowsOf ((ys.zip g.items).drop j),Row 3 1 (.slice (some ⟨b,0,none⟩) m c) m (T.map (Value.int .i64)),J pre',Pr.pts tb (treeC root height items),Pr.pts vb (vBox v),Pr.pts rb (rangeC (.slice al r.lo.length cl) (.slice ah r.hi.length ch) r.op),VaultA v s,Pr.own hr] wy)
         case atStart=>
          refine⟨0,pre,Nat.zero_add _,rfl,HPO2,HST1.out,?_⟩;rw [List.drop_zero];exact HS2.out.to
         case round=>
          obtain⟨j,pre',hjk,rfl,hpo2,hst2,hs2⟩:=hrel;clear HS2 HST1 HPO2;rcases Nat.lt_or_ge j g.items.length with hlt | hge
          · have hyj:j<ys.length:=by have:=HYL.out;omega
            obtain⟨k0,hk0⟩:∃k0,k0+1=gk:=⟨gk-1,by omega⟩
            have hzd:(ys.zip g.items).drop j=(ys[j],g.items[j]) :: (ys.zip g.items).drop (j+1):=by
             rw [List.drop_eq_getElem_cons (by simp;omega),List.getElem_zip]
            rw [hzd] at hs2
            obtain⟨bi,rfl⟩:∃bi,tai=some ⟨bi,0,none⟩:=by
             obtain⟨_,_,e,_,h1⟩:=Row.read (hs2.pull1 (A1:=ItRow (.slice tai g.items.length tci) ys g.items));cases e;obtain⟨bi,e,_⟩:=h1 (by omega);exact⟨bi,e⟩
            have hs3:=hs2.uncons rowsOf (ys[j],g.items[j]) ((ys.zip g.items).drop (j+1));obtain⟨⟨q0,q1,q2,q3⟩,_⟩:=itRow_rd (hs2.pull1 (A1:=ItRow (.slice (some ⟨bi,0,none⟩) g.items.length tci) ys g.items)) hyj hlt;have qz:=World.block_lt_of_cell? _ _ q0;simp only at qz;have hux:=HG.out.2.2 _ (List.getElem_mem hlt);have hkx:=HG.out.2.1.k _ (List.getElem_mem hlt)
            have hpd:g.items.drop j=g.items[j] :: g.items.drop (j+1):=List.drop_eq_getElem_cons hlt;have HPD:=hQ (And.intro hpo2.out hpd);have HZ:=hQ hzd;clear hs2 hzd hpo2 hpd;generalize g.items[j]=x at*;generalize ys[j]=y at*;obtain⟨y1,y2⟩:=y;dsimp only at q0 q1
            have hsh:OwnL [BytesRow y1 x.key,BytesRow y2 x.value] wr:=⟨((hs3.end1 (A1:=rowsOf ((y1,y2),x))).perm (B:=(BytesRow y1 x.key).star ((BytesRow y2 x.value).star Pr.emp)) (by rw [Pr.star_emp];rfl))⟩;obtain⟨ak,ck,rfl⟩:=Row.shape (hsh.pull1 (A1:=BytesRow y1 x.key));obtain⟨av,cv,rfl⟩:=Row.shape (hsh.pull1 (A1:=BytesRow y2 x.value));clear hsh
            have hs4:=hs3.alloc (.cells #[.slice ak x.key.length ck,.slice av x.value.length cv,.int .i64 x.child,.int .i64 x.size] 89);obtain⟨ax,hax,hsA⟩:=hs4.arena (rowsOf ((.slice ak x.key.length ck,.slice av x.value.length cv),x));obtain⟨hd,hsB⟩:=Sat.own_join (hsA.pull2 (A1:=Pr.own ax) (A2:=Pr.own hr))
            have HA:=hQ (has_any (ax.un hr) _ _ r x.key (HH.out.2.2.1.sub (Hp.sub_un_right hd)) ((rows_in hax).1.sub (Hp.sub_un_left ax hr)) HH.out.2.2.2.1 hux (by omega) _ hsB.own);have HS4:=hQ hs4;have HST2:=hQ (hst2.alloc (.cells #[.slice ak x.key.length ck,.slice av x.value.length cv,.int .i64 x.child,.int .i64 x.size] 89));have c1:=hs3.facts;simp only [CellsAt,Nat.reduceAdd,and_true] at c1
            have hj3:(j:Int)<(g.items.length:Int):=by omega
            have HJK:=hQ (And.intro hjk hk0);clear hs3 hs4 hsA hsB hax hd hst2 hux hkx hjk hk0;go_upto_region 12 with fail
            refine(wpIn_wide (n:=3)).1 ?_;gi_wp2_with fail
            refine⟨trivial,?_⟩;refine(callsIn_wide.2 HA.out).mono ?_;rintro e w3 ⟨rfl,ho⟩;have hs5:=HS4.out.ext ho.heap;clear c1 q0 q1 q2 q3 qz;have c1:=hs5.facts;simp only [CellsAt,Nat.reduceAdd,and_true] at c1;have HST3:=hQ (HST2.out.trans ho.st);have HS5:=hQ hs5;clear hs5 ho HS4 HST2 HA;cases hhas:hasR r x.key with
            | false=>
              have HF:=hQ (show (g.items.drop j).filter (fun x=>hasR r x.key)=(g.items.drop (j+1)).filter (fun x=>hasR r x.key) from by rw [HPD.out.2,List.filter_cons_of_neg (by rw [hhas];simp)]);clear hhas;gi_wp2
              refine⟨fun _ h=>(by cases h),?_⟩;gi_wp2
              go_wp2;go_roundg k0
              case measure=>have:=HJK.out;omega
              case rel=>exact⟨j+1,pre',by have:=HJK.out;omega,congrArg (Value.int .i64) (by omega),hQ (by rw [← HF.out];exact HPD.out.1),HST3.out,HS5.out.to⟩
            | true=>
              have HF:=hQ (show (g.items.drop j).filter (fun x=>hasR r x.key)=x :: (g.items.drop (j+1)).filter (fun x=>hasR r x.key) from by rw [HPD.out.2,List.filter_cons_of_pos (by rw [hhas])]);have hok:OkI M pre' ((.slice ak x.key.length ck,.slice av x.value.length cv),x):=⟨(g.items.drop (j+1)).filter (fun x=>hasR r x.key)++out',by rw [← HPD.out.1,HF.out];simp⟩;have HOK:=hQ hok;clear hhas hok
              gi_wp2
              refine at_yield (HY.out (starL [Pr.pts wr.heap.size (.cells #[.slice ak x.key.length ck,.slice av x.value.length cv,.int .i64 x.child,.int .i64 x.size] 89),Pr.pts PB (pageC g.kind g.level (.slice (some ⟨bi,0,none⟩) g.items.length tci) (.slice tad g.data.length tcd) g.next),ItRow (.slice (some ⟨bi,0,none⟩) g.items.length tci) ys g.items,big rowsOf ((ys.zip g.items).drop (j+1)),Row 3 1 (.slice (some ⟨b,0,none⟩) m c) m (T.map (Value.int .i64))]) pre' ((.slice ak x.key.length ck,.slice av x.value.length cv),x) w3 HOK.out ?_) ?_
              · exact(HS5.out.to (M:= [J pre',rowsOf ((.slice ak x.key.length ck,.slice av x.value.length cv),x),Pr.pts tb (treeC root height items),Pr.pts vb (vBox v),Pr.pts rb (rangeC (.slice al r.lo.length cl) (.slice ah r.hi.length ch) r.op),VaultA v s,Pr.own hr,Pr.pts wr.heap.size (.cells #[.slice ak x.key.length ck,.slice av x.value.length cv,.int .i64 x.child,.int .i64 x.size] 89),Pr.pts PB (pageC g.kind g.level (.slice (some ⟨bi,0,none⟩) g.items.length tci) (.slice tad g.data.length tcd) g.next),ItRow (.slice (some ⟨bi,0,none⟩) g.items.length tci) ys g.items,big rowsOf ((ys.zip g.items).drop (j+1)),Row 3 1 (.slice (some ⟨b,0,none⟩) m c) m (T.map (Value.int .i64))])).sat.perm (by simp only [starL,Pr.star_emp,Pr.star_assoc,ItA])
              rintro e w' ⟨hR',(⟨rfl,hs'⟩ | ⟨rfl,hs'⟩)⟩
              · refine⟨_,rfl,?_⟩
                have hs6:OwnL [J (pre'++ [((.slice ak x.key.length ck,.slice av x.value.length cv),x)]),Pr.pts tb (treeC root height items),Pr.pts vb (vBox v),Pr.pts rb (rangeC (.slice al r.lo.length cl) (.slice ah r.hi.length ch) r.op),VaultA v s,Pr.own hr,Pr.pts wr.heap.size (.cells #[.slice ak x.key.length ck,.slice av x.value.length cv,.int .i64 x.child,.int .i64 x.size] 89),Pr.pts PB (pageC g.kind g.level (.slice (some ⟨bi,0,none⟩) g.items.length tci) (.slice tad g.data.length tcd) g.next),ItRow (.slice (some ⟨bi,0,none⟩) g.items.length tci) ys g.items,big rowsOf ((ys.zip g.items).drop (j+1)),Row 3 1 (.slice (some ⟨b,0,none⟩) m c) m (T.map (Value.int .i64))] w':=⟨hs'.perm (by simp only [starL,Pr.star_emp,Pr.star_assoc,ItA])⟩
                have HS6:=hQ hs6;have HST4:=hQ (HST3.out.trans hR');clear c1 hs' hs6 hR' HS5 HST3;gi_wp2
                go_wp2;go_roundg k0
                case measure=>have:=HJK.out;omega
                case rel=>exact⟨j+1,pre'++ [((.slice ak x.key.length ck,.slice av x.value.length cv),x)],by have:=HJK.out;omega,congrArg (Value.int .i64) (by omega),hQ (by rw [← HPD.out.1,HF.out];simp),HST4.out,HS6.out.to⟩
              · refine⟨_,rfl,?_⟩
                have hs6:OwnL [Jx (pre'++ [((.slice ak x.key.length ck,.slice av x.value.length cv),x)]),Pr.pts tb (treeC root height items),Pr.pts vb (vBox v),Pr.pts rb (rangeC (.slice al r.lo.length cl) (.slice ah r.hi.length ch) r.op),VaultA v s,Pr.own hr,Pr.pts wr.heap.size (.cells #[.slice ak x.key.length ck,.slice av x.value.length cv,.int .i64 x.child,.int .i64 x.size] 89),Pr.pts PB (pageC g.kind g.level (.slice (some ⟨bi,0,none⟩) g.items.length tci) (.slice tad g.data.length tcd) g.next),ItRow (.slice (some ⟨bi,0,none⟩) g.items.length tci) ys g.items,big rowsOf ((ys.zip g.items).drop (j+1)),Row 3 1 (.slice (some ⟨b,0,none⟩) m c) m (T.map (Value.int .i64))] w':=⟨hs'.perm (by simp only [starL,Pr.star_emp,Pr.star_assoc,ItA])⟩
                have HS6:=hQ hs6;have HST4:=hQ (HST3.out.trans hR');clear c1 hs' hs6 hR' HS5 HST3;gi_wp2
                go_wp2;rw [Exit.noGoto_normal];go_end0
                refine⟨⟨_,rfl⟩,HST4.out,.inr ⟨pre'++ [((.slice ak x.key.length ck,.slice av x.value.length cv),x)],by rw [List.map_append];exact HOK.out,?_⟩⟩
                exact(HS6.out.to (M:= [Jx (pre'++ [((.slice ak x.key.length ck,.slice av x.value.length cv),x)]),Pr.pts tb (treeC root height items),Pr.pts vb (vBox v),Pr.pts rb (rangeC (.slice al r.lo.length cl) (.slice ah r.hi.length ch) r.op),VaultA v s,Pr.own hr])).sat.perm (by simp only [starL,Pr.star_emp,ItA])
          · have HS2:=hQ hs2
            have HST2:=hQ hst2
            have HPO3:=hQ (show pre'.map (·.2)++out'=M from by
             have h1:=hpo2.out
             rwa [List.drop_eq_nil_of_le hge] at h1)
            have hj3:¬(j:Int)<(g.items.length:Int):=by omega
            clear hs2 hst2 hpo2;go_wp2;go_roundg k'
            case measure=>rw [HK.out.1];exact Nat.lt_succ_self k'
            case rel=>
             refine⟨st,out',pre',by have h1:=HKN.out;have h2:=HK.out.1;omega,hQ HK.out.2,HPO3,HST2.out,?_⟩;rw [← HTT.out.1];unfold IntsRow;rw [← HTT.out.2];exact HS2.out.to
       · have HK:=hQ (And.intro hk1 htv)
         have hkb:(g.kind == 2)=true:=by rw [hk2];rfl
         have hgkl:=HKN.out;obtain⟨ap,hap,hsA⟩:=(HS2.out.join3 (ItRow (.slice tai g.items.length tci) ys g.items) (big rowsOf (ys.zip g.items)) (BytesRow (.slice tad g.data.length tcd) g.data)).arena ((ItRow (.slice tai g.items.length tci) ys g.items).star ((big rowsOf (ys.zip g.items)).star (BytesRow (.slice tad g.data.length tcd) g.data)))
         obtain⟨hd,hsB⟩:=Sat.own_join (hsA.pull2 (A1:=Pr.own ap) (A2:=Pr.own hr));have hpin:=rows_page hap HYL.out;have WI:=hQ (within_any (ap.un hr) _ _ g r (hpin.sub (Hp.sub_un_left ap hr)) (HH.out.2.2.1.sub (Hp.sub_un_right hd)) HG.out.2.1 HG.out.2.2 HH.out.2.2.2.1 HH.out.2.2.2.2 _ _ hsB);obtain⟨X,hX⟩:∃X,(withinK g r).reverse=X:=⟨_,rfl⟩
         have hXl:X.length≤8:=by
          rw [← hX,List.length_reverse];unfold withinK;rw [List.length_map];exact Nat.le_trans (List.length_filter_le _ _) (by rw [List.length_range];exact hn8)
         rw [hX] at WI;have HX:=hQ hX;have HAP:=hQ (And.intro hap hd);clear HGK hsA hsB hpin hap hd hX hk1 htv hk2 hgkl;go_wp2_with fail
         refine WI.out.mono ?_;rintro e w2 ⟨o,rfl,st2,hs3⟩;have hs4:=OwnL.of2 hs3;obtain⟨hs5⟩:=hs4
         have hs6:=Sat.own_split HAP.out.2 (hs5.perm (B:=(Pr.own (ap.un hr)).star ((IntsRow o X).star (starL [Pr.pts PB (pageC g.kind g.level (.slice tai g.items.length tci) (.slice tad g.data.length tcd) g.next),VaultA v s,Row 3 1 (.slice (some ⟨b,0,none⟩) m c) m (T.map (Value.int .i64)),J pre,Pr.pts tb (treeC root height items),Pr.pts vb (vBox v),Pr.pts rb (rangeC (.slice al r.lo.length cl) (.slice ah r.hi.length ch) r.op)]))) (by simp only [starL,Pr.star_emp];ac_rfl))
         have hs7:=OwnL.of3 hs6;obtain⟨ao,co,rfl⟩:=Row.shape (hs7.pull1 (A1:=IntsRow o X));obtain⟨a2,ha2,hs8⟩:=hs7.arena (IntsRow (.slice ao X.length co) X);have hAP2:=hs8.pull1 (A1:=Row 3 1 (.slice (some ⟨b,0,none⟩) m c) m (T.map (Value.int .i64)));have HAR:=hQ (And.intro hAP2 (And.intro (hs8.le (a:=a2)) (Row.rowIn ha2)));have HST2:=hQ (HST1.out.trans st2)
         clear hs3 hs5 hs6 hs7 hs8 hAP2 ha2 st2 WI HST1 HS2 c1
         go_wp2_with (at_builtin;refine wpList_append_row rfl _ _ _ rfl 3 i0 (.int .i64 0) 1 8 Tryz.underlying22 hi0 hz0 hz1 hz2 rfl _ _ _ rfl HAR.out.1 a2 HAR.out.2.1 _ X.length (X.map (Value.int .i64)) rfl HAR.out.2.2 (by intro u hu;obtain⟨z,_,rfl⟩:=List.mem_map.1 hu;rfl) (by simp only [maxLen];omega) (by omega) ?_;intro v7 w4 hs9 hg9 _;obtain⟨a7,c7,e7,_,_⟩:=Row.read hs9;subst e7;have HS9:=hQ (OwnL.of1 hs9);have HST9:=hQ (HST2.out.of_grown hg9);clear hs9 hg9)
         go_roundg k'
         case measure=>rw [HK.out.1];exact Nat.lt_succ_self k'
         case rel=>
          refine⟨withinK g r++st,out,pre,by have h1:=HKN.out;have h2:=HK.out.1;omega,hQ HK.out.2,HPO,HST9.out,?_⟩;rw [List.reverse_append,HX.out, ← HTT.out.1];unfold IntsRow;rw [List.map_append,List.length_append, ← HTT.out.2];exact HS9.out.to
end Go.Proofs.YtiegeadmgpanoaaGreatDoor.B8
namespace Go.Cop
theorem pow8_step {a lv c:Nat}(ha:a≤8)(hc:c≤a*8 ^ lv):c≤8 ^ (lv+1):=by
 have h1:a*8 ^ lv≤8*8 ^ lv:=Nat.mul_le_mul_right _ ha;rw [Nat.pow_succ];omega
theorem flat_le {α:Type}{k:Nat}:∀ {LL:List (List α)},(∀l∈LL,l.length≤k)→LL.flatten.length≤LL.length*k
 | [],_=>by simp
 | l :: LL,h=>by
   have h1:=h l (by simp);have h2:=flat_le (LL:=LL) fun x hx=>h x (by simp [hx])
   simp only [List.flatten_cons,List.length_append,List.length_cons,Nat.succ_mul];omega
theorem tr_len {look:Int→Option PageV}(ok:PgsOk look){lv:Nat}{n:Int}{q:RangeV}{L:List ItemV}(h:TrK look lv n q L):L.length≤8 ^ (lv+1):=by
 induction h with
 | leaf n q g hl _ _=>simpa using (fit_of_check (ok.chk n g hl)).n
 | index lv n q g LL hl _ _ hlen hT ih=>
   refine pow8_step (a:=LL.length) (by rw [hlen];exact(fit_of_check (ok.chk n g hl)).n) (flat_le fun l hm=> ?_);obtain⟨i,hi,rfl⟩:=List.getElem_of_mem hm;exact ih i hi
theorem stand_len {look:Int→Option PageV}(ok:PgsOk look){root height items:Int}{L:List ItemV}(h:StandT look root height items L):L.length≤68719476736:=by
 rcases h with⟨_,_,_,rfl⟩ | ⟨_,_,lv,_,hlv,hT⟩
 · simp
 · exact Nat.le_trans (tr_len ok hT) (Nat.le_trans (Nat.pow_le_pow_right (by omega) (by omega:lv+1≤12)) (by decide))
theorem stand_val {look:Int→Option PageV}{root height items:Int}{L:List ItemV}(h:StandT look root height items L):∀x∈L,(valueL look x.size x.child x.value).2=0:=by
 rcases h with⟨_,_,_,rfl⟩ | ⟨_,_,lv,_,hlv,hT⟩
 · exact fun x hx=>by cases hx
 · exact fun x hx=>(tr_has hT x hx).2
def pairK(look:Int→Option PageV)(x:ItemV):List Int × List Int:=(x.key,valK look x)
end Go.Cop
namespace Go.Proofs.YtiegeadmgpanoaaGreatDoor.C8
open ChangeShapes WideShapes ChangeAt RowKit Sl Cop Go.Shelf D2 F3 N3 P3 G2 J2 Q3 V3 G4 K4 X3 M5 P5 U5 W5 N2 P2 L6 S6 J7 N5 S5 K7 V7 Z7 B8
attribute [local go_sem] Oper.semAt_some
abbrev PairX:=(Value × Value) × (List Int × List Int)
def pairRows(z:PairX):Pr:=(BytesRow z.1.1 z.2.1).star (BytesRow z.1.2 z.2.2)
def pairCells(z:PairX):List Value:= [z.1.1,z.1.2]
abbrev PairRow(v:Value)(zs:List PairX):Pr:=Row 49 2 v zs.length (zs.flatMap pairCells)
abbrev pairV(a b:Value):Value:= .agg #[a,b]
theorem infoPair:(Tryz.prog.info? 49).map (fun i=>(i.zero,i.size,i.bytes))=some (some (.agg #[.slice none 0 0,.slice none 0 0]),2,48):=by kernel_rfl
theorem load_pairs {w:World}{b:Nat}{x:Value}{fz:Nat × Nat}(h:w.heap[b]? =some (.cells #[x] 60 fz)):(loadVar 60 ⟨b,0,none⟩).run Tryz.prog w= .ok x w:=by
 have hc:w.cell? ⟨b,0,none⟩=some x:=by rw [cell_of_heap h];rfl
 go_simp
theorem items_any(v:Nat)(root height items:Int)(lo hi:Value)(op:Bool)(al ah:Option Addr)(nl nh cl ch:Nat)(hlo:lo= .slice al nl cl)(hhi:hi= .slice ah nh ch)(w:World):
 Calls Tryz.prog 52 #[.pointer (some ⟨v,0,none⟩),treeV root height items,.agg #[lo,hi,.bool op]] w fun e w'=>e= .returned (.func (.func 92) #[] #[.pointer (some ⟨w.heap.size+1,0,none⟩),.pointer (some ⟨w.heap.size,0,none⟩),.pointer (some ⟨w.heap.size+1+1,0,none⟩)])∧w'=((w.alloc (vBox v)).alloc (treeC root height items)).alloc (rangeC lo hi op):=by
 subst hlo hhi;go_enter Tryz.func52,Tryz.ntmps52
 go_wp2;go_ret;exact⟨rfl,rfl⟩
def PI(OB VB TB RB A6 A7 v:Nat)(look:Int→Option PageV)(root height items:Int)(lo hi:Value)(op:Bool)(F:Pr)(pre:List ItX):Pr:=
 Pr.ex fun p:Value × List PairX=>(Pr.pure (p.2.map (·.2)=pre.map fun x=>pairK look x.2)).star ((Pr.pts OB (.cells #[p.1] 60)).star ((PairRow p.1 p.2).star ((big pairRows p.2).star
  ((Pr.pts VB (vBox v)).star ((Pr.pts TB (treeC root height items)).star ((Pr.pts RB (rangeC lo hi op)).star ((Pr.pts A6 (.cells #[.slice none 0 0] 60)).star ((Pr.pts A7 (.cells #[.int .i64 0] 32)).star F))))))))
theorem pairs_any(v:Nat)(s:VaultS)(look:Int→Option PageV)(hl:L6.Looks s look)(okp:PgsOk look)(root height items:Int)(L:List ItemV)(hT:StandT look root height items L)(rv:Value)(r:RangeV)(hr:Hp)(hri:RangeIn hr rv r)(ur:RU8 r)(nr:RLen 140737488355000 r)(F:Pr)(w:World)(hF:OwnL [VaultA v s,Pr.own hr,F] w):
 Calls Tryz.prog 57 #[.pointer (some ⟨v,0,none⟩),treeV root height items,rv] w fun e w'=>Stays w w'∧∃o zs,e= .returned (.tuple #[o,.int .i64 0])∧zs.map (·.2)=(L.filter fun x=>hasR r x.key).map (pairK look)∧OwnL [PairRow o zs,big pairRows zs,VaultA v s,Pr.own hr,F] w':=by
 obtain⟨lo,hi,rfl,hlo,hhi⟩:=id hri;obtain⟨al,cl,rfl,_⟩:=bytes_rd hlo;obtain⟨ah,ch,rfl,_⟩:=bytes_rd hhi;obtain⟨i0,hi0,hz0,hz1,hz2⟩:=info_parts infoPair;obtain⟨hs1,_⟩:=hF.fresh [.pointer (some ⟨v,0,none⟩)] 27 w.heap.size rfl;obtain⟨hs2,_⟩:=hs1.fresh [.int .i64 root,.int .i64 height,.int .i64 items] 35 (w.heap.size+1) (by simp)
 obtain⟨hs3,_⟩:=hs2.fresh [.slice al r.lo.length cl,.slice ah r.hi.length ch,.bool r.op] 64 (w.heap.size+1+1) (by simp);obtain⟨hs4,_⟩:=hs3.fresh [.slice none 0 0] 60 (w.heap.size+1+1+1) (by simp);obtain⟨hs5,_⟩:=hs4.fresh [.int .i64 0] 32 (w.heap.size+1+1+1+1) (by simp);obtain⟨hs6,_⟩:=hs5.fresh [.slice none 0 0] 60 (w.heap.size+1+1+1+1+1) (by simp);have HS6:=hQ hs6
 have HST:=hQ (((((((Stays.refl w).alloc (.cells [Value.pointer (some ⟨v,0,none⟩)].toArray 27)).alloc (.cells [Value.int .i64 root,.int .i64 height,.int .i64 items].toArray 35)).alloc (.cells [Value.slice al r.lo.length cl,.slice ah r.hi.length ch,.bool r.op].toArray 64)).alloc (.cells [Value.slice none 0 0].toArray 60)).alloc (.cells [Value.int .i64 0].toArray 32)).alloc (.cells [Value.slice none 0 0].toArray 60))
 have hML:=Nat.le_trans (List.length_filter_le (fun x:ItemV=>hasR r x.key) L) (stand_len okp hT);have hMV:∀x∈L.filter (fun x=>hasR r x.key),(valueL look x.size x.child x.value).2=0:=fun x hx=>stand_val hT x ((List.mem_filter.1 hx).1)
 have IT:=hQ (fun tb vb rb=>items1 tb vb rb v s look hl okp root height items L hT _ _ r hr hri ur nr);generalize (L.filter fun x=>hasR r x.key)=M at*;have HH:=hQ (And.intro hl (And.intro hML hMV));clear hF hs1 hs2 hs3 hs4 hs5 hs6 hlo hhi hri hT hl okp ur nr hML hMV;refine calls_of_wp_marks (n:=9) Tryz.func57 rfl ?_
 simp only [Tryz.ntmps57,List.size_toArray,List.length_cons,List.length_nil,Nat.reduceAdd,Nat.reduceSub,Array.replicate_succ,Array.replicate_zero,List.push_toArray,List.append_toArray,List.nil_append,List.cons_append];go_wp2_with fail
 have U1:=HS6.out;have U2:=HST.out;clear HS6 HST
 generalize ((((((w.alloc (.cells [Value.pointer (some ⟨v,0,none⟩)].toArray 27)).alloc (.cells [Value.int .i64 root,.int .i64 height,.int .i64 items].toArray 35)).alloc (.cells [Value.slice al r.lo.length cl,.slice ah r.hi.length ch,.bool r.op].toArray 64)).alloc (.cells [Value.slice none 0 0].toArray 60)).alloc (.cells [Value.int .i64 0].toArray 32)).alloc (.cells [Value.slice none 0 0].toArray 60))=w0 at*
 generalize w.heap.size+1+1+1+1+1=OB at*;generalize w.heap.size+1+1+1+1=A7 at*;generalize w.heap.size+1+1+1=A6 at*;generalize w.heap.size+1+1=RB at*;generalize w.heap.size+1=TB at*;generalize w.heap.size=VB at*;refine(items_any v root height items _ _ r.op _ _ _ _ _ _ rfl rfl _).mono ?_;rintro e w2 ⟨rfl,rfl⟩
 have U3:=((U1.alloc (vBox v)).alloc (treeC root height items)).alloc (rangeC (.slice al r.lo.length cl) (.slice ah r.hi.length ch) r.op);have U4:=((U2.alloc (vBox v)).alloc (treeC root height items)).alloc (rangeC (.slice al r.lo.length cl) (.slice ah r.hi.length ch) r.op)
 rw [show ((w0.alloc (vBox v)).alloc (treeC root height items)).heap.size=w0.heap.size+1+1 by simp,show (w0.alloc (vBox v)).heap.size=w0.heap.size+1 by simp] at U3;clear U1 U2;generalize ((w0.alloc (vBox v)).alloc (treeC root height items)).alloc (rangeC (.slice al r.lo.length cl) (.slice ah r.hi.length ch) r.op)=w1 at*;generalize w0.heap.size+1+1=R2 at*;generalize w0.heap.size+1=T2 at*
 generalize w0.heap.size=V2 at*;have HS1:=hQ U3;have HST:=hQ U4;clear U3 U4;go_wp2
 refine wp_rangeFunc_v 9 (gf:=92) rfl (enters_of Tryz.func92 (by kernel_rfl) rfl) (IT.out T2 V2 R2) (fun _=>rfl)
  (fun pre=>PI OB VB TB RB A6 A7 v look root height items (.slice al r.lo.length cl) (.slice ah r.hi.length ch) r.op F pre) (fun _ _=>Pr.pure False) ?start ?round ?done ?stop
 case start=>
  have h1:=(HS1.out.emp).nothing pairRows;rw [← Row.nil 49 2] at h1
  have h2:=h1.to (M:= [Pr.pts OB (.cells #[.slice none 0 0] 60),Row 49 2 (.slice none 0 0) 0 [],big pairRows [],Pr.pts VB (vBox v),Pr.pts TB (treeC root height items),Pr.pts RB (rangeC (.slice al r.lo.length cl) (.slice ah r.hi.length ch) r.op),Pr.pts A6 (.cells #[.slice none 0 0] 60),Pr.pts A7 (.cells #[.int .i64 0] 32),F,Pr.pts T2 (treeC root height items),Pr.pts V2 (vBox v),Pr.pts R2 (rangeC (.slice al r.lo.length cl) (.slice ah r.hi.length ch) r.op),VaultA v s,Pr.own hr])
  unfold PI;rw [Pr.ex_star];refine Sat.ex0.2 ⟨(.slice none 0 0,[]),?_⟩;rw [Pr.star_assoc];exact Sat.pure.2 ⟨rfl,h2.sat.perm (by simp only [starL,Pr.star_emp,Pr.star_assoc,ItA];rfl)⟩
 case round=>
  intro l' pre x W1' F1 hok hs;unfold PI at hs;rw [Pr.ex_star,Pr.ex_star] at hs;obtain⟨⟨ov,zs⟩,hs⟩:=Sat.ex0.1 hs;rw [Pr.star_assoc,Pr.star_assoc] at hs;obtain⟨hzs,hs⟩:=Sat.pure.1 hs;dsimp only at hzs hs;obtain⟨⟨y1,y2⟩,x⟩:=x
  have hs1:OwnL [Pr.pts OB (.cells #[ov] 60),PairRow ov zs,big pairRows zs,Pr.pts VB (vBox v),Pr.pts TB (treeC root height items),Pr.pts RB (rangeC (.slice al r.lo.length cl) (.slice ah r.hi.length ch) r.op),Pr.pts A6 (.cells #[.slice none 0 0] 60),Pr.pts A7 (.cells #[.int .i64 0] 32),F,rowsOf ((y1,y2),x),Pr.pts T2 (treeC root height items),Pr.pts V2 (vBox v),Pr.pts R2 (rangeC (.slice al r.lo.length cl) (.slice ah r.hi.length ch) r.op),VaultA v s,Pr.own hr,F1] W1':=⟨hs.perm (by simp only [starL,Pr.star_emp,Pr.star_assoc,ItA])⟩
  obtain⟨ao,co,rfl⟩:=Row.shape (hs1.pull1 (A1:=PairRow ov zs));have hsh:OwnL [BytesRow y1 x.key,BytesRow y2 x.value] W1':=⟨((hs1.end1 (A1:=rowsOf ((y1,y2),x))).perm (B:=(BytesRow y1 x.key).star ((BytesRow y2 x.value).star Pr.emp)) (by rw [Pr.star_emp];rfl))⟩;obtain⟨ak,ck,rfl⟩:=Row.shape (hsh.pull1 (A1:=BytesRow y1 x.key));obtain⟨av,cv,rfl⟩:=Row.shape (hsh.pull1 (A1:=BytesRow y2 x.value))
  have hpl:pre.length+1≤68719476736:=by
   have h1:=hok.length_le;rw [List.length_append,List.length_map] at h1;exact Nat.le_trans h1 HH.out.2.1
  have hzl:zs.length=pre.length:=by have:=congrArg List.length hzs;simpa using this
  have hvx:(valueL look x.size x.child x.value).2=0:=HH.out.2.2 x (hok.subset (List.mem_append_right _ (List.mem_singleton_self x)));have hzl2:(zs.length:Int)+1≤68719476736:=by omega
  have HZ:=hQ hzs;have HS2:=hQ hs1;clear hs hs1 hsh hok hzs hzl hpl;simp only [encI,itemV];gi_wp2
  have hsA:=HS2.out.alloc (.cells #[.slice ak x.key.length ck,.slice av x.value.length cv,.int .i64 x.child,.int .i64 x.size] 89);obtain⟨B,hB⟩:∃B,W1'.heap.size=B:=⟨_,rfl⟩;rw [hB] at hsA ⊢
  refine⟨(Stays.refl _).alloc _,starL [Pr.pts B (.cells #[.slice ak x.key.length ck,.slice av x.value.length cv,.int .i64 x.child,.int .i64 x.size] 89),Pr.pts OB (.cells #[.slice ao zs.length co] 60),PairRow (.slice ao zs.length co) zs,big pairRows zs,Pr.pts VB (vBox v),Pr.pts TB (treeC root height items),Pr.pts RB (rangeC (.slice al r.lo.length cl) (.slice ah r.hi.length ch) r.op),Pr.pts A6 (.cells #[.slice none 0 0] 60),Pr.pts A7 (.cells #[.int .i64 0] 32),F,rowsOf ((.slice ak x.key.length ck,.slice av x.value.length cv),x),Pr.pts T2 (treeC root height items),Pr.pts V2 (vBox v),Pr.pts R2 (rangeC (.slice al r.lo.length cl) (.slice ah r.hi.length ch) r.op),VaultA v s,Pr.own hr],hsA.sat.perm (by simp only [starL,Pr.star_emp,Pr.star_assoc]),?_⟩
  clear hsA HS2 hB;intro F2 W2 _ hs2
  have hs3:OwnL [Pr.pts B (.cells #[.slice ak x.key.length ck,.slice av x.value.length cv,.int .i64 x.child,.int .i64 x.size] 89),Pr.pts OB (.cells #[.slice ao zs.length co] 60),PairRow (.slice ao zs.length co) zs,big pairRows zs,Pr.pts VB (vBox v),Pr.pts TB (treeC root height items),Pr.pts RB (rangeC (.slice al r.lo.length cl) (.slice ah r.hi.length ch) r.op),Pr.pts A6 (.cells #[.slice none 0 0] 60),Pr.pts A7 (.cells #[.int .i64 0] 32),F,rowsOf ((.slice ak x.key.length ck,.slice av x.value.length cv),x),Pr.pts T2 (treeC root height items),Pr.pts V2 (vBox v),Pr.pts R2 (rangeC (.slice al r.lo.length cl) (.slice ah r.hi.length ch) r.op),VaultA v s,Pr.own hr,F2] W2:=⟨hs2.perm (by simp only [starL,Pr.star_emp,Pr.star_assoc])⟩
  have c1:=hs3.facts;simp only [CellsAt,Nat.reduceAdd,and_true] at c1;obtain⟨ax,hax,hsA⟩:=hs3.arena (rowsOf ((.slice ak x.key.length ck,.slice av x.value.length cv),x));have BL:=bload_any v s look HH.out.1 x ax _ ⟨_,_,rfl,(rows_in hax).1,(rows_in hax).2⟩ _ _ (hsA.pull2 (A1:=VaultA v s) (A2:=Pr.own ax));rw [hvx] at BL;have HBL:=hQ BL;have HAX:=hQ hax;clear hs2 hs3 hsA BL hax hvx;gi_wp2_with fail
  refine⟨trivial,?_⟩;refine(CallsIn.inRound _ (callsIn_wide.2 HBL.out)).mono ?_;rintro e w3 ⟨st3,o,rfl,hs4⟩;have hs5:=OwnL.of3 hs4;obtain⟨aw,cw,rfl⟩:=Row.shape hs4
  have hs6:OwnL [BytesRow (.slice ak x.key.length ck) x.key,BytesRow (.slice av x.value.length cv) x.value,BytesRow (.slice aw (valueL look x.size x.child x.value).1.length cw) (valueL look x.size x.child x.value).1,Pr.pts B (.cells #[.slice ak x.key.length ck,.slice av x.value.length cv,.int .i64 x.child,.int .i64 x.size] 89),Pr.pts OB (.cells #[.slice ao zs.length co] 60),PairRow (.slice ao zs.length co) zs,big pairRows zs,Pr.pts VB (vBox v),Pr.pts TB (treeC root height items),Pr.pts RB (rangeC (.slice al r.lo.length cl) (.slice ah r.hi.length ch) r.op),Pr.pts A6 (.cells #[.slice none 0 0] 60),Pr.pts A7 (.cells #[.int .i64 0] 32),F,Pr.pts T2 (treeC root height items),Pr.pts V2 (vBox v),Pr.pts R2 (rangeC (.slice al r.lo.length cl) (.slice ah r.hi.length ch) r.op),VaultA v s,Pr.own hr,F2] w3:=by
   have h1:=(hs5.back (rowsOf ((.slice ak x.key.length ck,.slice av x.value.length cv),x)) HAX.out);have h2:OwnL ((BytesRow (.slice ak x.key.length ck) x.key).star (BytesRow (.slice av x.value.length cv) x.value) :: _) w3:=h1;exact h2.norm.to
  clear c1;have c1:=hs6.facts;simp only [CellsAt,Nat.reduceAdd,and_true] at c1;generalize (valueL look x.size x.child x.value).1.length=nw at*;have hA2:=hs6.alloc (.cells #[.slice ak x.key.length ck,.slice aw nw cw] 49);have H1:=hQ (hA2.pull1 (A1:=PairRow (.slice ao zs.length co) zs));have HC:=hQ (new_cells w3 [.slice ak x.key.length ck,.slice aw nw cw] 49 _ rfl)
  have HST3:=hQ (st3.alloc (.cells #[.slice ak x.key.length ck,.slice aw nw cw] 49));clear hs4 hs5 hs6 hA2 st3 HBL HAX
  gi_wp2_with (refine wpListIn_append_sl rfl _ _ _ rfl 49 i0 _ 2 48 Tryz.underlying60 hi0 hz0 hz1 hz2 rfl _ _ _ rfl H1.out ⟨w3.heap.size,0,none⟩ 1 1 [.slice ak x.key.length ck,.slice aw nw cw] rfl rfl HC.out (by simp [Value.oneCell']) (by simp only [maxLen];omega) (by omega) ?_;intro v7 w5 hs8 hg8;obtain⟨a7,c7,e7,_,_⟩:=Row.read hs8;subst e7;have hs9:=(OwnL.of1 hs8);clear c1;have c1:=(hs9.pts OB).lt;have c2:w5.cell? ⟨OB,0,none⟩=some (.slice ao zs.length co):=(cell_of_heap (hs9.pts OB).pts_heap 0).trans rfl;have c3:=frozen_of_heap (hs9.pts OB).pts_heap 0;have HS9:=hQ hs9;have HST6:=hQ (HST3.out.of_grown hg8);clear hs8 hs9 hg8)
  refine⟨HST6.out.setCell _ _,?_⟩;have h8:=((HS9.out.set OB 0 (.slice a7 (zs.length+1) c7)).join2 (BytesRow (.slice ak x.key.length ck) x.key) (BytesRow (.slice aw nw cw) (valueL look x.size x.child x.value).1));have h9:OwnL (pairRows ((.slice ak x.key.length ck,.slice aw nw cw),pairK look x) :: _) (w5.setCell ⟨OB,0,none⟩ (.slice a7 (zs.length+1) c7)):=h8
  have h10:=h9.snoc pairRows zs ((.slice ak x.key.length ck,.slice aw nw cw),pairK look x)
  have h11:=h10.to (M:= [Pr.pts OB (.cells #[.slice a7 (zs.length+1) c7] 60),Row 49 2 (.slice a7 (zs.length+1) c7) (zs.length+1) (zs.flatMap pairCells++ [.slice ak x.key.length ck,.slice aw nw cw]),big pairRows (zs++ [((.slice ak x.key.length ck,.slice aw nw cw),pairK look x)]),Pr.pts VB (vBox v),Pr.pts TB (treeC root height items),Pr.pts RB (rangeC (.slice al r.lo.length cl) (.slice ah r.hi.length ch) r.op),Pr.pts A6 (.cells #[.slice none 0 0] 60),Pr.pts A7 (.cells #[.int .i64 0] 32),F,Pr.pts T2 (treeC root height items),Pr.pts V2 (vBox v),Pr.pts R2 (rangeC (.slice al r.lo.length cl) (.slice ah r.hi.length ch) r.op),VaultA v s,Pr.own hr,F2])
  unfold PI;rw [Pr.ex_star,Pr.ex_star];refine Sat.ex0.2 ⟨(.slice a7 (zs.length+1) c7,zs++ [((.slice ak x.key.length ck,.slice aw nw cw),pairK look x)]),?_⟩;rw [Pr.star_assoc,Pr.star_assoc];refine Sat.pure.2 ⟨by rw [List.map_append,HZ.out,List.map_append];rfl,h11.sat.perm ?_⟩
  simp only [starL,Pr.star_emp,Pr.star_assoc,ItA,PairRow,List.length_append,List.length_singleton,List.flatMap_append,List.flatMap_cons,List.flatMap_nil,List.append_nil];rfl
 case done=>
  intro D xs W2 hxs hst hs;unfold PI at hs;rw [Pr.ex_star,Pr.ex_star] at hs;obtain⟨⟨ov,zs⟩,hs⟩:=Sat.ex0.1 hs;rw [Pr.star_assoc,Pr.star_assoc] at hs;obtain⟨hzs,hs⟩:=Sat.pure.1 hs;dsimp only at hzs hs
  have hs3:OwnL [Pr.pts D (.deferred (some [])),Pr.pts OB (.cells #[ov] 60),PairRow ov zs,big pairRows zs,Pr.pts VB (vBox v),Pr.pts TB (treeC root height items),Pr.pts RB (rangeC (.slice al r.lo.length cl) (.slice ah r.hi.length ch) r.op),Pr.pts A6 (.cells #[.slice none 0 0] 60),Pr.pts A7 (.cells #[.int .i64 0] 32),F,Pr.pts T2 (treeC root height items),Pr.pts V2 (vBox v),Pr.pts R2 (rangeC (.slice al r.lo.length cl) (.slice ah r.hi.length ch) r.op),VaultA v s,Pr.own hr] W2:=⟨hs.perm (by simp only [starL,Pr.star_emp,Pr.star_assoc,ItA];ac_rfl)⟩
  obtain⟨ao,co,rfl⟩:=Row.shape (hs3.pull1 (A1:=PairRow ov zs));have c1:=hs3.facts;simp only [CellsAt,Nat.reduceAdd,and_true] at c1
  have HZ:=hQ (show zs.map (·.2)=M.map (pairK look) from by
   rw [hzs, ← hxs,List.map_map]
   rfl)
  have HS3:=hQ hs3;have HST3:=hQ (HST.out.trans hst);clear hs hs3 hst HS1 hzs hxs;go_wp2;have h6:=(HS3.out.set A6 0 (.slice ao zs.length co)).set A7 0 (.int .i64 0);have q1:=h6.pull1 (A1:=Pr.pts D (.deferred (some [])));have q2:=OwnL.of0 (q1.putObj (.deferred none)).right
  refine marks_ret1 (D:=D) rfl q1.pts_heap ⟨_,results_cell_cell rfl _ _ A6 (.slice ao zs.length co) rfl (load_pairs (q2.pts A6).pts_heap) A7 (.int .i64 0) rfl (load_errno (q2.pts A7).pts_heap),((HST3.out.setCell _ _).setCell _ _).putObj _ _,.slice ao zs.length co,rfl,zs,HZ.out,q2.to⟩
 case stop=>
  intro D c pre W2 _ hst hs;exact(Sat.pure.1 (hs.perm (Pr.star_assoc _ _ _))).1.elim
theorem list_any(v:Nat)(s:VaultS)(look:Int→Option PageV)(hl:L6.Looks s look)(okp:PgsOk look)(root height items:Int)(L:List ItemV)(hT:StandT look root height items L)(rv:Value)(r:RangeV)(hr:Hp)(hri:RangeIn hr rv r)(ur:RU8 r)(nr:RLen 140737488355000 r)(F:Pr)(w:World)(hF:OwnL [VaultA v s,Pr.own hr,F] w):
 Calls Tryz.prog 27 #[.pointer (some ⟨v,0,none⟩),treeV root height items,rv] w fun e w'=>Stays w w'∧∃o zs,e= .returned (.tuple #[o,.int .i64 0])∧zs.map (·.2)=(L.filter fun x=>hasR r x.key).map (pairK look)∧OwnL [PairRow o zs,big pairRows zs,VaultA v s,Pr.own hr,F] w':=by
 obtain⟨lo,hi,rfl,hlo,hhi⟩:=id hri;obtain⟨al,cl,rfl,_⟩:=bytes_rd hlo;obtain⟨ah,ch,rfl,_⟩:=bytes_rd hhi;have hs0:=(hF.alloc (treeC root height items)).alloc (rangeC (.slice al r.lo.length cl) (.slice ah r.hi.length ch) r.op);have PA:=hQ (pairs_any v s look hl okp root height items L hT _ r hr hri ur nr _ _ (OwnL.in2 (hs0.pull2 (A1:=VaultA v s) (A2:=Pr.own hr))))
 have HST:=hQ (((Stays.refl w).alloc (treeC root height items)).alloc (rangeC (.slice al r.lo.length cl) (.slice ah r.hi.length ch) r.op));clear hF hlo hhi hri hT hl okp ur nr hs0;go_enter Tryz.func27,Tryz.ntmps27
 go_wp2_with fail
 refine PA.out.mono ?_;rintro e w1 ⟨st1,o,zs,rfl,hz,hs1⟩;have hs2:=hs1.flat;have HE:=hQ (hs2.to (M:= [PairRow o zs,big pairRows zs,VaultA v s,Pr.own hr,F]));have HST1:=hQ (HST.out.trans st1);have HZ:=hQ hz;clear hs1 hs2 st1 hz PA HST;go_wp2;go_ret2;exact⟨HST1.out,o,zs,rfl,HZ.out,HE.out⟩
end Go.Proofs.YtiegeadmgpanoaaGreatDoor.C8
namespace Go.Cop
def itemC(c:Int):ItemV:=⟨[c],[c,c],0,2⟩
def lowL:List ItemV:= [itemC 97,itemC 99,itemC 101,itemC 103]
def highL:List ItemV:= [itemC 109,itemC 112,itemC 114,itemC 116,itemC 118]
def leafP(l:List ItemV):PageV:=⟨1,0,l,[],0⟩
def idxP:PageV:=⟨2,1,[⟨[],[],1,0⟩,⟨[109],[],2,0⟩],[],0⟩
def numsP:List NumV:= [⟨1,leafP lowL⟩,⟨2,leafP highL⟩,⟨3,idxP⟩]
def onP:Int→Option PageV:=(loadE 2 [1,1,1] numsP).2
def lookP:Int→Option PageV:=lookL [1,1,1] onP
theorem numsP_ok:(loadE 2 [1,1,1] numsP).1=0:=by decide+kernel
theorem numsP_u8:∀x∈numsP,∀y∈x.page.items,U8 y.key:=by simp [numsP,leafP,idxP,lowL,highL,itemC,U8]
def leavesK(look:Int→Option PageV):Nat→Int→List ItemV
 | 0,n=>match look n with
   | some g=>g.items
   | none=> []
 | lv+1,n=>match look n with
   | some g=>(g.items.map fun x=>leavesK look lv x.child).flatten
   | none=> []
theorem leaves_tr {look:Int→Option PageV}{lv:Nat}{n:Int}{q:RangeV}{L:List ItemV}(h:TrK look lv n q L):L=leavesK look lv n:=by
 induction h with
 | leaf n q g hl _ _=>unfold leavesK;rw [hl]
 | index lv n q g LL hl hk hlv hlen hT ih=>
   unfold leavesK;rw [hl];refine congrArg List.flatten (List.ext_getElem (by simp [hlen]) fun i h1 h2=> ?_);rw [ih i h1,List.getElem_map,itemAt_get (by omega)]
theorem pgs_load {refs:Int}{cs:List Int}{l:List NumV}(h:(loadE refs cs l).1=0)(hu:∀x∈l,∀y∈x.page.items,U8 y.key):PgsOk (lookL cs (loadE refs cs l).2):=by
 have hr:=Go.Proofs.YtiegeadmgpanoaaGreatDoor.E7.right_load h;refine⟨fun n g hg=> ?_,fun n g hg=> ?_⟩
 · exact load_all (P:=fun g=>checkP g=0) (fun x _ h=>h) (Go.Proofs.YtiegeadmgpanoaaGreatDoor.E7.look_some hr hg).2.1
 · exact load_all (P:=fun g=> ∀y∈g.items,U8 y.key) (fun x hx _=>hu x hx) (Go.Proofs.YtiegeadmgpanoaaGreatDoor.E7.look_some hr hg).2.1
theorem checkP_9:checkK lookP 3 2 9=0:=by decide+kernel
theorem checkP_8:checkK lookP 3 2 8=4:=by decide+kernel
theorem standP:StandT lookP 3 2 9 (lowL++highL):=by
 rcases tree_of_check (pgs_load numsP_ok numsP_u8) checkP_9 with⟨h,_⟩ | ⟨h0,_,_,L,hT,hL⟩
 · cases h
 · have e:L=leavesK lookP 1 3:=leaves_tr hT
   rw [show leavesK lookP 1 3=lowL++highL by rfl] at e;subst e;exact .inr ⟨h0,hL,1,rfl,by omega,hT⟩
theorem getP:getV lookP (lowL++highL) [112]= [112,112]∧getB (lowL++highL) [112]=true∧getE [112]=0:=by decide+kernel
def rangeP:RangeV:=⟨[101],[112],false⟩
theorem listP:((lowL++highL).filter fun x=>hasR rangeP x.key).map (pairK lookP)= [([101],[101,101]),([103],[103,103]),([109],[109,109])]:=by decide+kernel
end Go.Cop
