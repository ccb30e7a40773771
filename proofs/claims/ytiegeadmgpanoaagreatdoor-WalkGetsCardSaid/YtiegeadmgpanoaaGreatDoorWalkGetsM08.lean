/- The document's Route in an index, its Path in a tree that stands; the conditions stand as hypotheses. -/
import Derived.Test.YtiegeadmgpanoaaGreatDoorWalkGetsM07
import Derived.Test.YtiegeadmgpanoaaGreatDoorWalkChecksM28
import Derived.Test.YtiegeadmgpanoaaGreatDoorWalkChecksM01
set_option maxRecDepth 100000
set_option maxHeartbeats 16000000
namespace Go.Proofs.YtiegeadmgpanoaaGreatDoor.V8
open ChangeShapes WideShapes ChangeAt RowKit Sl Cop Go.Shelf D2 F3 N3 P3 G2 J2 Q3 V3 G4 K4 X3 M5 P5 U5 W5 N2 P2 L6 S6 J7 N5 S5 K7 V7 Z7 B8 G6 J6 T6 B6 M2 N7 M7 K3 C4 D4 F4 M4 G5 K5 F6 D7 C8 L8 Q7 X5 Y5 X7 N8
attribute [local go_sem] Oper.semAt_some
theorem rroute_any(ha hb:Hp)(pv kv:Value)(g:PageV)(hp:PageIn ha pv g)(hfit:Fit g)(key:List Int)(hk:Bytes hb kv key)(w:World)(la:ha.le w)(lb:hb.le w):
 Calls Tryz.prog 56 #[pv,kv] w fun e w'=>e= .returned (.int .i64 (routeK g.items key))∧Only w w':=by
 obtain⟨vi,vd,rfl,hit,hb'⟩:=hp;obtain⟨tad,tcd,rfl⟩:=bytes_shape hb';obtain⟨tai,tci,rfl,_,rd⟩:=items_rd hit;obtain⟨kak,kck,rfl⟩:=bytes_shape hk;have hn8:(g.items.length:Int)≤8:=by have:=hfit.n;omega
 have HH:=hQ (And.intro hk hfit);have RD:=hQ rd;have HL:=hQ (And.intro la lb);clear rd hit hb' hk hfit la lb;have HA:=hQ (HL.out.1.only ((Only.refl w).alloc (pageC g.kind g.level (.slice tai g.items.length tci) (.slice tad g.data.length tcd) g.next)));have HB:=hQ (HL.out.2.only ((Only.refl w).alloc (pageC g.kind g.level (.slice tai g.items.length tci) (.slice tad g.data.length tcd) g.next)))
 have HO:=hQ ((Only.refl w).alloc (pageC g.kind g.level (.slice tai g.items.length tci) (.slice tad g.data.length tcd) g.next));have c0:(w.alloc (pageC g.kind g.level (.slice tai g.items.length tci) (.slice tad g.data.length tcd) g.next)).cell? ⟨w.heap.size,2,none⟩=some (.slice tai g.items.length tci):=by simp
 go_enter Tryz.func56,Tryz.ntmps56
 go_wp2;generalize hw1:w.alloc (pageC g.kind g.level (.slice tai g.items.length tci) (.slice tad g.data.length tcd) g.next)=w1 at*;have FC:=hQ (fun(wr:World) (ho:Only w1 wr)=>(ho.cell c0:wr.cell? ⟨w.heap.size,2,none⟩=some (.slice tai g.items.length tci)));clear c0 hw1;generalize w.heap.size=J at*
 go_loopw [5] (fun t wr=> ∃k:Nat,(k+1≤g.items.length∨k=0)∧t= .int .i64 k∧Only w1 wr∧Hid (routeK g.items key=k+skipR key (g.items.drop (k+1)))) (fun t _=>g.items.length+1-(intOf t).toNat)
 case atStart=>exact⟨0,.inr rfl,rfl,Only.refl _,hQ (by unfold routeK;simp)⟩
 case round=>
  obtain⟨k,hk2,rfl,ho,heq⟩:=hrel;rename World=>wr
  have c0:=FC.out wr ho;have cz:=World.block_lt_of_cell? _ _ c0;simp only at cz;have hk8:(k:Int)≤8:=by omega
  rcases Nat.lt_or_ge (k+1) g.items.length with hlt | hge
  · obtain⟨b,off,ak,ck,av,cv,rfl,hbk,_,hc⟩:=RD.out (k+1) hlt
    obtain⟨d0,_,_,_⟩:=hc wr (HA.out.only ho);have dz:=World.block_lt_of_cell? _ _ d0;simp only at dz;rw [← itemAt_get hlt] at hbk d0;have hy:=HH.out.2.k _ (getD_mem hlt);have BC:=hQ (compare_any ha hb _ _ (itemAt g.items (k+1)).key key hbk HH.out.1 (by have:=HH.out.2.k _ (getD_mem hlt);omega) wr (HA.out.only ho) (HB.out.only ho))
    have HEQ:=hQ (heq.out.trans (by rw [skip_drop key g.items (k+1) hlt]));have HO1:=hQ ho;have hkl:(k:Int)+1<(g.items.length:Int):=by omega
    clear hbk hc heq ho hk2 hy;generalize itemAt g.items (k+1)=y at*;go_wp2_with fail
    refine BC.out.mono ?_;rintro e w2 ⟨rfl,ho2⟩;have HO2:=hQ (HO1.out.trans ho2);clear ho2 d0 dz c0 cz BC;by_cases hcmp:0<cmpI y.key key
    · have HQ:=hQ (HEQ.out.trans (by rw [if_pos hcmp]))
      have hcmp2:¬cmpI y.key key≤0:=by omega
      clear hcmp;go_wp2;go_ret;rw [HQ.out];exact⟨congrArg (fun z=>Ending.returned (Value.int .i64 z)) (by omega),HO.out.trans HO2.out⟩
    · have HQ:=hQ (HEQ.out.trans (by rw [if_neg hcmp]))
      have hcmp2:cmpI y.key key≤0:=by omega
      clear hcmp;go_wp2;go_roundw
      case rel=>exact⟨k+1,.inl (by omega),congrArg (Value.int .i64) (by omega),HO2.out,hQ (by rw [HQ.out];omega)⟩
      case measure=>simp [intOf];omega
  · have HQ:=hQ (show routeK g.items key=k from by
     rw [heq.out,List.drop_eq_nil_of_le hge]
     rfl)
    have HO1:=hQ ho;have hkl:¬(k:Int)+1<(g.items.length:Int):=by omega
    clear heq ho hk2;go_wp2;go_ret;rw [HQ.out];exact⟨rfl,HO.out.trans HO1.out⟩
theorem rway_any(r:Nat)(s:PoolS)(gs:List PageV)(hush:RTail)(x0:RX)(ok0:ROk s gs x0)(look:Int→Option PageV)(hl:RLooks s gs look)(okp:PgsOk look)(hb:Hp)(kv:Value)(key:List Int)(hk:Bytes hb kv key)(root height items:Int)(L:List ItemV)(hT:StandT look root height items L)(F:Pr)(w:World)(hF:OwnL [RefAt r s gs hush x0,Pr.own hb,F] w):
 Calls Tryz.prog 23 #[.pointer (some ⟨r,0,none⟩),treeV root height items,kv] w fun e w'=>Stays w w'∧∃o,e= .returned (.tuple #[o,.int .i64 0])∧OwnL [IntsRow o (wayK look root height key),RefAt r s gs hush x0,Pr.own hb,F] w':=by
 obtain⟨H,hH,hH2⟩:∃H:Nat,height=(H:Int)∧H≤12:=by
  rcases hT with⟨_,rfl,_,_⟩ | ⟨_,_,lv,rfl,hlv,_⟩
  · exact⟨0,rfl,by omega⟩
  · exact⟨lv+1,by omega,by omega⟩
 have hW:∀k,H=k+1→∃m q L,root=m∧wayK look root height key= []++pathK look key k m∧TrK look k m q L:=by
  intro k hk;rcases hT with⟨_,rfl,_,_⟩ | ⟨_,_,lv,rfl,hlv,hT⟩
  · omega
  · obtain rfl:k=lv:=by omega
    refine⟨root,_,_,rfl,?_,hT⟩;unfold wayK;rw [if_neg (by omega),show ((k:Int)+1-1).toNat=k by omega];rfl
 have hW0:H=0→wayK look root height key= []:=fun h=>by unfold wayK;rw [if_pos (by omega)]
 obtain⟨kak,kck,rfl⟩:=bytes_shape hk;obtain⟨i0,hi0,hz0,hz1,hz2⟩:=info_parts infoInt;generalize wayK look root height key=W at*;subst hH;have hs0:=hF.alloc (treeC root (H:Int) items);have HST:=hQ ((Stays.refl w).alloc (treeC root (H:Int) items));have c1:=hs0.facts;simp only [CellsAt,Nat.reduceAdd,and_true] at c1;have HS0:=hQ hs0;have HH:=hQ (And.intro hl (And.intro okp (And.intro hk ok0)))
 have HW:=hQ (And.intro hW hW0);clear hF hs0 hl okp hk hT ok0 hW hW0;go_enter Tryz.func23,Tryz.ntmps23
 go_wp2;generalize w.heap.size=BT at*;clear c1;go_loopg [8,9,10] H (fun gk o n i wr=> ∃(pre:List Int) (m:Int),n= .int .i64 m∧i= .int .i64 pre.length∧pre.length+gk=H∧Hid ((gk=0→W=pre)∧∀k,gk=k+1→∃q L,W=pre++pathK look key k m∧TrK look k m q L)∧Stays w wr∧OwnL [IntsRow o pre,Pr.pts BT (treeC root (H:Int) items),RefAt r s gs hush x0,Pr.own hb,F] wr)
 case atStart=>
  refine⟨[],root,rfl,rfl,by simp,hQ ⟨HW.out.2,fun k hk=> ?_⟩,HST.out,?_⟩
  · obtain⟨m,q,L,rfl,h1,h2⟩:=HW.out.1 k hk
    exact⟨q,L,h1,h2⟩
  · have h1:=HS0.out.emp
    rw [← Row.nil 3 1] at h1;exact h1.to (M:= [Row 3 1 (.slice none 0 0) 0 [],Pr.pts BT (treeC root (H:Int) items),RefAt r s gs hush x0,Pr.own hb,F])
 case round=>
  obtain⟨pre,m,rfl,rfl,hpl,heq,hst,hs⟩:=hrel;rename World=>wr
  clear HST HS0 HW;obtain⟨ao,co,rfl⟩:=Row.shape (hs.pull1 (A1:=IntsRow u8 pre));have HST:=hQ hst;have hp11:pre.length≤12:=by omega
  have c1:=hs.facts;simp only [CellsAt,Nat.reduceAdd,and_true] at c1;cases gk with
  | zero=>
    have HQ:=hQ (heq.out.1 rfl);have HS:=hQ hs;have hi:¬(pre.length:Int)<(H:Int):=by omega
    clear heq hst hs;go_wp2;go_ret2;rw [HQ.out];exact⟨HST.out,_,rfl,HS.out.to (M:= [IntsRow (.slice ao pre.length co) pre,RefAt r s gs hush x0,Pr.own hb,F])⟩
  | succ k=>
    obtain⟨q,L,heq,hT⟩:=heq.out.2 k rfl;have hA:=hs.alloc (.cells #[.int .i64 m] 3);have H1:=hQ (hA.pull1 (A1:=IntsRow (.slice ao pre.length co) pre));have HC:=hQ (new_cells wr [.int .i64 m] 3 _ rfl);have hi:(pre.length:Int)<(H:Int):=by omega
    have HEQ:=hQ heq;have HT:=hQ hT;have hpl2:(pre.length:Int)+(k:Int)+1=(H:Int):=by omega
    have HPL:=hQ hpl;clear hpl;clear hs hA hst heq hT;clear heq;cases k with
    | zero=>
      have HQ:=hQ (show W=pre++ [m] from HEQ.out);have hi2:¬(pre.length:Int)<(H:Int)-1:=by omega
      clear HEQ HT hpl2
      go_wp2_with (at_builtin;refine wpList_append_sl rfl _ _ _ rfl 3 i0 (.int .i64 0) 1 8 Tryz.underlying22 hi0 hz0 hz1 hz2 rfl _ _ _ rfl H1.out ⟨wr.heap.size,0,none⟩ 1 1 [.int .i64 m] rfl rfl HC.out (by simp [Value.oneCell']) (by simp only [maxLen];omega) (by omega) ?_;intro v7 w4 hs4 hg4 _;obtain⟨a7,c7,e7,_,_⟩:=Row.read hs4;subst e7;have hs5:=OwnL.of1 hs4;have HS4:=hQ hs5;have HG4:=hQ ((HST.out.alloc (.cells #[.int .i64 m] 3)).of_grown hg4);clear c1;have c1:=hs5.facts;simp only [CellsAt,Nat.reduceAdd,and_true] at c1;clear hs4 hs5 hg4)
      go_roundg 0
      case measure=>omega
      case rel=>
       refine⟨pre++ [m],m,rfl,congrArg (Value.int .i64) (by simp),by have:=HPL.out;simp;omega,hQ ⟨fun _=>HQ.out,fun k hk=>by omega⟩,HG4.out,?_⟩;have h7:=HS4.out.to (M:= [Row 3 1 (.slice a7 (pre.length+1) c7) (pre.length+1) (pre.map (Value.int .i64)++ [.int .i64 m]),Pr.pts BT (treeC root (H:Int) items),RefAt r s gs hush x0,Pr.own hb,F]);refine⟨h7.sat.perm ?_⟩;unfold IntsRow
       rw [List.length_append,List.map_append];rfl
    | succ j=>
      obtain⟨g,LL,hlm,hkg,hlen,hch⟩:∃(g:PageV) (LL:List (List ItemV)),look m=some g∧g.kind=2∧LL.length=g.items.length∧∀i (hi:i<LL.length),TrK look j (itemAt g.items i).child (meetR q (ownR g.items i)) LL[i]:=by
       have h1:=HT.out;cases h1 with
       | index _ _ _ g LL a1 a2 a3 a4 a5=>exact⟨g,LL,a1,a2,a4,a5⟩
      have hfit:=fit_of_check (HH.out.2.1.chk m g hlm);have hit2:=((form_of_check (HH.out.2.1.chk m g hlm)).index hkg).2.2;obtain⟨hrt,_,_⟩:=route_spec key (l:=g.items) (fun e=>by rw [e] at hit2;simp at hit2);have hn8:=hfit.n;have HQ:=hQ (HEQ.out.trans (by rw [path_step hlm,List.append_cons]))
      obtain⟨q2,L2,hch2⟩:∃q2 L2,TrK look j (itemAt g.items (routeK g.items key)).child q2 L2:=⟨_,_,hch (routeK g.items key) (by omega)⟩;have HCH:=hQ hch2;clear hkg;have hi2:(pre.length:Int)<(H:Int)-1:=by omega
      clear hpl2
      go_wp2_with (at_builtin;refine wpList_append_sl rfl _ _ _ rfl 3 i0 (.int .i64 0) 1 8 Tryz.underlying22 hi0 hz0 hz1 hz2 rfl _ _ _ rfl H1.out ⟨wr.heap.size,0,none⟩ 1 1 [.int .i64 m] rfl rfl HC.out (by simp [Value.oneCell']) (by simp only [maxLen];omega) (by omega) ?_;intro v7 w4 hs4 hg4 _;obtain⟨a7,c7,e7,_,_⟩:=Row.read hs4;subst e7;have hs5:=OwnL.of1 hs4;have HS4:=hQ hs5;have HG4:=hQ ((HST.out.alloc (.cells #[.int .i64 m] 3)).of_grown hg4);clear c1;have c1:=hs5.facts;simp only [CellsAt,Nat.reduceAdd,and_true] at c1;clear hs4 hs5 hg4;obtain⟨jj,cp,bp,tai,tad,tci,tcd,hnj,hj,q3,y1,y2,hpg,d0,d1,d2,d3,d4⟩:=page_cells HH.out.2.2.2 HH.out.1 hlm (HS4.out.pull1 (A1:=RefAt r s gs hush x0));subst hnj;have hj2:(jj:Int)<(s.counts.length:Int):=(by omega);have hcl:=HH.out.2.2.2.n2;have hj3:(jj:Int)≤65536:=(by omega);obtain⟨_,_,epv,hit,_⟩:=id hpg;simp only [pageV,Value.agg.injEq,Array.mk.injEq,List.cons.injEq,and_true,true_and] at epv;obtain⟨rfl,rfl⟩:=epv;obtain⟨_,_,e9,_,rd⟩:=items_rd hit;cases e9)
      obtain⟨rt,hrt2⟩:∃rt,routeK g.items key=rt:=⟨_,rfl⟩;rw [hrt2] at HCH HQ hrt;obtain⟨b1,off,ak,ck,av,cv,rfl,_,_,hc⟩:=rd rt hrt;have HC9:=hQ hc;have HPG:=hQ (And.intro hpg (And.intro hfit hrt2));have hrl:(rt:Int)<(g.items.length:Int):=by omega
      have hs6:=HS4.out.alloc (pageC g.kind g.level (.slice (some ⟨b1,off,none⟩) g.items.length tci) (.slice tad g.data.length tcd) g.next);have HS6:=hQ hs6;have HST6:=hQ (HG4.out.alloc (pageC g.kind g.level (.slice (some ⟨b1,off,none⟩) g.items.length tci) (.slice tad g.data.length tcd) g.next));clear hs6 HS4 HG4 HST HT HEQ hlm hch hch2 hfit hit2 hit hc hpg rd hrt2 H1 HC
      clear c1 d0 d1 d2 d3 d4 q3 y1 y2;obtain⟨PB,hPB⟩:∃PB,w4.heap.size=PB:=⟨_,rfl⟩;rw [hPB];have U1:=HS6.out;have U2:=HST6.out;clear HS6 HST6;rw [hPB] at U1;generalize w4.alloc (pageC g.kind g.level (.slice (some ⟨b1,off,none⟩) g.items.length tci) (.slice tad g.data.length tcd) g.next)=w6 at*;clear hPB;have c1:=U1.facts;simp only [CellsAt,Nat.reduceAdd,and_true] at c1
      have RT:=hQ (rroute_any x0.h hb _ _ g HPG.out.1 HPG.out.2.1 key HH.out.2.2.1 w6.drew (refAt_le (U1.drew.pull1 (A1:=RefAt r s gs hush x0))) (U1.drew.le (a:=hb)));rw [HPG.out.2.2] at RT;have HS6:=hQ U1.drew;have HST6:=hQ U2.drew;clear U1 U2;refine wS 46 [0,1,2,3] [(4,[5,6,7,8],[0,1])] ?_;refine wpQ_all _ rfl rfl ?_;simp only [pick,pQ];iterate 4 (go_big_quiet_step (fail))
      refine wpQuiet_nil ?_;refine wpRest_act rfl ?_;go_wp2_with fail
      refine RT.out.mono ?_;rintro e w7 ⟨rfl,ho7⟩;have hs7:OwnL _ w7:=⟨HS6.out.sat.only ho7⟩;have HST7:=hQ (HST6.out.trans ho7.st);obtain⟨e0,e1,e2,e3⟩:=HC9.out w7 (refAt_le (hs7.pull1 (A1:=RefAt r s gs hush x0)));have ez:=World.block_lt_of_cell? _ _ e0;simp only at ez;rw [← itemAt_get hrt] at e0 e1 e2 e3;clear c1;have c1:=hs7.facts;simp only [CellsAt,Nat.reduceAdd,and_true] at c1;have HS7:=hQ hs7
      clear ho7 hs7 RT HS6 HST6 HC9;go_wp2;refine onN_mk ?_;refine wpQ_all _ rfl rfl ?_;simp only [pick,pQ];iterate 4 (go_big_quiet_step (fail))
      refine wpQuiet_nil ⟨?_,?_⟩
      · exact cQ
      refine wpRest_nil ?_;go_wp2;go_roundg (j+1)
      case measure=>omega
      case rel=>
       refine⟨pre++ [((jj:Int)+1)],(itemAt g.items rt).child,by rw [itemAt_get hrt],congrArg (Value.int .i64) (by simp),by have:=HPL.out;simp;omega,hQ ⟨fun h=>by omega,fun k hk=> ?_⟩,HST7.out,?_⟩
       · obtain rfl:k=j:=by omega
         exact⟨q2,L2,HQ.out,HCH.out⟩
       · have h7:=HS7.out.to (M:= [Row 3 1 (.slice a7 (pre.length+1) c7) (pre.length+1) (pre.map (Value.int .i64)++ [.int .i64 ((jj:Int)+1)]),Pr.pts BT (treeC root (H:Int) items),RefAt r s gs hush x0,Pr.own hb,F])
         refine⟨h7.sat.perm ?_⟩;unfold IntsRow;rw [List.length_append,List.map_append];rfl
end Go.Proofs.YtiegeadmgpanoaaGreatDoor.V8
