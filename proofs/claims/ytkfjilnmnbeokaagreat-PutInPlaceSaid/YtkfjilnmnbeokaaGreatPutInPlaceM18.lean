/- The vault: Undo of pages made; the conditions stand as hypotheses. -/
import Derived.Test.YtkfjilnmnbeokaaGreatPutInPlaceM16
import Derived.Test.YtkfjilnmnbeokaaGreatPutInPlaceM15
import Derived.Test.YtkfjilnmnbeokaaGreatPutInPlaceM11
import Derived.Test.YtkfjilnmnbeokaaGreatPutInPlaceM03
import Derived.Test.YtkfjilnmnbeokaaGreatPutInPlaceM01
set_option maxRecDepth 100000
set_option maxHeartbeats 16000000
namespace Go.Cop
def Bare(s:VaultS):Prop:= ∀n,s.pool.state n=1→s.on n=none
theorem Bare.make {s:VaultS}(h:Bare s){n:Int}(hn:s.pool.state n=1)(h0:s.pool.count n=0)(g:PageV):Bare (s.make n g):=by
 intro m hm;have hs:=did_state (s:=s.pool) (b:=1) (m:=m) (there_of_state (by omega:s.pool.state n≠0));have hm':(s.pool.did n 1).state m=1:=hm;rw [hm'] at hs;by_cases hmn:m=n
 · rw [if_pos hmn,h0] at hs
   unfold stateOf at hs;simp at hs
   split at hs<;>omega
 · rw [if_neg hmn] at hs
   show (if m=n then some g else s.on m)=none
   rw [if_neg hmn];exact h m hs.symm
end Go.Cop
namespace Go.Proofs.YtkfjilnmnbeokaaGreat.Y4
open ChangeShapes WideShapes ChangeAt RowKit Sl Cop D2 D3 J3 V3 G2 J2 X3 Y3 E4 G4 L4 M4 P4 S4 N4
theorem row_cutk {T k n c m:Nat}{a:Option Addr}{xs:List Value}{F:Pr}{w:World}(h:Sat ((Row T k (.slice a n c) n xs).star F) w)(hm:m≤n):Sat ((Row T k (.slice a m c) m (xs.take (m*k))).star F) w:=by
 refine h.mono fun x hx=> ?_
 have hmk:m*k≤n*k:=Nat.mul_le_mul_right _ hm;obtain⟨hl,(⟨e,hn,hx⟩ | ⟨b,cap,sp,e,h1,h2,h3,h4⟩)⟩:=hx
 · cases e
   have:m=0:=by omega
   subst this;exact⟨by simp,.inl ⟨rfl,rfl,hx⟩⟩
 · cases e
   refine⟨by rw [List.length_take];omega,.inr ⟨b,c,xs.drop (m*k)++sp,rfl,by rw [List.length_take,List.length_append,List.length_drop];omega,by omega,h3,?_⟩⟩;rw [← List.append_assoc,List.take_append_drop];exact h4
theorem actCells_snoc(l:List (Int × Value))(x:Int × Value):actCells (l++ [x])=actCells l++ [.int .i64 x.1,x.2]:=by
 unfold actCells;rw [List.flatMap_append];rfl
theorem actCells_len(l:List (Int × Value)):(actCells l).length=l.length*2:=by
 induction l with
 | nil=>rfl
 | cons a l ih=>simp only [actCells,List.flatMap_cons,List.length_append,List.length_cons] at ih ⊢;simp at ih ⊢;omega
theorem acts_unsnoc {h:Hp}{axs:List (Int × Value)}{acts:List ActV}{a:ActV}(ha:ActsIn2 h axs (acts++ [a])):∃axs' x,axs=axs'++ [x]∧ActsIn2 h axs' acts∧ActRel h x a:=by
 have hl:=ha.1;rw [List.length_append] at hl;have hne:axs≠ []:=fun e=>by rw [e] at hl;simp at hl
 obtain⟨axs',x,rfl⟩:∃axs' x,axs=axs'++ [x]:=⟨axs.dropLast,axs.getLast hne,(List.dropLast_concat_getLast hne).symm⟩;have hl2:axs'.length=acts.length:=by simpa using hl
 refine⟨axs',x,rfl,⟨hl2,fun i h1 h2=> ?_⟩,?_⟩
 · have:=ha.2 i (by simp;omega) (by simp;omega)
   rw [List.getElem_append_left h1,List.getElem_append_left h2] at this;exact this
 · have:=ha.2 acts.length (by simp;omega) (by simp)
   rw [List.getElem_append_right (by omega),List.getElem_append_right (Nat.le_refl _)] at this;simpa [hl2] using this
theorem steps_acts {s0 s:VaultS}(h:Go.Cop.Steps s0 s):s.floor=s0.floor∧s0.acts.length≤s.acts.length:=by
 induction h with
 | refl=>exact⟨rfl,Nat.le_refl _⟩
 | step n g h hn h0 ih=>
   refine⟨ih.1,Nat.le_trans ih.2 ?_⟩;show _≤(_++ [_]).length
   rw [List.length_append];exact Nat.le_add_right _ _
theorem steps_bare {s0 s:VaultS}(h:Go.Cop.Steps s0 s)(hb:Bare s0):Bare s:=by
 induction h with
 | refl=>exact hb
 | step n g h hn h0 ih=>exact ih.make hn h0 g
theorem vundo_A(v:Nat)(s0 s:VaultS)(hst:Go.Cop.Steps s0 s)(hb:Bare s0)(F:Pr)(w:World)(hF:Sat ((VaultA v s).star F) w):
 Calls Tryz.prog 27 #[.pointer (some ⟨v,0,none⟩),.int .i64 (s0.floor+s0.acts.length)] w fun e w'=>
  e= .returned (.bool true)∧Sat ((VaultA v s0).star F) w'∧Stays w w':=by
 obtain⟨okp,b1,b2⟩:=vault_ok hF;obtain⟨e1,e2⟩:s.floor=s0.floor∧s0.acts.length≤s.acts.length:=steps_acts hst
 have q3:w.cell? ⟨v,3,none⟩=some (.int .i64 s.floor):=by
  obtain⟨x,ok,h1⟩:=vaultA_iff.1 hF
  have h2:Sat ((Pr.pts v (.cells #[.pointer (some ⟨x.p,0,none⟩),.map (some x.mb),x.av,.int .i64 s.floor] 70)).star
   ((((MapA Tryz.prog 3 x.mb x.f).star ((PoolA x.p s.pool).star ((Row 126 2 x.av s.acts.length (actCells x.axs)).star (Pr.own x.h))))).star F)) w:=h1.perm (by unfold VaultAt;ac_rfl)
  rw [cell_of_heap h2.pts_heap];rfl
 have M:=hQ (vmark_A v s F w hF);have HF:=hQ hF;have HS:=hQ hst;have HE:=hQ e1;rw [e1] at q3 M b1 b2;clear hF hst e1;have d1:decide (s0.floor+(s0.acts.length:Int)<s0.floor)=false:=by rw [decide_eq_false_iff_not];omega
 have d2:¬s.acts.length<s0.acts.length:=by omega
 go_enter Tryz.func27,Tryz.ntmps27
 go_wp2_with fail
 refine M.out.mono ?_;rintro e w1 ⟨rfl,ho⟩;have h1:=HF.out.only ho;have H1:=hQ h1;have HO:=hQ ho;clear h1 ho M HF q3;go_wp2;go_loopw [5] (fun _ wr=> ∃s1:VaultS,Go.Cop.Steps s0 s1∧Stays w wr∧Sat ((VaultA v s1).star F) wr) (fun _ wr=>match wr.cell? ⟨v,2,none⟩ with | some (.slice _ n _)=>n | _=>0)
 case atStart=>exact⟨s,HS.out,HO.out.st,H1.out⟩
 case round=>
  obtain⟨s1,hs1,hst,hinv⟩:=hrel;cases hs1 with
  | refl=>
    have M:=hQ (vmark_A v s0 F wr hinv);have HINV:=hQ hinv;clear hinv;go_wp2_with fail
    refine M.out.mono ?_;rintro e w2 ⟨rfl,ho⟩;have HR:=hQ (And.intro (HINV.out.only ho) (hst.trans ho.st));clear ho;go_wp2;go_ret;exact⟨rfl,HR.out.1,HR.out.2⟩
  | @step t n g hs1 hn h0=>
    have M:=vmark_A v (t.make n g) F wr hinv;obtain⟨okp1,f1,f2⟩:=vault_ok hinv;obtain⟨t1,t2⟩:=steps_acts hs1;have hbare:=steps_bare hs1 hb n hn
    have eL:(t.make n g).acts.length=t.acts.length+1:=by
     show (t.acts++ [_]).length=_
     rw [List.length_append];rfl
    have eF:(t.make n g).floor=t.floor:=rfl;rw [eL,eF] at M f2;rw [eF] at f1;rw [show t.floor+((t.acts.length+1:Nat):Int)=s0.floor+(t.acts.length:Int)+1 by omega] at M;obtain⟨x,ok,hx⟩:=vaultA_iff.1 hinv;obtain⟨axs',ax,eax,ha1,ha2⟩:=acts_unsnoc ok.acts;obtain⟨em,xs,hrow,hwas⟩:=ha2
    have hx2:Sat ((Row 126 2 x.av (t.make n g).acts.length (actCells x.axs)).star ((Pr.pts v (.cells #[.pointer (some ⟨x.p,0,none⟩),.map (some x.mb),x.av,.int .i64 (t.make n g).floor] 70)).star
     ((((MapA Tryz.prog 3 x.mb x.f).star ((PoolA x.p (t.make n g).pool).star (Pr.own x.h)))).star F))) wr:=hx.perm (by unfold VaultAt;ac_rfl)
    rw [eL] at hx2;obtain⟨aa,ca,ea,hlen,hcells⟩:=Row.read hx2;obtain⟨b,eb,hc⟩:=hcells (by omega);subst eb;have hal:axs'.length=t.acts.length:=ha1.1;have hac:(actCells axs').length=t.acts.length*2:=by rw [actCells_len,hal]
    have k0:=(hc (t.acts.length*2) (by omega)).1;have k1:=(hc (t.acts.length*2+1) (by omega)).1;rw [eax,actCells_snoc,List.getElem?_append_right (by omega),hac] at k0 k1;rw [show t.acts.length*2-t.acts.length*2=0 by omega] at k0;rw [show t.acts.length*2+1-t.acts.length*2=1 by omega] at k1;rw [em] at k0;have q2:wr.cell? ⟨v,2,none⟩=some x.av:=by rw [cell_of_heap hx2.right.pts_heap];rfl
    rw [ea] at q2;have hx1:xs.length=1:=hwas.1
    obtain⟨X,rfl⟩:∃X,xs= [X]:=by
     cases xs with
     | nil=>simp at hx1
     | cons X l=>cases l with
       | nil=>exact⟨X,rfl⟩
       | cons _ _=>simp at hx1
    obtain⟨w1',w2',w3',w4'⟩:=hwas.2 0 (by simp) (by simp);simp only [List.getElem_cons_zero] at w1' w2' w3' w4';rw [hbare] at w4';have hrow':RowIn x.h 7 ax.2 1 ([X].flatMap WasX.cells):=hrow;obtain⟨_,aw,cw,ew,_,_,_⟩:=id hrow';rw [ew] at hrow';have k0':wr.cell? ⟨b,t.acts.length*2,none⟩=some (.int .i64 (t.pool.floor+t.pool.acts.length)):=k0
    have k1':wr.cell? ⟨b,t.acts.length*2+1,none⟩=some (.slice aw 1 cw):=by rw [k1, ← ew];rfl
    have hth:=there_of_state (by omega:t.pool.state n≠0)
    have htr:Trail (t.make n g).pool t.pool.counts ((t.make n g).pool.acts.drop t.pool.acts.length) (t.make n g).pool.counts:=by
     rw [show (t.make n g).pool.acts=t.pool.acts++ [(n,1)] from rfl,List.drop_left];exact⟨hth,by show 0≤t.pool.count n;omega,by show t.pool.count n≤ _;omega,by dsimp only;omega,rfl⟩
    have hpe:({ (t.make n g).pool with counts:=t.pool.counts,acts:=(t.make n g).pool.acts.take t.pool.acts.length }:PoolS)=t.pool:=by
     show ({ t.pool with counts:=t.pool.counts,acts:=(t.pool.acts++ [(n,1)]).take t.pool.acts.length }:PoolS)=t.pool
     rw [List.take_left]
    have B:=fun wx hwx=>back_none v (t.make n g) x t.pool.acts.length t.pool.counts (.slice aw 1 cw) [X] hrow' (by simp) (fun Y hY=>by
     rw [List.mem_singleton] at hY
     subst hY
     exact⟨w4',by rw [w1'];exact⟨hth.1,by have h3:=hth.2;have h4:=okp1.n2;have h5:(t.make n g).pool.counts.length=t.pool.counts.length:=List.length_set;omega⟩,w2',w3'⟩) F wx hwx (by show _≤(t.pool.acts++ [_]).length;rw [List.length_append];omega) htr
    rw [hpe] at B
    have hon:OnIn x.h (struck x.f (backs [X])) t.on:=by
     intro m;have h3:=ok.on m
     have h4:struck x.f (backs [X]) m=if m=n then none else x.f m:=by
      rw [show backs [X]= []++ [((0:Int),X)] from rfl,struck_snoc,struck_nil];dsimp only;rw [w1']
     rw [h4];by_cases hmn:m=n
     · rw [hmn,hbare,if_pos rfl]
     · rw [if_neg hmn]
       rw [show (t.make n g).on m=if m=n then some g else t.on m from rfl,if_neg hmn] at h3;exact h3
    have HB:=hQ B;have HX:=hQ hx;have HM:=hQ M;have HFIN:=hQ (And.intro hon ha1);have HEA:=hQ (And.intro ea eax);have HS1:=hQ hs1;have HAC:=hQ hac;have hLb:t.acts.length≤1099511627776:=by omega
    have hLc:s0.acts.length≤t.acts.length:=t2;have htf:t.floor=s0.floor:=t1;have HTF:=hQ htf;have HEL:=hQ eL;have hca:=Row.bd (ea ▸ hx2)
    have hcl:t.acts.length≤ca:=by
     have hx3:=hx2;rw [ea] at hx3;obtain⟨_,(⟨e5,_,_⟩ | ⟨_,_,_,e5,_,h5,_,_⟩)⟩:=Row.open' hx3
     · cases e5
     · cases e5;omega
    clear B M hinv hx hx2 hc hcells hrow hrow' hwas ha1 hon ok eax hac hal k0 k1 htr hpe okp1 eL eF w1' w2' w3' w4' ea em hs1 htf;have HQ2:=hQ q2;generalize hLL:t.acts.length=L at*;have HLL:=hQ hLL;clear hLL;go_wp2_with fail
    refine HM.out.mono ?_;rintro e w2 ⟨rfl,ho⟩;have g2:=ho.cell q2;have g0:=ho.cell k0';have g1:=ho.cell k1';have HB2:=hQ (HB.out w2 (HX.out.only ho));have HST2:=hQ (hst.trans ho.st);clear ho q2 k0' k1' hst;go_wp2_with fail
    refine HB2.out.mono ?_;rintro e w3 ⟨rfl,h3,hst3⟩
    have h4:Sat ((Row 126 2 x.av (t.make n g).acts.length (actCells x.axs)).star ((Pr.pts v (.cells #[.pointer (some ⟨x.p,0,none⟩),.map (some x.mb),x.av,.int .i64 t.floor] 70)).star (((MapA Tryz.prog 3 x.mb (struck x.f (backs [X]))).star ((PoolA x.p t.pool).star (Pr.own x.h))).star F))) w3:=h3.perm (by unfold VaultAt;show ((Pr.pts v (.cells #[.pointer (some ⟨x.p,0,none⟩),.map (some x.mb),x.av,.int .i64 t.floor] _)).star ((PoolA x.p t.pool).star ((MapA Tryz.prog 3 x.mb (struck x.f (backs [X]))).star ((Row _ 2 x.av (t.make n g).acts.length (actCells x.axs)).star (Pr.own x.h))))).star F=_;ac_rfl)
    rw [HEL.out,HEA.out.1] at h4;have j2:w3.cell? ⟨v,2,none⟩=some (.slice (some ⟨b,0,none⟩) (L+1) ca):=by rw [cell_of_heap h4.right.pts_heap];rfl
    have jz:=frozen_of_heap h4.right.pts_heap 2;have h5:=row_cutk h4 (Nat.le_succ L)
    have h6:Sat ((Pr.pts v (.cells #[.pointer (some ⟨x.p,0,none⟩),.map (some x.mb),.slice (some ⟨b,0,none⟩) L ca,.int .i64 t.floor] 70)).star ((Row 126 2 (.slice (some ⟨b,0,none⟩) L ca) L ((actCells x.axs).take (L*2))).star (((MapA Tryz.prog 3 x.mb (struck x.f (backs [X]))).star ((PoolA x.p t.pool).star (Pr.own x.h))).star F))) (w3.setCell ⟨v,2,none⟩ (.slice (some ⟨b,0,none⟩) L ca)):=(h5.perm (Pr.left_comm _ _ _)).setCell (i:=2) (.slice (some ⟨b,0,none⟩) L ca)
    have H6:=hQ h6;have HST3:=hQ ((HST2.out.trans hst3).setCell ⟨v,2,none⟩ (.slice (some ⟨b,0,none⟩) L ca));clear h3 h4 h5 h6 hst3 HB2 g2 g0 g1 HB HX HM;go_wp2;go_roundw
    case rel=>
     refine⟨t,HS1.out,HST3.out,vaultA_iff.2 ⟨{ x with f:=struck x.f (backs [X]),av:= .slice (some ⟨b,0,none⟩) L ca,axs:=axs' },⟨HFIN.out.1,HFIN.out.2,by have:=HTF.out;omega,?_⟩,?_⟩⟩
     · rw [HLL.out];omega
     · have e6:(actCells x.axs).take (L*2)=actCells axs':=by rw [HEA.out.2,actCells_snoc, ← HAC.out,List.take_left]
       have h7:=H6.out;rw [e6] at h7;refine h7.perm ?_;unfold VaultAt;dsimp only;rw [HLL.out];ac_rfl
    case measure=>
     have e7:=cell_of_heap H6.out.pts_heap 2;rw [show (#[.pointer (some ⟨x.p,0,none⟩),.map (some x.mb),.slice (some ⟨b,0,none⟩) L ca,.int .i64 t.floor]:Array Value)[2]? =some (.slice (some ⟨b,0,none⟩) L ca) from rfl] at e7;rw [e7,HQ2.out];exact Nat.lt_succ_self L
end Go.Proofs.YtkfjilnmnbeokaaGreat.Y4
namespace Go.Cop
theorem none_free {s:PoolS}(ok:PoolOk s)(h:s.many 1=0):∀m,s.state m≠1:=by
 intro m hm;have h1:=did_many ok hm;omega
end Go.Cop
namespace Go.Proofs.YtkfjilnmnbeokaaGreat.B5
open ChangeShapes WideShapes ChangeAt RowKit Sl Cop D2 D3 J3 V3 G2 J2 X3 Y3 E4 G4 L4 M4 V4 Y4 N4
abbrev zeroItem:Value:= .agg #[.slice none 0 0,.slice none 0 0,.int .i64 0,.int .i64 0]
theorem store1_err(EB VB MB IB v:Nat)(s0 s:VaultS)(c0 c1:Value)(x2 x3:Int)(hst:Go.Cop.Steps s0 s)(hb:Bare s0)(a0:Option Addr)(m0 k0:Nat)(ec:c0= .slice a0 m0 k0)(ec1:c1= .slice none 0 0)(u:FrameMode)(F:Pr)(w:World)
 (hF:Sat ((VaultA v s).star ((Pr.pts IB (.cells #[c0,c1,.int .i64 x2,.int .i64 x3] 89)).star ((Pr.pts EB (.cells #[.int .i64 12] 25)).star ((Pr.pts VB (.cells #[.pointer (some ⟨v,0,none⟩)] 24)).star ((Pr.pts MB (.cells #[.int .i64 (s0.floor+s0.acts.length)] 3)).star F))))) w):
 CallsD Tryz.prog 69 #[.pointer (some ⟨EB,0,none⟩),.pointer (some ⟨VB,0,none⟩),.pointer (some ⟨MB,0,none⟩),.pointer (some ⟨IB,0,none⟩)] u w fun e u' w'=>u'=u∧(e= .returned (.tuple #[])∧Stays w w'∧
  Sat ((Pr.pts IB (.cells #[.slice none 0 0,.slice none 0 0,.int .i64 0,.int .i64 0] 89)).star ((Pr.pts EB (.cells #[.int .i64 12] 25)).star ((VaultA v s0).star F))) w'):=by
 subst ec;subst ec1;have e0:w.cell? ⟨EB,0,none⟩=some (.int .i64 12):=by rw [cell_of_heap hF.right.right.pts_heap];rfl
 have v0:w.cell? ⟨VB,0,none⟩=some (.pointer (some ⟨v,0,none⟩)):=by rw [cell_of_heap hF.right.right.right.pts_heap];rfl
 have m0':w.cell? ⟨MB,0,none⟩=some (.int .i64 (s0.floor+s0.acts.length)):=by rw [cell_of_heap hF.right.right.right.right.pts_heap];rfl
 have U:=hQ (vundo_A v s0 s hst hb _ w hF);clear hF;go_enter_d Tryz.func69,Tryz.ntmps69
 go_wp2_with fail
 refine U.out.mono ?_;rintro e w1 ⟨rfl,h1,hst1⟩;have h2:=h1.right;have f0:w1.cell? ⟨IB,0,none⟩=some (.slice a0 m0 k0):=by rw [cell_of_heap h2.pts_heap];rfl
 have f1:w1.cell? ⟨IB,1,none⟩=some (.slice none 0 0):=by rw [cell_of_heap h2.pts_heap];rfl
 have f2:w1.cell? ⟨IB,2,none⟩=some (.int .i64 x2):=by rw [cell_of_heap h2.pts_heap];rfl
 have f3:w1.cell? ⟨IB,3,none⟩=some (.int .i64 x3):=by rw [cell_of_heap h2.pts_heap];rfl
 have z0:=frozen_of_heap h2.pts_heap 0;have z1:=frozen_of_heap h2.pts_heap 1;have z2:=frozen_of_heap h2.pts_heap 2;have z3:=frozen_of_heap h2.pts_heap 3;have h3:=((((h1.perm (Pr.left_comm _ _ _)).setCell (i:=0) (.slice none 0 0)).setCell (i:=1) (.slice none 0 0)).setCell (i:=2) (.int .i64 0)).setCell (i:=3) (.int .i64 0)
 have h4:Sat ((Pr.pts VB (.cells #[.pointer (some ⟨v,0,none⟩)] 24)).star ((Pr.pts MB (.cells #[.int .i64 (s0.floor+s0.acts.length)] 3)).star ((Pr.pts IB (.cells #[.slice none 0 0,.slice none 0 0,.int .i64 0,.int .i64 0] 89)).star ((Pr.pts EB (.cells #[.int .i64 12] 25)).star ((VaultA v s0).star F))))) _:=h3.perm (show (Pr.pts IB (.cells #[.slice none 0 0,.slice none 0 0,.int .i64 0,.int .i64 0] 89)).star _=_ from by ac_rfl)
 have H4:=hQ h4.right.right;have HST:=hQ ((((hst1.setCell ⟨IB,0,none⟩ (.slice none 0 0)).setCell ⟨IB,1,none⟩ (.slice none 0 0)).setCell ⟨IB,2,none⟩ (.int .i64 0)).setCell ⟨IB,3,none⟩ (.int .i64 0));clear h1 h2 h3 h4 hst1 U;go_wp2;first | refine bodyPost_ret (results_none rfl _ _ _) rfl ?_ | go_end0
 exact⟨rfl,HST.out,H4.out⟩
theorem store_any_row(v:Nat)(s:VaultS)(kv vv:Value)(hp:Hp)(K V:List Int)(hK:Bytes hp kv K)(hV:Bytes hp vv V)(hk:1≤K.length∧K.length≤24)(hv:32<V.length∧V.length≤3840)(F:Pr)(w:World)
 (hF:Sat ((VaultA v s).star ((Pr.own hp).star F)) w) (hbare:Bare s) (hm:s.pool.floor+s.pool.acts.length+chunks V≤1099511627776) (hm2:s.floor+s.acts.length+chunks V≤1099511627776):
 Calls Tryz.prog 36 #[.pointer (some ⟨v,0,none⟩),kv,vv] w fun e w'=>
  Stays w w'∧((chunks V≤s.pool.many 1∧∃kv' c s' ns,e= .returned (.tuple #[.agg #[kv',.slice none 0 0,.int .i64 c,.int .i64 V.length],.int .i64 0])∧Taken s s' ns∧ChainAt s' V (chunks V) 0 c ns∧
   Sat ((BytesRow kv' K).star ((VaultA v s').star ((Pr.own hp).star F))) w')∨
   (s.pool.many 1<chunks V∧e= .returned (.tuple #[.agg #[.slice none 0 0,.slice none 0 0,.int .i64 0,.int .i64 0],.int .i64 12])∧Sat ((VaultA v s).star ((Pr.own hp).star F)) w')):=by
 obtain⟨_,ak,ck,rfl,_⟩:=id hK;obtain⟨_,av,cv,rfl,hcv,hcv2,hcell⟩:=id hV;obtain⟨bv,ov,eav,_⟩:=hcell (by omega);subst eav;have es:(w.alloc (.cells #[.pointer (some ⟨v,0,none⟩)] 24)).heap.size=w.heap.size+1:=by simp
 have es2:((w.alloc (.cells #[.pointer (some ⟨v,0,none⟩)] 24)).alloc (.cells #[.slice none 0 0,.slice none 0 0,.int .i64 0,.int .i64 0] 89)).heap.size=w.heap.size+1+1:=by simp
 have h1:=((hF.alloc (.cells #[.pointer (some ⟨v,0,none⟩)] 24)).alloc (.cells #[.slice none 0 0,.slice none 0 0,.int .i64 0,.int .i64 0] 89)).alloc (.cells #[.int .i64 0] 25);rw [es2,es] at h1
 have hle:=(h1.perm (B:=(Pr.own hp).star ((VaultA v s).star ((Pr.pts (w.heap.size+1+1) (.cells #[.int .i64 0] 25)).star ((Pr.pts (w.heap.size+1) (.cells #[.slice none 0 0,.slice none 0 0,.int .i64 0,.int .i64 0] 89)).star ((Pr.pts w.heap.size (.cells #[.pointer (some ⟨v,0,none⟩)] 24)).star F))))) (by ac_rfl)).own;have C:=hQ (bclone_any hp _ K _ _ h1 hle hK (by omega))
 have HST:=hQ ((((Stays.refl w).alloc (.cells #[.pointer (some ⟨v,0,none⟩)] 24)).alloc (.cells #[.slice none 0 0,.slice none 0 0,.int .i64 0,.int .i64 0] 89)).alloc (.cells #[.int .i64 0] 25));have HV:=hQ hV;clear h1 hle hF es es2 hK hV hcell;go_enter_defers Tryz.func36,Tryz.ntmps36
 go_wp2_with fail
 refine C.out.mono ?_;rintro e w1 ⟨kv',rfl,h1,hst⟩;obtain⟨ak',ck',ek,_,_⟩:=Row.read h1
 have h2:Sat ((Pr.pts (w.heap.size+1) (.cells #[.slice none 0 0,.slice none 0 0,.int .i64 0,.int .i64 0] 89)).star ((BytesRow kv' K).star ((Pr.pts (w.heap.size+1+1) (.cells #[.int .i64 0] 25)).star ((Pr.pts w.heap.size (.cells #[.pointer (some ⟨v,0,none⟩)] 24)).star
  ((VaultA v s).star ((Pr.own hp).star F)))))) w1:=h1.perm (by ac_rfl)
 subst ek;have f0:w1.cell? ⟨w.heap.size+1,0,none⟩=some (.slice none 0 0):=by rw [cell_of_heap h2.pts_heap];rfl
 have f1:w1.cell? ⟨w.heap.size+1,1,none⟩=some (.slice none 0 0):=by rw [cell_of_heap h2.pts_heap];rfl
 have f2:w1.cell? ⟨w.heap.size+1,2,none⟩=some (.int .i64 0):=by rw [cell_of_heap h2.pts_heap];rfl
 have f3:w1.cell? ⟨w.heap.size+1,3,none⟩=some (.int .i64 0):=by rw [cell_of_heap h2.pts_heap];rfl
 have z0:=frozen_of_heap h2.pts_heap 0;have z1:=frozen_of_heap h2.pts_heap 1;have z2:=frozen_of_heap h2.pts_heap 2;have z3:=frozen_of_heap h2.pts_heap 3;have s3:=(((h2.setCell (i:=0) (.slice ak' K.length ck')).setCell (i:=1) (.slice none 0 0)).setCell (i:=2) (.int .i64 0)).setCell (i:=3) (.int .i64 V.length)
 have h3:Sat ((VaultA v s).star ((Pr.pts (w.heap.size+1) (.cells #[.slice ak' K.length ck',.slice none 0 0,.int .i64 0,.int .i64 V.length] 89)).star ((BytesRow (.slice ak' K.length ck') K).star ((Pr.pts (w.heap.size+1+1) (.cells #[.int .i64 0] 25)).star ((Pr.pts w.heap.size (.cells #[.pointer (some ⟨v,0,none⟩)] 24)).star
  ((Pr.own hp).star F)))))) _:=s3.perm (show (Pr.pts (w.heap.size+1) (.cells #[.slice ak' K.length ck',.slice none 0 0,.int .i64 0,.int .i64 V.length] 89)).star _=_ from by ac_rfl)
 have q0:=cell_of_heap h3.right.right.right.right.pts_heap 0;have M:=hQ (vmark_A v s _ _ h3);have H3:=hQ h3;have HST2:=hQ ((((HST.out.trans hst).setCell ⟨w.heap.size+1,0,none⟩ (.slice ak' K.length ck')).setCell ⟨w.heap.size+1,1,none⟩ (.slice none 0 0)).setCell ⟨w.heap.size+1,2,none⟩ (.int .i64 0) |>.setCell ⟨w.heap.size+1,3,none⟩ (.int .i64 V.length));clear h1 h2 h3 s3 hst HST C;go_wp2_with fail
 refine M.out.mono ?_;rintro e w2 ⟨rfl,ho⟩;have h4:=(H3.out.only ho);have HST3:=hQ (HST2.out.trans ho.st);clear M H3 HST2 ho f0 f1 f2 f3 z0 z1 z2 z3 q0;have h5:=h4.alloc (.cells #[.int .i64 (s.floor+s.acts.length)] 3);have H5:=hQ h5;clear h4 h5;have hN:V.length≤480*chunks V∧480*chunks V<V.length+480:=by unfold chunks;omega
 go_wp2
 go_loopw [9] (fun e wr=> ∃(j:Nat) (c:Int) (s':VaultS) (ns:List Int),j≤chunks V∧e= .int .i64 (min V.length (480*j):Nat)∧Stays w wr∧Taken s s' ns∧ChainAt s' V (chunks V-j) j c ns∧
  Sat ((VaultA v s').star ((Pr.pts (w.heap.size+1) (.cells #[.slice ak' K.length ck',.slice none 0 0,.int .i64 c,.int .i64 V.length] 89)).star ((BytesRow (.slice ak' K.length ck') K).star ((Pr.pts (w.heap.size+1+1) (.cells #[.int .i64 0] 25)).star ((Pr.pts w.heap.size (.cells #[.pointer (some ⟨v,0,none⟩)] 24)).star ((Pr.pts w2.heap.size (.cells #[.int .i64 (s.floor+s.acts.length)] 3)).star ((Pr.own hp).star F))))))) wr) (fun e _=>(intOf e).toNat)
 case atStart=>
  refine⟨chunks V,0,s,[],Nat.le_refl _,by rw [Nat.min_eq_left hN.1],HST3.out.alloc _,Taken.refl s,?_,?_⟩
  · rw [Nat.sub_self];exact⟨rfl,rfl⟩
  · exact H5.out.perm (by ac_rfl)
 case round=>
  obtain⟨j,c,s',ns,hj,rfl,hst,ht,hch,hinv⟩:=hrel
  have hi:Sat ((Pr.pts (w.heap.size+1) (.cells #[.slice ak' K.length ck',.slice none 0 0,.int .i64 c,.int .i64 V.length] 89)).star ((Pr.pts (w.heap.size+1+1) (.cells #[.int .i64 0] 25)).star ((Pr.pts w.heap.size (.cells #[.pointer (some ⟨v,0,none⟩)] 24)).star ((BytesRow (.slice ak' K.length ck') K).star ((VaultA v s').star ((Pr.pts w2.heap.size (.cells #[.int .i64 (s.floor+s.acts.length)] 3)).star ((Pr.own hp).star F))))))) wr:=hinv.perm (by ac_rfl)
  have f0:wr.cell? ⟨w.heap.size+1,0,none⟩=some (.slice ak' K.length ck'):=by rw [cell_of_heap hi.pts_heap];rfl
  have f1:wr.cell? ⟨w.heap.size+1,1,none⟩=some (.slice none 0 0):=by rw [cell_of_heap hi.pts_heap];rfl
  have f2:wr.cell? ⟨w.heap.size+1,2,none⟩=some (.int .i64 c):=by rw [cell_of_heap hi.pts_heap];rfl
  have f3:wr.cell? ⟨w.heap.size+1,3,none⟩=some (.int .i64 V.length):=by rw [cell_of_heap hi.pts_heap];rfl
  have e0:wr.cell? ⟨w.heap.size+1+1,0,none⟩=some (.int .i64 0):=by rw [cell_of_heap hi.right.pts_heap];rfl
  have b0:wr.cell? ⟨w.heap.size,0,none⟩=some (.pointer (some ⟨v,0,none⟩)):=by rw [cell_of_heap hi.right.right.pts_heap];rfl
  cases j with
  | zero=>
    have z0:=frozen_of_heap hi.pts_heap 0;have z1:=frozen_of_heap hi.pts_heap 1;have z2:=frozen_of_heap hi.pts_heap 2;have z3:=frozen_of_heap hi.pts_heap 3;have ze:=frozen_of_heap hi.right.pts_heap 0;have s3:=(((hi.setCell (i:=0) (.slice ak' K.length ck')).setCell (i:=1) (.slice none 0 0)).setCell (i:=2) (.int .i64 c)).setCell (i:=3) (.int .i64 V.length)
    have s4:Sat ((Pr.pts (w.heap.size+1+1) (.cells #[.int .i64 0] 25)).star ((Pr.pts (w.heap.size+1) (.cells #[.slice ak' K.length ck',.slice none 0 0,.int .i64 c,.int .i64 V.length] 89)).star ((Pr.pts w.heap.size (.cells #[.pointer (some ⟨v,0,none⟩)] 24)).star ((BytesRow (.slice ak' K.length ck') K).star ((VaultA v s').star ((Pr.pts w2.heap.size (.cells #[.int .i64 (s.floor+s.acts.length)] 3)).star ((Pr.own hp).star F))))))) _:=s3.perm (show (Pr.pts (w.heap.size+1) (.cells #[.slice ak' K.length ck',.slice none 0 0,.int .i64 c,.int .i64 V.length] 89)).star _=_ from Pr.left_comm _ _ _)
    have s5:Sat ((Pr.pts (w.heap.size+1+1) (.cells #[.int .i64 0] 25)).star ((Pr.pts (w.heap.size+1) (.cells #[.slice ak' K.length ck',.slice none 0 0,.int .i64 c,.int .i64 V.length] 89)).star ((Pr.pts w.heap.size (.cells #[.pointer (some ⟨v,0,none⟩)] 24)).star ((BytesRow (.slice ak' K.length ck') K).star ((VaultA v s').star ((Pr.pts w2.heap.size (.cells #[.int .i64 (s.floor+s.acts.length)] 3)).star ((Pr.own hp).star F))))))) _:=s4.setCell (i:=0) (.int .i64 0)
    have S5:=hQ s5;have HST4:=hQ ((((hst.setCell ⟨w.heap.size+1,0,none⟩ (.slice ak' K.length ck')).setCell ⟨w.heap.size+1,1,none⟩ (.slice none 0 0)).setCell ⟨w.heap.size+1,2,none⟩ (.int .i64 c)).setCell ⟨w.heap.size+1,3,none⟩ (.int .i64 V.length) |>.setCell ⟨w.heap.size+1+1,0,none⟩ (.int .i64 0));rw [Nat.sub_zero] at hch;clear hi hinv s3 s4 s5 hst;rw [show min V.length (480*0)=0 by omega] at*
    go_wp2;refine leaves_cons (f:=69) (args:= #[.pointer (some ⟨w.heap.size+1+1,0,none⟩),.pointer (some ⟨w.heap.size,0,none⟩),.pointer (some ⟨w2.heap.size,0,none⟩),.pointer (some ⟨w.heap.size+1,0,none⟩)]) (by simp) (by simp [go_sem]) ?_;refine(store1_ok _ _ _ _ .returning _ (by rw [cell_of_heap S5.out.pts_heap];rfl)).mono ?_;rintro e u' w'' ⟨rfl,rfl,rfl⟩
    refine⟨_,results_cell_cell rfl _ _ (w.heap.size+1) _ rfl (run_loadVar_row _ (w.heap.size+1) _ _ _ _ _ S5.out.right.pts_heap Tryz.underlying89 rfl infoItemS) (w.heap.size+1+1) (.int .i64 0) rfl ?_,HST4.out,.inl ⟨by have:=ht.many;have:=chain_len hch;omega,.slice ak' K.length ck',c,s',ns,?_⟩⟩
    · exact load_errno S5.out.pts_heap
    · refine⟨rfl,ht,hch,?_⟩
      have e3:Sat ((Pr.pts w2.heap.size (.cells #[.int .i64 (s.floor+s.acts.length)] 3)).star ((BytesRow (.slice ak' K.length ck') K).star ((VaultA v s').star ((Pr.own hp).star F)))) _:=(S5.out.right.right.right).perm (by ac_rfl);exact e3.right
  | succ j=>
    have hE:∃E:Nat,E=min V.length (480*(j+1)):=⟨_,rfl⟩;obtain⟨E,hE⟩:=hE;have hE1:480*j<E∧E≤480*j+480∧E≤V.length:=by omega
    rw [← hE];have hq:Int.tdiv ((E:Int)-1) 480=j:=by rw [Int.tdiv_eq_ediv_of_nonneg (by omega)];omega
    have hcl:(chunk V j).length=E-480*j:=by rw [chunk_len,hE];omega
    have hce:chunk V j=(V.drop (480*j)).take (E-480*j):=by
     unfold chunk;rw [List.take_eq_take_iff,List.length_drop];omega
    have hpg:PageIn hp (.agg (blobCells (.slice none 0 0) (.slice (some ⟨bv,ov+480*j,none⟩) (E-480*j) (cv-480*j)) c)) (blobV (chunk V j) c):=by
     refine⟨_,_,rfl,items_mk (Nat.zero_le _),?_⟩;show RowIn _ _ _ (chunk V j).length _
     rw [hcl,hce];exact bytes_sub HV.out (by omega) hE1.2.2
    obtain⟨okp,_,_⟩:=vault_ok hinv;have hnl:=chain_len hch;have hmn:=ht.many
    have C1:s'.pool.many 1≠0→ _:=fun hmm=>make_ok v s' hp _ _ (chunk V j) c (by omega) (chain_next hch) hpg ((Pr.pts (w.heap.size+1) (.cells #[.slice ak' K.length ck',.slice none 0 0,.int .i64 c,.int .i64 V.length] 89)).star ((Pr.pts (w.heap.size+1+1) (.cells #[.int .i64 0] 25)).star ((Pr.pts w.heap.size (.cells #[.pointer (some ⟨v,0,none⟩)] 24)).star ((BytesRow (.slice ak' K.length ck') K).star ((Pr.pts w2.heap.size (.cells #[.int .i64 (s.floor+s.acts.length)] 3)).star F))))) wr.drew (hinv.drew.perm (by ac_rfl)) (free_of_many okp hmm) (by have:=ht.pf;have:=ht.pa;omega) (by have:=ht.vf;have:=ht.va;omega)
    have C0:s'.pool.many 1=0→ _:=fun hmm=>make_full v s' hp _ _ (chunk V j) c (by omega) (chain_next hch) hpg ((Pr.pts (w.heap.size+1) (.cells #[.slice ak' K.length ck',.slice none 0 0,.int .i64 c,.int .i64 V.length] 89)).star ((Pr.pts (w.heap.size+1+1) (.cells #[.int .i64 0] 25)).star ((Pr.pts w.heap.size (.cells #[.pointer (some ⟨v,0,none⟩)] 24)).star ((BytesRow (.slice ak' K.length ck') K).star ((Pr.pts w2.heap.size (.cells #[.int .i64 (s.floor+s.acts.length)] 3)).star F))))) wr.drew (hinv.drew.perm (by ac_rfl)) (none_free okp hmm) (by have:=ht.pf;have:=ht.pa;omega)
    have HC1:=hQ C1;have HC0:=hQ C0;have hlt:s'.pool.many 1=0→s.pool.many 1<chunks V:=fun hmm=>by omega
    have HLT:=hQ hlt;have HOK:=hQ okp;clear C1 C0 hlt okp hpg hcl hce hnl hmn;have HIN:=hQ hinv;have HCH:=hQ hch;have HT:=hQ ht;have HTE:=hQ hE;clear hinv hch ht hE;obtain⟨B,hB⟩:∃B:Nat,B=480*j:=⟨_,rfl⟩;go_wp2;rw [show (j:Int)*480=(B:Int) by omega];rw [← hB] at hE1;have HB:=hQ hB;clear hB;have hne:¬cv=B:=by omega
    have hEc:E≤cv:=by omega
    have hBE:B≤E:=by omega
    refine wS 68 [0,1,2,3,4,5,6,7] [(8,[9,10,11,12],[1,2,3,4,5,6]),(13,[],[11]),(14,[],[])] ?_;iterate 8 (refine wpQ_step rfl rfl (fun K hK=> ?_);go_simp;refine hK _ ?_;clear hK K)
    refine wpQ_nil ?_;refine wpRest_act rfl ?_;go_wp2_with fail
    by_cases hmm:s'.pool.many 1=0
    · have HC2:=HC0.out hmm
      rw [← HB.out] at HC2;refine HC2.mono ?_;rintro e w3 ⟨hst3,rfl,h6⟩
      have h7:Sat ((Pr.pts (w.heap.size+1) (.cells #[.slice ak' K.length ck',.slice none 0 0,.int .i64 c,.int .i64 V.length] 89)).star ((Pr.pts (w.heap.size+1+1) (.cells #[.int .i64 0] 25)).star ((Pr.pts w.heap.size (.cells #[.pointer (some ⟨v,0,none⟩)] 24)).star ((BytesRow (.slice ak' K.length ck') K).star ((VaultA v s').star ((Pr.pts w2.heap.size (.cells #[.int .i64 (s.floor+s.acts.length)] 3)).star ((Pr.own hp).star F))))))) w3:=h6.perm (show (VaultA v s').star _=_ from by ac_rfl)
      have g0:w3.cell? ⟨w.heap.size,0,none⟩=some (.pointer (some ⟨v,0,none⟩)):=by rw [cell_of_heap h7.right.right.pts_heap];rfl
      have g2:w3.cell? ⟨w.heap.size+1,2,none⟩=some (.int .i64 c):=by rw [cell_of_heap h7.pts_heap];rfl
      have ge:w3.cell? ⟨w.heap.size+1+1,0,none⟩=some (.int .i64 0):=by rw [cell_of_heap h7.right.pts_heap];rfl
      have y2:=frozen_of_heap h7.pts_heap 2;have ye:=frozen_of_heap h7.right.pts_heap 0
      have s8:Sat ((Pr.pts (w.heap.size+1+1) (.cells #[.int .i64 0] 25)).star ((Pr.pts (w.heap.size+1) (.cells #[.slice ak' K.length ck',.slice none 0 0,.int .i64 0,.int .i64 V.length] 89)).star ((Pr.pts w.heap.size (.cells #[.pointer (some ⟨v,0,none⟩)] 24)).star ((BytesRow (.slice ak' K.length ck') K).star ((VaultA v s').star ((Pr.pts w2.heap.size (.cells #[.int .i64 (s.floor+s.acts.length)] 3)).star ((Pr.own hp).star F))))))) _:=(h7.setCell (i:=2) (.int .i64 0)).perm (show (Pr.pts (w.heap.size+1) (.cells #[.slice ak' K.length ck',.slice none 0 0,.int .i64 0,.int .i64 V.length] 89)).star _=_ from Pr.left_comm _ _ _)
      have s9:Sat ((Pr.pts (w.heap.size+1+1) (.cells #[.int .i64 12] 25)).star ((Pr.pts (w.heap.size+1) (.cells #[.slice ak' K.length ck',.slice none 0 0,.int .i64 0,.int .i64 V.length] 89)).star ((Pr.pts w.heap.size (.cells #[.pointer (some ⟨v,0,none⟩)] 24)).star ((BytesRow (.slice ak' K.length ck') K).star ((VaultA v s').star ((Pr.pts w2.heap.size (.cells #[.int .i64 (s.floor+s.acts.length)] 3)).star ((Pr.own hp).star F))))))) ((w3.setCell ⟨w.heap.size+1,2,none⟩ (.int .i64 0)).setCell ⟨w.heap.size+1+1,0,none⟩ (.int .i64 12)):=s8.setCell (i:=0) (.int .i64 12)
      have S9:=hQ s9;have HST5:=hQ ((hst.drew.trans hst3).setCell ⟨w.heap.size+1,2,none⟩ (.int .i64 0) |>.setCell ⟨w.heap.size+1+1,0,none⟩ (.int .i64 12));have HLT2:=hQ (HLT.out hmm);clear h6 h7 s8 s9 hst3 HC0 HC1 HC2 HLT hmm;go_wp2;refine onN_mk ?_;iterate 4 (refine wpQ_step rfl rfl (fun K hK=> ?_);go_simp;refine hK _ ?_;clear hK K)
      refine wpQ_nil ⟨?_,?_⟩
      · refine chk_cons ?_ (chk_cons ?_ (chk_cons ?_ (chk_cons ?_ (chk_cons ?_ (chk_cons ?_ chk_nil)))))<;>(refine yieldF_of rfl rfl rfl rfl ?_;go_simp;try omega)
      refine wpRest_act rfl ?_;go_wp2;refine onN_mk (wpQ_nil ⟨?_,?_⟩)
      · refine chk_cons ?_ chk_nil<;>(refine yieldF_of rfl rfl rfl rfl ?_;go_simp;try omega)
      refine wpRest_act rfl ?_;go_wp2;refine onN_mk (wpQ_nil ⟨chk_nil,wpRest_nil ?_⟩);generalize ((w3.setCell ⟨w.heap.size+1,2,none⟩ (.int .i64 0)).setCell ⟨w.heap.size+1+1,0,none⟩ (.int .i64 12))=w5 at*;have i0:w5.cell? ⟨w.heap.size+1,0,none⟩=some (.slice ak' K.length ck'):=by rw [cell_of_heap S9.out.right.pts_heap];rfl
      have i1:w5.cell? ⟨w.heap.size+1,1,none⟩=some (.slice none 0 0):=by rw [cell_of_heap S9.out.right.pts_heap];rfl
      have i2:w5.cell? ⟨w.heap.size+1,2,none⟩=some (.int .i64 0):=by rw [cell_of_heap S9.out.right.pts_heap];rfl
      have i3:w5.cell? ⟨w.heap.size+1,3,none⟩=some (.int .i64 V.length):=by rw [cell_of_heap S9.out.right.pts_heap];rfl
      have ie:w5.cell? ⟨w.heap.size+1+1,0,none⟩=some (.int .i64 12):=by rw [cell_of_heap S9.out.pts_heap];rfl
      have x0:=frozen_of_heap S9.out.right.pts_heap 0;have x1:=frozen_of_heap S9.out.right.pts_heap 1;have x2:=frozen_of_heap S9.out.right.pts_heap 2;have x3:=frozen_of_heap S9.out.right.pts_heap 3;have xe:=frozen_of_heap S9.out.pts_heap 0;clear g0 g2 ge y2 ye f0 f1 f2 f3 e0 b0;go_wp2;refine wS 68 [0,1] [(2,[],[1]),(3,[],[])] ?_
      iterate 2 (refine wpQ_step rfl rfl (fun K hK=> ?_);go_simp;refine hK _ ?_;clear hK K)
      refine wpQ_nil ?_;refine wpRest_act rfl ?_;go_wp2;refine onN_mk (wpQ_nil ⟨?_,?_⟩)
      · refine chk_cons ?_ chk_nil<;>(refine yieldF_of rfl rfl rfl rfl ?_;go_simp;try omega)
      refine wpRest_act rfl ?_;go_wp2;refine onN_mk (wpQ_nil ⟨chk_nil,wpRest_nil ?_⟩);have t3:=((((S9.out.drew.perm (Pr.left_comm _ _ _)).setCell (i:=0) (.slice ak' K.length ck')).setCell (i:=1) (.slice none 0 0)).setCell (i:=2) (.int .i64 0)).setCell (i:=3) (.int .i64 V.length)
      have t4:Sat ((Pr.pts (w.heap.size+1+1) (.cells #[.int .i64 12] 25)).star ((Pr.pts (w.heap.size+1) (.cells #[.slice ak' K.length ck',.slice none 0 0,.int .i64 0,.int .i64 V.length] 89)).star ((Pr.pts w.heap.size (.cells #[.pointer (some ⟨v,0,none⟩)] 24)).star ((BytesRow (.slice ak' K.length ck') K).star ((VaultA v s').star ((Pr.pts w2.heap.size (.cells #[.int .i64 (s.floor+s.acts.length)] 3)).star ((Pr.own hp).star F))))))) _:=t3.perm (show (Pr.pts (w.heap.size+1) (.cells #[.slice ak' K.length ck',.slice none 0 0,.int .i64 0,.int .i64 V.length] 89)).star _=_ from Pr.left_comm _ _ _)
      have t5:Sat ((Pr.pts (w.heap.size+1+1) (.cells #[.int .i64 12] 25)).star ((Pr.pts (w.heap.size+1) (.cells #[.slice ak' K.length ck',.slice none 0 0,.int .i64 0,.int .i64 V.length] 89)).star ((Pr.pts w.heap.size (.cells #[.pointer (some ⟨v,0,none⟩)] 24)).star ((BytesRow (.slice ak' K.length ck') K).star ((VaultA v s').star ((Pr.pts w2.heap.size (.cells #[.int .i64 (s.floor+s.acts.length)] 3)).star ((Pr.own hp).star F))))))) _:=t4.setCell (i:=0) (.int .i64 12)
      have t6:Sat ((VaultA v s').star ((Pr.pts (w.heap.size+1) (.cells #[.slice ak' K.length ck',.slice none 0 0,.int .i64 0,.int .i64 V.length] 89)).star ((Pr.pts (w.heap.size+1+1) (.cells #[.int .i64 12] 25)).star ((Pr.pts w.heap.size (.cells #[.pointer (some ⟨v,0,none⟩)] 24)).star ((Pr.pts w2.heap.size (.cells #[.int .i64 (s.floor+s.acts.length)] 3)).star ((BytesRow (.slice ak' K.length ck') K).star ((Pr.own hp).star F))))))) _:=t5.perm (by ac_rfl)
      have HST6:=hQ (((((HST5.out.drew.setCell ⟨w.heap.size+1,0,none⟩ (.slice ak' K.length ck')).setCell ⟨w.heap.size+1,1,none⟩ (.slice none 0 0)).setCell ⟨w.heap.size+1,2,none⟩ (.int .i64 0)).setCell ⟨w.heap.size+1,3,none⟩ (.int .i64 V.length)).setCell ⟨w.heap.size+1+1,0,none⟩ (.int .i64 12));have T6:=hQ t6;clear t3 t4 t5 t6 S9 HST5 i0 i1 i2 i3 ie x0 x1 x2 x3 xe;go_wp2
      have HD:=hQ (store1_err (w.heap.size+1+1) w.heap.size w2.heap.size (w.heap.size+1) v s s' _ _ 0 V.length HT.out.steps hbare ak' K.length ck' rfl rfl .returning ((BytesRow (.slice ak' K.length ck') K).star ((Pr.own hp).star F)) _ T6.out)
      refine leaves_cons (f:=69) (args:= #[.pointer (some ⟨w.heap.size+1+1,0,none⟩),.pointer (some ⟨w.heap.size,0,none⟩),.pointer (some ⟨w2.heap.size,0,none⟩),.pointer (some ⟨w.heap.size+1,0,none⟩)]) (by simp) (by simp [go_sem]) ?_;refine HD.out.mono ?_;rintro e u' w'' ⟨rfl,rfl,hst6,h8⟩
      have l1:=run_loadVar_row (P:=Tryz.prog) w'' (w.heap.size+1) _ _ _ _ _ h8.pts_heap Tryz.underlying89 rfl infoItemS;have l2:=load_errno h8.right.pts_heap;have h9:Sat ((BytesRow (.slice ak' K.length ck') K).star ((VaultA v s).star ((Pr.own hp).star F))) w'':=h8.right.right.perm (Pr.left_comm _ _ _)
      exact⟨_,results_cell_cell rfl _ _ (w.heap.size+1) _ rfl l1 (w.heap.size+1+1) (.int .i64 12) rfl l2,HST6.out.trans hst6,.inr ⟨HLT2.out,rfl,h9.right⟩⟩
    have HC2:=HC1.out hmm;rw [← HB.out] at HC2;refine HC2.mono ?_;rintro e w3 ⟨hst3,n,rfl,⟨hn,hle⟩,h6⟩
    have h7:Sat ((Pr.pts (w.heap.size+1) (.cells #[.slice ak' K.length ck',.slice none 0 0,.int .i64 c,.int .i64 V.length] 89)).star ((Pr.pts (w.heap.size+1+1) (.cells #[.int .i64 0] 25)).star ((Pr.pts w.heap.size (.cells #[.pointer (some ⟨v,0,none⟩)] 24)).star ((BytesRow (.slice ak' K.length ck') K).star ((VaultA v (s'.make n (blobV (chunk V j) c))).star ((Pr.pts w2.heap.size (.cells #[.int .i64 (s.floor+s.acts.length)] 3)).star ((Pr.own hp).star F))))))) w3:=h6.perm (show (VaultA v (s'.make n (blobV (chunk V j) c))).star _=_ from by ac_rfl)
    have g0:w3.cell? ⟨w.heap.size,0,none⟩=some (.pointer (some ⟨v,0,none⟩)):=by rw [cell_of_heap h7.right.right.pts_heap];rfl
    have g2:w3.cell? ⟨w.heap.size+1,2,none⟩=some (.int .i64 c):=by rw [cell_of_heap h7.pts_heap];rfl
    have ge:w3.cell? ⟨w.heap.size+1+1,0,none⟩=some (.int .i64 0):=by rw [cell_of_heap h7.right.pts_heap];rfl
    have y2:=frozen_of_heap h7.pts_heap 2;have ye:=frozen_of_heap h7.right.pts_heap 0
    have s8:Sat ((Pr.pts (w.heap.size+1+1) (.cells #[.int .i64 0] 25)).star ((Pr.pts (w.heap.size+1) (.cells #[.slice ak' K.length ck',.slice none 0 0,.int .i64 n,.int .i64 V.length] 89)).star ((Pr.pts w.heap.size (.cells #[.pointer (some ⟨v,0,none⟩)] 24)).star ((BytesRow (.slice ak' K.length ck') K).star ((VaultA v (s'.make n (blobV (chunk V j) c))).star ((Pr.pts w2.heap.size (.cells #[.int .i64 (s.floor+s.acts.length)] 3)).star ((Pr.own hp).star F))))))) _:=(h7.setCell (i:=2) (.int .i64 n)).perm (show (Pr.pts (w.heap.size+1) (.cells #[.slice ak' K.length ck',.slice none 0 0,.int .i64 n,.int .i64 V.length] 89)).star _=_ from Pr.left_comm _ _ _)
    have s9:Sat ((Pr.pts (w.heap.size+1+1) (.cells #[.int .i64 0] 25)).star ((Pr.pts (w.heap.size+1) (.cells #[.slice ak' K.length ck',.slice none 0 0,.int .i64 n,.int .i64 V.length] 89)).star ((Pr.pts w.heap.size (.cells #[.pointer (some ⟨v,0,none⟩)] 24)).star ((BytesRow (.slice ak' K.length ck') K).star ((VaultA v (s'.make n (blobV (chunk V j) c))).star ((Pr.pts w2.heap.size (.cells #[.int .i64 (s.floor+s.acts.length)] 3)).star ((Pr.own hp).star F))))))) _:=s8.setCell (i:=0) (.int .i64 0)
    have S9:=hQ s9;have HNL:=hQ (And.intro hn hle);have HST5:=hQ ((hst.drew.trans hst3).setCell ⟨w.heap.size+1,2,none⟩ (.int .i64 n) |>.setCell ⟨w.heap.size+1+1,0,none⟩ (.int .i64 0));clear h6 h7 s8 s9 hst3 hn hle HC0 HC1 HC2 HLT;go_wp2;refine onN_mk ?_;iterate 4 (refine wpQ_step rfl rfl (fun K hK=> ?_);go_simp;refine hK _ ?_;clear hK K)
    refine wpQ_nil ⟨?_,?_⟩
    · refine chk_cons ?_ (chk_cons ?_ (chk_cons ?_ (chk_cons ?_ (chk_cons ?_ (chk_cons ?_ chk_nil)))))<;>(refine yieldF_of rfl rfl rfl rfl ?_;go_simp;try omega)
    refine wpRest_act rfl ?_;go_wp2;refine onN_mk (wpQ_nil ⟨?_,?_⟩)
    · refine chk_cons ?_ chk_nil<;>(refine yieldF_of rfl rfl rfl rfl ?_;go_simp;try omega)
    refine wpRest_act rfl ?_;go_wp2;refine onN_mk (wpQ_nil ⟨chk_nil,wpRest_nil ?_⟩);go_wp2;go_roundw
    case rel=>
     have hth:=there_of_state (by have:=HNL.out.1;omega:s'.pool.state n≠0);have hb:1≤n∧n≤65536:=⟨hth.1,by have:=hth.2;have:=HOK.out.n2;omega⟩;have hch2:=chain_make HOK.out HCH.out HT.out.cnt HNL.out.1 hb;rw [show chunks V-(j+1)+1=chunks V-j by omega] at hch2
     refine⟨j,n,s'.make n (blobV (chunk V j) c),n :: ns,by omega,?_,HST5.out,HT.out.step HOK.out HNL.out.1 HNL.out.2 _,hch2,S9.out.perm (by ac_rfl)⟩;have:=HB.out
     congr 1
     omega
    case measure=>simp [intOf];omega
end Go.Proofs.YtkfjilnmnbeokaaGreat.B5
namespace Go.Cop
def VaultS.settled(s:VaultS):VaultS:= { pool:=s.pool.settled,on:=fun m=>if s.pool.state m=2 then none else s.on m,acts:= [],floor:=s.floor+s.acts.length }
end Go.Cop
namespace Go.Proofs.YtkfjilnmnbeokaaGreat.C5
open ChangeShapes WideShapes ChangeAt RowKit Sl Cop Go.Shelf D2 D3 J3 M3 V3 G2 J2 X3 Y3 E4 G4 M4 N4 F4
attribute [local go_sem] Oper.semAt_some
def gone(f:Int→Option Value)(l:List Int):Int→Option Value:=fun m=>if m∈l then none else f m
end Go.Proofs.YtkfjilnmnbeokaaGreat.C5
namespace Go.Proofs.YtkfjilnmnbeokaaGreat.F5
open ChangeShapes WideShapes ChangeAt RowKit Sl Cop D2 D3 J3 V3 G2 J2 X3 Y3 E4 G4 L4 M4 N4 B5
theorem store_val(v:Nat)(kv vv:Value)(hp:Hp)(K V:List Int)(hK:Bytes hp kv K)(hV:Bytes hp vv V)(hk:1≤K.length∧K.length≤24)(hv:3840<V.length)(w:World):
 Calls Tryz.prog 36 #[.pointer (some ⟨v,0,none⟩),kv,vv] w fun e w'=>e= .returned (.tuple #[zeroItem,.int .i64 8])∧Only w w':=by
 obtain⟨_,ak,ck,rfl,_⟩:=id hK;obtain⟨_,av,cv,rfl,_,_,_⟩:=id hV;have es:(w.alloc (.cells #[.pointer (some ⟨v,0,none⟩)] 24)).heap.size=w.heap.size+1:=by simp
 have es2:((w.alloc (.cells #[.pointer (some ⟨v,0,none⟩)] 24)).alloc (.cells #[.slice none 0 0,.slice none 0 0,.int .i64 0,.int .i64 0] 89)).heap.size=w.heap.size+1+1:=by simp
 have h1:=(((sat_emp w).alloc (.cells #[.pointer (some ⟨v,0,none⟩)] 24)).alloc (.cells #[.slice none 0 0,.slice none 0 0,.int .i64 0,.int .i64 0] 89)).alloc (.cells #[.int .i64 8] 25);rw [es2,es] at h1;have HO:=hQ ((((Only.refl w).alloc (.cells #[.pointer (some ⟨v,0,none⟩)] 24)).alloc (.cells #[.slice none 0 0,.slice none 0 0,.int .i64 0,.int .i64 0] 89)).alloc (.cells #[.int .i64 8] 25))
 have H1:=hQ h1;clear h1 es es2 hK hV;go_enter Tryz.func36,Tryz.ntmps36
 go_wp2;have h2:=H1.out.perm (Pr.left_comm _ _ _);refine bodyPost_ret (results_cell_cell rfl _ _ (w.heap.size+1) _ rfl (run_loadVar_row _ (w.heap.size+1) _ _ _ _ _ h2.pts_heap Tryz.underlying89 rfl infoItemS) (w.heap.size+1+1) (.int .i64 8) rfl (load_errno H1.out.pts_heap)) rfl ?_;exact⟨rfl,HO.out⟩
theorem store_short_row(v:Nat)(kv vv:Value)(hp:Hp)(K V:List Int)(hK:Bytes hp kv K)(hV:Bytes hp vv V)(hk:1≤K.length∧K.length≤24)(hv:V.length≤32)(F:Pr)(w:World)(hF:Sat ((Pr.own hp).star F) w):
 Calls Tryz.prog 36 #[.pointer (some ⟨v,0,none⟩),kv,vv] w fun e w'=>Stays w w'∧∃kv' vv',e= .returned (.tuple #[.agg #[kv',vv',.int .i64 0,.int .i64 V.length],.int .i64 0])∧
  Sat ((BytesRow kv' K).star ((BytesRow vv' V).star ((Pr.own hp).star F))) w':=by
 obtain⟨_,ak,ck,rfl,_⟩:=id hK;obtain⟨_,av,cv,rfl,_,_,_⟩:=id hV;have es:(w.alloc (.cells #[.pointer (some ⟨v,0,none⟩)] 24)).heap.size=w.heap.size+1:=by simp
 have es2:((w.alloc (.cells #[.pointer (some ⟨v,0,none⟩)] 24)).alloc (.cells #[.slice none 0 0,.slice none 0 0,.int .i64 0,.int .i64 0] 89)).heap.size=w.heap.size+1+1:=by simp
 have h1:=((hF.alloc (.cells #[.pointer (some ⟨v,0,none⟩)] 24)).alloc (.cells #[.slice none 0 0,.slice none 0 0,.int .i64 0,.int .i64 0] 89)).alloc (.cells #[.int .i64 0] 25);rw [es2,es] at h1
 have hle:=(h1.perm (B:=(Pr.own hp).star ((Pr.pts (w.heap.size+1+1) (.cells #[.int .i64 0] 25)).star ((Pr.pts (w.heap.size+1) (.cells #[.slice none 0 0,.slice none 0 0,.int .i64 0,.int .i64 0] 89)).star ((Pr.pts w.heap.size (.cells #[.pointer (some ⟨v,0,none⟩)] 24)).star F)))) (by ac_rfl)).own;have C:=hQ (bclone_any hp _ K _ _ h1 hle hK (by omega))
 have HST:=hQ ((((Stays.refl w).alloc (.cells #[.pointer (some ⟨v,0,none⟩)] 24)).alloc (.cells #[.slice none 0 0,.slice none 0 0,.int .i64 0,.int .i64 0] 89)).alloc (.cells #[.int .i64 0] 25));have HV:=hQ hV;clear h1 hle hF es es2 hK hV;go_enter Tryz.func36,Tryz.ntmps36
 go_wp2_with fail
 refine C.out.mono ?_;rintro e w1 ⟨kv',rfl,h1,hst⟩;obtain⟨ak',ck',ek,_,_⟩:=Row.read h1;subst ek
 have h2:Sat ((Pr.pts (w.heap.size+1) (.cells #[.slice none 0 0,.slice none 0 0,.int .i64 0,.int .i64 0] 89)).star ((BytesRow (.slice ak' K.length ck') K).star ((Pr.pts (w.heap.size+1+1) (.cells #[.int .i64 0] 25)).star ((Pr.pts w.heap.size (.cells #[.pointer (some ⟨v,0,none⟩)] 24)).star ((Pr.own hp).star F))))) w1:=h1.perm (by ac_rfl)
 have f0:w1.cell? ⟨w.heap.size+1,0,none⟩=some (.slice none 0 0):=by rw [cell_of_heap h2.pts_heap];rfl
 have f1:w1.cell? ⟨w.heap.size+1,1,none⟩=some (.slice none 0 0):=by rw [cell_of_heap h2.pts_heap];rfl
 have f2:w1.cell? ⟨w.heap.size+1,2,none⟩=some (.int .i64 0):=by rw [cell_of_heap h2.pts_heap];rfl
 have f3:w1.cell? ⟨w.heap.size+1,3,none⟩=some (.int .i64 0):=by rw [cell_of_heap h2.pts_heap];rfl
 have z0:=frozen_of_heap h2.pts_heap 0;have z1:=frozen_of_heap h2.pts_heap 1;have z2:=frozen_of_heap h2.pts_heap 2;have z3:=frozen_of_heap h2.pts_heap 3
 have s3:Sat ((Pr.pts (w.heap.size+1) (.cells #[.slice ak' K.length ck',.slice none 0 0,.int .i64 0,.int .i64 V.length] 89)).star ((BytesRow (.slice ak' K.length ck') K).star ((Pr.pts (w.heap.size+1+1) (.cells #[.int .i64 0] 25)).star ((Pr.pts w.heap.size (.cells #[.pointer (some ⟨v,0,none⟩)] 24)).star ((Pr.own hp).star F))))) _:=(((h2.setCell (i:=0) (.slice ak' K.length ck')).setCell (i:=1) (.slice none 0 0)).setCell (i:=2) (.int .i64 0)).setCell (i:=3) (.int .i64 V.length)
 have hle2:=s3.right.right.right.right.own;have D:=hQ (bclone_any hp _ V _ _ s3 hle2 HV.out (by omega));have HST2:=hQ ((((HST.out.trans hst).setCell ⟨w.heap.size+1,0,none⟩ (.slice ak' K.length ck')).setCell ⟨w.heap.size+1,1,none⟩ (.slice none 0 0)).setCell ⟨w.heap.size+1,2,none⟩ (.int .i64 0) |>.setCell ⟨w.heap.size+1,3,none⟩ (.int .i64 V.length));clear h1 h2 s3 hle2 hst HST C;go_wp2_with fail
 refine D.out.mono ?_;rintro e w2 ⟨vv',rfl,h4,hst2⟩;obtain⟨av',cv',ev,_,_⟩:=Row.read h4;subst ev
 have h5:Sat ((Pr.pts (w.heap.size+1) (.cells #[.slice ak' K.length ck',.slice none 0 0,.int .i64 0,.int .i64 V.length] 89)).star ((Pr.pts (w.heap.size+1+1) (.cells #[.int .i64 0] 25)).star ((BytesRow (.slice ak' K.length ck') K).star ((BytesRow (.slice av' V.length cv') V).star ((Pr.pts w.heap.size (.cells #[.pointer (some ⟨v,0,none⟩)] 24)).star ((Pr.own hp).star F)))))) w2:=h4.perm (by ac_rfl)
 have g0:w2.cell? ⟨w.heap.size+1,0,none⟩=some (.slice ak' K.length ck'):=by rw [cell_of_heap h5.pts_heap];rfl
 have g1:w2.cell? ⟨w.heap.size+1,1,none⟩=some (.slice none 0 0):=by rw [cell_of_heap h5.pts_heap];rfl
 have g2:w2.cell? ⟨w.heap.size+1,2,none⟩=some (.int .i64 0):=by rw [cell_of_heap h5.pts_heap];rfl
 have g3:w2.cell? ⟨w.heap.size+1,3,none⟩=some (.int .i64 V.length):=by rw [cell_of_heap h5.pts_heap];rfl
 have ge:w2.cell? ⟨w.heap.size+1+1,0,none⟩=some (.int .i64 0):=by rw [cell_of_heap h5.right.pts_heap];rfl
 have y0:=frozen_of_heap h5.pts_heap 0;have y1:=frozen_of_heap h5.pts_heap 1;have y2:=frozen_of_heap h5.pts_heap 2;have y3:=frozen_of_heap h5.pts_heap 3;have ye:=frozen_of_heap h5.right.pts_heap 0
 have s6:Sat ((Pr.pts (w.heap.size+1) (.cells #[.slice ak' K.length ck',.slice av' V.length cv',.int .i64 0,.int .i64 V.length] 89)).star ((Pr.pts (w.heap.size+1+1) (.cells #[.int .i64 0] 25)).star ((BytesRow (.slice ak' K.length ck') K).star ((BytesRow (.slice av' V.length cv') V).star ((Pr.pts w.heap.size (.cells #[.pointer (some ⟨v,0,none⟩)] 24)).star ((Pr.own hp).star F)))))) _:=((((h5.setCell (i:=1) (.slice av' V.length cv')).setCell (i:=0) (.slice ak' K.length ck')).setCell (i:=1) (.slice av' V.length cv')).setCell (i:=2) (.int .i64 0)).setCell (i:=3) (.int .i64 V.length)
 have s7:Sat ((Pr.pts (w.heap.size+1+1) (.cells #[.int .i64 0] 25)).star ((Pr.pts (w.heap.size+1) (.cells #[.slice ak' K.length ck',.slice av' V.length cv',.int .i64 0,.int .i64 V.length] 89)).star ((BytesRow (.slice ak' K.length ck') K).star ((BytesRow (.slice av' V.length cv') V).star ((Pr.pts w.heap.size (.cells #[.pointer (some ⟨v,0,none⟩)] 24)).star ((Pr.own hp).star F)))))) _:=(s6.perm (Pr.left_comm _ _ _)).setCell (i:=0) (.int .i64 0)
 have S7:=hQ s7;have HST3:=hQ ((HST2.out.trans hst2).setCell ⟨w.heap.size+1,1,none⟩ (.slice av' V.length cv') |>.setCell ⟨w.heap.size+1,0,none⟩ (.slice ak' K.length ck') |>.setCell ⟨w.heap.size+1,1,none⟩ (.slice av' V.length cv') |>.setCell ⟨w.heap.size+1,2,none⟩ (.int .i64 0) |>.setCell ⟨w.heap.size+1,3,none⟩ (.int .i64 V.length) |>.setCell ⟨w.heap.size+1+1,0,none⟩ (.int .i64 0))
 clear h4 h5 s6 s7 hst2 HST2 D f0 f1 f2 f3 z0 z1 z2 z3;go_wp2;have l1:=run_loadVar_row (P:=Tryz.prog) _ (w.heap.size+1) _ _ _ _ _ S7.out.right.pts_heap Tryz.underlying89 rfl infoItemS;refine bodyPost_ret (results_cell_cell rfl _ _ (w.heap.size+1) _ rfl l1 (w.heap.size+1+1) (.int .i64 0) rfl (load_errno S7.out.pts_heap)) rfl ?_
 have s8:Sat ((Pr.pts w.heap.size (.cells #[.pointer (some ⟨v,0,none⟩)] 24)).star ((BytesRow (.slice ak' K.length ck') K).star ((BytesRow (.slice av' V.length cv') V).star ((Pr.own hp).star F)))) _:=S7.out.right.right.perm (by ac_rfl);exact⟨HST3.out,_,_,rfl,s8.right⟩
end Go.Proofs.YtkfjilnmnbeokaaGreat.F5
