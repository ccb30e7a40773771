/- The program's check of a value's page, and of any page; the conditions stand as hypotheses. -/
import Derived.Test.YtiegeadmgpanoaaGreatDoorL21
import Derived.Test.YtiegeadmgpanoaaGreatDoorL23
set_option maxRecDepth 100000
set_option maxHeartbeats 16000000
namespace Go.Proofs.YtiegeadmgpanoaaGreatDoor.U6
open ChangeShapes WideShapes ChangeAt RowKit Sl fB D2 Z3 E4
theorem OE {nx:Int}(hn:¬nx=0):kj 0 (decide (1≤nx) && decide (nx≤65536)) 15=if mQ nx then 0 else 15:=by
 have e1:mQ nx=(decide (1≤nx) && decide (nx≤65536)):=by unfold mQ xr;rw [decide_eq_false hn,Bool.false_or,Bool.decide_and]
 rw [e1];unfold kj;rfl
theorem Ju(a ad:Option Addr)(c d cd:Nat)(nx:Int)(hd:1≤d∧d≤480)(F:Pr)(w:World)(hF:Sat F w):
 Calls Tryz.prog 69 #[fX 3 0 (.slice a 0 c) (.slice ad d cd) nx] w fun e w'=>e= .returned (.int .i64 (if mQ nx then 0 else 15))∧Sat F w'∧dN w w':=by
 have hf:iR 3 0 0 d nx=true:=by unfold iR;rw [if_neg (by decide),if_neg (by decide),decide_eq_true_eq];exact⟨rfl,rfl,hd⟩
 have h0:=pC (k:=3) (l:=0) (vi:= .slice a 0 c) (vd:= .slice ad d cd) (nx:=nx) hF;have H0:=hQ h0;have eR:=hQ (((dN.refl w).alloc (.cells #[.int .i64 3,.int .i64 0,.slice a 0 c,.slice ad d cd,.int .i64 nx] 83)).alloc (.cells #[.int .i64 0] 32));clear h0 hF;obtain⟨R,hR⟩:∃R:Int,R=(if mQ nx then 0 else 15):=⟨_,rfl⟩;rw [← hR];have HR:=hQ hR;clear hR;go_enter Tryz.func69,Tryz.ntmps69
 go_wp2_with fail
 refine(fu 0 22 true _ _ _ H0.af).mono ?_;rintro e w1 ⟨rfl,hs1,fN⟩;obtain⟨q0,q1,q2,q3,q4,q5,z0,z1⟩:=fG (f:=kj 0 true 22) hs1;go_wp2_with fail
 refine(pg a ad 0 c d cd 3 0 nx _).mono ?_;rintro e w2 ⟨rfl,ho⟩;rw [hf];go_wp2_with fail
 refine(fu _ 5 _ _ _ _ (hs1.only ho)).mono ?_;rintro e w3 ⟨rfl,fP,mF⟩;have gg:=hQ (eR.af.trans (fN.trans (ho.st.trans mF)));have xU:Sat (oy (w.heap.size+1) w.heap.size 0 3 0 (.slice a 0 c) (.slice ad d cd) nx F) w3:=fP;clear q0 q1 q2 q3 q4 q5 z0 z1 hs1 fP fN ho mF eR H0;obtain⟨q0,q1,q2,q3,q4,q5,z0,z1⟩:=fG xU;have H3:=hQ xU;clear xU;go_wp2_with fail
 go_loopw [30] (fun i wr=>i= .int .i64 0∧wr=w3) (fun _ _=>0)
 case atStart=>exact⟨rfl,rfl⟩
 case round=>
  obtain⟨rfl,rfl⟩:=hrel;by_cases hn:nx=0
  · subst hn
    go_wp2_with fail
    refine(fu _ 15 true _ _ _ H3.af).mono ?_;rintro e w4 ⟨rfl,fp,nz⟩;obtain⟨Sc,_⟩:=fG (f:=0) fp;go_wp2;go_ret;exact⟨(by rw [HR.af];rfl),fp.right.right,gg.af.trans nz⟩
  · have hn0:(nx == 0)=false:=by rw [beq_eq_false_iff_ne];exact hn
    go_wp2_with fail
    refine(mO _ _).mono ?_;rintro e w5 ⟨rfl,rfl⟩;go_wp2_with fail
    refine(fu _ 15 _ _ _ _ H3.af).mono ?_;rintro e w4 ⟨rfl,fp,nz⟩;obtain⟨Sc,_⟩:=fG fp;go_wp2;go_ret;exact⟨(show Ending.returned (Value.int .i64 (kj 0 (decide (1≤nx) && decide (nx≤65536)) 15))=_ from by rw [HR.af,OE hn]),fp.right.right,gg.af.trans nz⟩
theorem rR(g:dR)(h:Hp)(pv:Value)(hp:fV h pv g)(hu:∀x∈g.items,U8 x.key)(F:Pr)(w:World)(hF:Sat ((Pr.own h).star F) w):
 Calls Tryz.prog 69 #[pv] w fun e w'=>e= .returned (.int .i64 (iU g))∧Sat ((Pr.own h).star F) w'∧dN w w':=by
 obtain⟨vi,vd,rfl,hi,hd⟩:=hp;obtain⟨ai,ci,rfl,_,_⟩:=fL hi;obtain⟨ad,cd,rfl⟩:=eB hd;unfold iU;by_cases hk:1≤g.kind∧g.kind≤3
 · rw [if_neg (by unfold Go.fB.kindOk;rw [decide_eq_true hk];simp)]
   cases hf:iR g.kind g.level g.items.length g.data.length g.next with
   | false=>
     rw [if_pos rfl];exact FN _ _ _ _ _ _ _ _ _ hk hf _ _ hF
   | true=>
     rw [if_neg (by decide)];obtain⟨k,l,its,da,nx⟩:=g;dsimp only at*;have hk3:k=1∨k=2∨k=3:=by omega
     rcases hk3 with rfl | rfl | rfl
     · exact FU h _ _ _ _ _ _ _ _ hi hu hf _ _ hF
     · exact Dc h _ _ _ _ _ _ _ _ hi hu hf _ _ hF
     · unfold iR at hf
       rw [if_neg (by decide),if_neg (by decide),decide_eq_true_eq] at hf;obtain⟨rfl,h2,h3⟩:=hf;have:its= []:=aM h2
       subst this;exact Ju _ _ _ _ _ _ h3 _ _ hF
 · rw [if_pos (by unfold Go.fB.kindOk;exact decide_eq_false hk)]
   exact FM _ _ _ _ _ _ _ _ _ hk _ _ hF
end Go.Proofs.YtiegeadmgpanoaaGreatDoor.U6
namespace Go.Proofs.YtiegeadmgpanoaaGreatDoor.D2
open ChangeShapes WideShapes ChangeAt RowKit Sl fB L3 Z3 E4 U6
abbrev lN(refs:Int)(cs:List Int)(on:Int→Option dR):eC:=⟨fA refs cs 0,on,[],0⟩
abbrev jz(p mb:Nat):Obj:= .cells #[.pointer (some ⟨p,0,none⟩),.map (some mb),.slice none 0 0,.int .i64 0] 108
abbrev pG(x:mG)(vi vd:Value):Obj:= .cells #[.int .i64 x.no,.int .i64 x.page.kind,.int .i64 x.page.level,vi,vd,.int .i64 x.page.next] 91
theorem OG {b T:Nat}{v0 v1 v2 v3 v4 v5:Value}{F:Pr}{w:World}(h:Sat ((Pr.pts b (.cells #[v0,v1,v2,v3,v4,v5] T)).star F) w):
 w.cell? ⟨b,0,none⟩=some v0∧w.cell? ⟨b,1,none⟩=some v1∧w.cell? ⟨b,2,none⟩=some v2∧w.cell? ⟨b,3,none⟩=some v3∧w.cell? ⟨b,4,none⟩=some v4∧w.cell? ⟨b,5,none⟩=some v5∧b<w.heap.size:=by
 have h1:=h.dL;exact⟨by rw [cell_of_heap h1];rfl,by rw [cell_of_heap h1];rfl,by rw [cell_of_heap h1];rfl,by rw [cell_of_heap h1];rfl,by rw [cell_of_heap h1];rfl,by rw [cell_of_heap h1];rfl,h.lt⟩
theorem L_ {b T:Nat}{v0 v1 v2 v3:Value}{F:Pr}{w:World}(h:Sat ((Pr.pts b (.cells #[v0,v1,v2,v3] T)).star F) w):w.cell? ⟨b,0,none⟩=some v0∧w.cell? ⟨b,1,none⟩=some v1∧b<w.heap.size:=by
 have h1:=h.dL;exact⟨by rw [cell_of_heap h1];rfl,by rw [cell_of_heap h1];rfl,h.lt⟩
theorem Jv {P:Program}{ops:Array Oper}{i:Nat}{l:List Nat}{N:Act→Prop}{a:Act}{w:World}{o:Oper}{t:TypeId}{m x:Operand}{c:Bool}{v:Value}(ho:ops[i]? =some o)(hop:o.op= .lookup t m x c)(hw:Region.wanted o (yielded ops a.tmps)=true)
 (hrun:(Instr.lookup t (a.eval m) (a.eval x) c).run P w= .ok v w) (h:∀K:Act→Prop,(∀a',pO P ops l N a' w→K a')→K (a.put o.dst v)):pO P ops (i :: l) N a w:=
 Kw ho hop hw hrun (h _ fun _ h=>h)
theorem DD {P:Program}{k:TypeId}{b:Nat}{f:Int→Option Value}{F:Pr}{w:World}{ops:Array Oper}{rest:List Oper}{o:Oper}{a:Act}{Q:Exit→Act→World→Prop}(hgd:o.guard=none)(m:Operand)(t:TypeId)
 (hop:o.op= .call { callee:= .builtin .len,args:= #[m],argTypes:= #[t] })
 (hk:P.underlying k=some (.int .i64)) {e:TypeId} (ht:P.underlying t=some (.map k e)) (hm:a.eval m= .map (some b)) (h:Sat ((fD P k b f).star F) w)
 (hK:∀n:Nat,(∀H:List Int,H.Nodup→(∀m v,f m=some v→m∈H)→(n<H.length↔∃x∈H,f x=none))→∀K:Act→Prop,(∀a',wpList P ops Q rest a' w→K a')→K (a.put o.dst (.int .i64 n))):wpList P ops Q (o :: rest) a w:=
 EG hgd m t hop hk ht hm h fun n hn=>hK n hn _ fun _ h=>h
theorem vP {refs:Int}{cs:List Int}{l:List mG}(h:i7 cs.length refs=false):jw refs cs l=(1,fun _=>none):=by unfold jw;rw [if_pos h]
theorem vh {refs:Int}{cs:List Int}{l:List mG}(h:i7 cs.length refs=true)(hb:wh refs cs=true):jw refs cs l=(13,fun _=>none):=by unfold jw;rw [if_neg (by rw [h];decide),if_pos hb]
theorem Ae {refs:Int}{cs:List Int}{l:List mG}(h:i7 cs.length refs=true)(hb:wh refs cs=false):
 jw refs cs l=if(lay cs l fun _=>none).1≠0 then lay cs l fun _=>none else if lacks cs (lay cs l fun _=>none).2=true then(9,fun _=>none) else lay cs l fun _=>none:=by
 unfold jw;rw [if_neg (by rw [h];decide),if_neg (by rw [hb];decide)]
theorem Jw(refs:Int)(h:Hp)(vc vl:Value)(cs:List Int)(l:List mG)(hx:r_ h vc cs)(hl:o6 h vl l)(hu:∀x∈l,∀y∈x.page.items,U8 y.key)(hn:l.length≤9223372036854775807)(F:Pr)(w:World)(hF:Sat ((Pr.own h).star F) w):
 Calls Tryz.prog 40 #[.int .i64 refs,vc,vl] w fun e w'=>dN w w'∧
  (((jw refs cs l).1≠0∧e= .returned (.tuple #[.pointer none,.int .i64 (jw refs cs l).1])∧Sat ((Pr.own h).star F) w')∨
   ((jw refs cs l).1=0∧∃v,e= .returned (.tuple #[.pointer (some ⟨v,0,none⟩),.int .i64 0])∧Sat ((dZ v (lN refs cs (jw refs cs l).2)).star ((Pr.own h).star F)) w')):=by
 obtain⟨al,cl,rfl,rd⟩:=t_ hl;have PL:=hQ (I7 refs h vc cs hx F w hF);have RD:=hQ rd;have HU:=hQ hu;have hn0:(l.length:Int)≤9223372036854775807:=by omega
 obtain⟨_,ac,cc,rfl,_⟩:=id hx;clear rd hl hu hF hx;go_enter Tryz.func40,Tryz.ntmps40
 go_wp2_with fail
 refine PL.af.mono ?_;rintro e w1 ⟨wu,hr⟩;rcases hr with⟨hr,rfl,hs⟩ | ⟨hr,hb,rfl,hs⟩ | ⟨hr,hb,p,rfl,hs⟩
 · have HS:=hQ hs
   have HR:=hQ hr;clear hr hs;go_wp2;go_ret2;refine⟨wu,.inl ?_⟩;rw [vP HR.af];exact⟨by decide,rfl,HS.af⟩
 · have HS:=hQ hs
   have HR:=hQ hr;have HB:=hQ hb;clear hr hs hb;go_wp2;go_ret2;refine⟨wu,.inl ?_⟩;rw [vh HR.af HB.af];exact⟨by decide,rfl,HS.af⟩
 · have vC:=hQ (Ae (l:=l) hr hb)
   have xB:=hQ (vJ hr hb);have h2:=Cg (P:=Tryz.prog) (k:=3) hs;have h3:=h2.alloc (jz p w1.heap.size);rw [show (w1.alloc (.map #[] 0)).heap.size=w1.heap.size+1 by simp] at h3;have mP:=(wu.alloc (.map #[] 0)).alloc (jz p w1.heap.size)
   have hmk:∀wx:World,(Instr.makeMap 105 none).run Tryz.prog wx= .ok (.map (some wx.heap.size)) (wx.alloc (.map #[] 0)):=fun wx=>run_makeMap _ wx
   obtain⟨V,hV⟩:∃V,V=w1.heap.size+1:=⟨_,rfl⟩;obtain⟨mb,PZ⟩:∃mb,mb=w1.heap.size:=⟨_,rfl⟩;have H3:=hQ h3;have gg:=hQ mP;clear hr hb hs h2 h3 wu mP;go_wp2_with fail
   generalize (w1.alloc (.map #[] 0)).alloc (jz p w1.heap.size)=w3 at*;rw [← hV, ← PZ] at H3;rw [← hV];clear hV PZ
   go_loopw [31] (fun i wr=> ∃(k:Nat) (on:Int→Option dR) (hk:Hp) (f:Int→Option Value),k≤l.length∧i= .int .i64 k∧dN w wr∧Hid (lay cs (l.drop k) on=lay cs l fun _=>none)∧Hid (tO cs on)∧Hid (po hk f on)∧
    Sat ((Pr.pts V (jz p mb)).star ((eP p (fA refs cs 0)).star ((fD Tryz.prog 3 mb f).star ((Pr.own hk).star ((Pr.own h).star F))))) wr) (fun i _=>l.length-(intOf i).toNat)
   case atStart=>
    refine⟨0,fun _=>none,Hp.nil,fun _=>none,aG _,rfl,gg.af,hQ rfl,hQ (tO.none cs),hQ (fun n=>rfl),?_⟩;rw [oS,Pr.fK];exact H3.af.perm (by ac_rfl)
   case round=>
    obtain⟨k,on,hk,f,hkl,rfl,hst,BD,sQ,Si,hs⟩:=hrel;rcases aB k l.length with hlt | hge
    · obtain⟨b,off,ai,ci,ad,cd,rfl,oK,hcell⟩:=RD.af k hlt
      obtain⟨c0,c1,c2,c3,c4,c5⟩:=hcell wr (hs.perm (B:=(Pr.own h).star ((Pr.pts V (jz p mb)).star ((eP p (fA refs cs 0)).star ((fD Tryz.prog 3 mb f).star ((Pr.own hk).star F))))) (by ac_rfl)).own;have oG:=BD.af;rw [aQ hlt] at oG;have sS:=hQ oG;have HU2:=hQ (HU.af _ (aE hlt));clear BD oG hcell;generalize l[k]=x at*
      obtain⟨v0,v1,zv⟩:=L_ hs;have HA:=hQ ((hs.alloc (pG x (.slice ai x.page.items.length ci) (.slice ad x.page.data.length cd))).drew);have nQ:=hQ ((hst.alloc (pG x (.slice ai x.page.items.length ci) (.slice ad x.page.data.length cd))).drew)
      have CN:=hQ (pX p (fA refs cs 0) x.no _ _ (HA.af.perm (B:=(eP p (fA refs cs 0)).star ((Pr.pts wr.heap.size (pG x (.slice ai x.page.items.length ci) (.slice ad x.page.data.length cd))).star ((Pr.pts V (jz p mb)).star ((fD Tryz.prog 3 mb f).star ((Pr.own hk).star ((Pr.own h).star F)))))) (by ac_rfl)))
      rw [show (fA refs cs 0).count x.no=jH cs x.no from lr refs cs x.no] at CN;clear hs hst;go_wp2_with fail
      refine wS 82 [0,1,2,3,4,5] [(6,[7],[0,1,2,4])] ?_;refine dY _ rfl rfl ?_;simp only [pick,pQ];iterate 6 (go_big_quiet_step (fail))
      refine wpQuiet_nil ?_;refine dK rfl ?_;go_wp2_with fail
      refine CN.af.mono ?_;rintro e w4 ⟨rfl,rfl⟩;go_wp2;refine dQ ?_;refine dY _ rfl rfl ?_;simp only [pick,pQ];iterate 1 (go_big_quiet_step (fail))
      refine wpQuiet_nil ⟨?_,?_⟩
      · exact cQ
      refine dW ?_;by_cases hc0:jH cs x.no=0
      · have Wr:(jH cs x.no == 0)=true:=by rw [beq_iff_eq];exact hc0
        have HC:=hQ hc0;clear hc0;go_wp2;go_ret2;refine⟨nQ.af,.inl ?_⟩;have e:lay cs l (fun _=>none)=(15,on):=by rw [← sS.af];unfold lay;rw [if_pos HC.af]
        rw [vC.af,e,if_pos (show (15:Int)≠0 by decide)];exact⟨(show (15:Int)≠0 by decide),rfl,(HA.af.perm (B:=(Pr.pts V (jz p mb)).star ((eP p (fA refs cs 0)).star ((fD Tryz.prog 3 mb f).star ((Pr.own hk).star ((Pr.pts wr.heap.size (pG x (.slice ai x.page.items.length ci) (.slice ad x.page.data.length cd))).star ((Pr.own h).star F)))))) (by ac_rfl)).right.right.right.right.right⟩
      have Wr:(jH cs x.no == 0)=false:=by rw [beq_eq_false_iff_ne];exact hc0
      have HC:=hQ hc0;have hnb:1≤x.no∧x.no≤65536:=by have:=pY hc0;have:=xB.af.n2;dsimp only at this;omega
      have ZV:=hQ hnb;clear hc0 hnb;obtain⟨pk,pl,aj,mj,cj,ae,me,ce,px,th,TF,TG,_⟩:=xF Si.af x.no
      have LK:∀wx,Sat ((Pr.pts V (jz p mb)).star ((eP p (fA refs cs 0)).star ((fD Tryz.prog 3 mb f).star ((Pr.pts wr.heap.size (pG x (.slice ai x.page.items.length ci) (.slice ad x.page.data.length cd))).star ((Pr.own hk).star ((Pr.own h).star F)))))) wx→
       (Instr.lookup 105 (.map (some mb)) (.int .i64 x.no) true).run Tryz.prog wx= .ok (.tuple #[fX pk pl (.slice aj mj cj) (.slice ae me ce) px,.bool th]) wx:=by
       intro wx hwx
       have:=ti (P:=Tryz.prog) (k:=3) (b:=mb) (f:=f) (w:=wx) Tryz.underlying3 (t:=105) Tryz.underlying105 (nV wx) true ZV.af (hwx.perm (B:=(fD Tryz.prog 3 mb f).star ((Pr.pts V (jz p mb)).star ((eP p (fA refs cs 0)).star ((Pr.pts wr.heap.size (pG x (.slice ai x.page.items.length ci) (.slice ad x.page.data.length cd))).star ((Pr.own hk).star ((Pr.own h).star F)))))) (by ac_rfl))
       rw [TF,TG] at this;exact this
      have Iy:=hQ (HA.af.drew.perm (B:=(Pr.pts V (jz p mb)).star ((eP p (fA refs cs 0)).star ((fD Tryz.prog 3 mb f).star ((Pr.pts wr.heap.size (pG x (.slice ai x.page.items.length ci) (.slice ad x.page.data.length cd))).star ((Pr.own hk).star ((Pr.own h).star F)))))) (by ac_rfl));have qo:=hQ LK
      have Sj:=L_ (HA.af.perm (B:=(Pr.pts V (jz p mb)).star ((Pr.pts wr.heap.size (pG x (.slice ai x.page.items.length ci) (.slice ad x.page.data.length cd))).star ((eP p (fA refs cs 0)).star ((fD Tryz.prog 3 mb f).star ((Pr.own hk).star ((Pr.own h).star F)))))) (by ac_rfl))
      have ZW:=OG (HA.af.perm (B:=(Pr.pts wr.heap.size (pG x (.slice ai x.page.items.length ci) (.slice ad x.page.data.length cd))).star ((Pr.pts V (jz p mb)).star ((eP p (fA refs cs 0)).star ((fD Tryz.prog 3 mb f).star ((Pr.own hk).star ((Pr.own h).star F)))))) (by ac_rfl));clear LK CN v0 v1 zv c0 c1 c2 c3 c4 c5;obtain⟨XB,XY⟩:∃XB,XB=wr.heap.size:=⟨_,rfl⟩
      generalize (wr.alloc (pG x (.slice ai x.page.items.length ci) (.slice ad x.page.data.length cd))).drew=wA at*;rw [← XY] at ZW HA Iy qo;rw [← XY];clear XY;obtain⟨v0,v1,zv⟩:=Sj;obtain⟨c0,c1,c2,c3,c4,c5,zx⟩:=ZW;go_wp2_with fail
      refine wS 82 [0,1,2,3,4,5,6,7,8,9] [(10,[],[0,1,2,3,4,5,6,7,8,9]),(11,[12],[9])] ?_;refine ND [0,1,2,3,4,5] [6,7,8,9] ?_;refine dY _ rfl rfl ?_;simp only [pick,pQ];iterate 6 (go_big_quiet_step (fail))
      refine wpQuiet_nil ?_;refine Jv rfl rfl rfl (qo.af _ Iy.af) (fun K hK=> ?_);go_simp;refine hK _ ?_;clear hK K;refine dY _ rfl rfl ?_;simp only [pick,pQ];iterate 3 (go_big_quiet_step (fail))
      refine wpQuiet_nil ?_;refine dK rfl ?_;go_wp2;have S1:=Iy.af.alloc (dV 0 0 (.slice none 0 0) (.slice none 0 0) 0);refine dQ (dU ⟨?_,?_⟩)
      · refine NF [0,1,2,3,4,5] [6,7,8,9] ?_ (d6 (fj rfl rfl rfl rfl (zo rfl (qo.af _ S1.right))) ?_)
        all_goals
         refine GK _ rfl rfl ?_;simp only [pick,Same,pQ,and_true];repeat' (first | apply And.intro | (go_big_quiet_step (fail);exact wpQuiet_nil rfl))
      refine dK rfl ?_;go_wp2;refine dQ ?_;refine dY _ rfl rfl ?_;simp only [pick,pQ];iterate 1 (go_big_quiet_step (fail))
      refine wpQuiet_nil ⟨?_,?_⟩
      · exact cQ
      refine dW ?_;have S2:=((HA.af.alloc (dV pk pl (.slice aj mj cj) (.slice ae me ce) px)).drew).right;have T2:=(nQ.af.alloc (dV pk pl (.slice aj mj cj) (.slice ae me ce) px)).drew;generalize (wA.alloc (dV pk pl (.slice aj mj cj) (.slice ae me ce) px)).drew=w5 at*
      have H5:=hQ (show Sat ((Pr.own h).star ((Pr.pts XB (pG x (.slice ai x.page.items.length ci) (.slice ad x.page.data.length cd))).star ((Pr.pts V (jz p mb)).star ((eP p (fA refs cs 0)).star ((fD Tryz.prog 3 mb f).star ((Pr.own hk).star F)))))) w5 from S2.perm (by ac_rfl));have iM:=hQ T2;have OH:=Si.af x.no;clear S2 T2 S1 HA Iy qo nQ v0 v1 zv c0 c1 c2 c3 c4 c5 zx
      cases BE:on x.no with
      | some g=>
        rw [BE] at OH;obtain⟨_,QN,_⟩:=OH;rw [QN] at TG;have QO:th=true:=TG.symm;subst QO;go_wp2;go_ret2;refine⟨iM.af,.inl ?_⟩;have e:lay cs l (fun _=>none)=(10,on):=by rw [← sS.af];unfold lay;rw [if_neg HC.af,if_pos (by rw [BE];rfl)]
        rw [vC.af,e,if_pos (show (10:Int)≠0 by decide)];exact⟨(show (10:Int)≠0 by decide),rfl,(H5.af.perm (B:=((Pr.pts XB (pG x (.slice ai x.page.items.length ci) (.slice ad x.page.data.length cd))).star ((Pr.pts V (jz p mb)).star ((eP p (fA refs cs 0)).star ((fD Tryz.prog 3 mb f).star ((Pr.own hk).star ((Pr.own h).star F))))))) (by ac_rfl)).right.right.right.right.right⟩
      | none=>
      rw [BE] at OH;rw [OH] at TG;have QO:th=false:=TG.symm;subst QO;obtain⟨c0,c1,c2,c3,c4,c5,zx⟩:=OG (H5.af.perm (B:=((Pr.pts XB (pG x (.slice ai x.page.items.length ci) (.slice ad x.page.data.length cd))).star ((Pr.pts V (jz p mb)).star ((eP p (fA refs cs 0)).star ((fD Tryz.prog 3 mb f).star ((Pr.own hk).star ((Pr.own h).star F))))))) (by ac_rfl))
      have CK:=hQ (rR x.page h _ oK HU2.af _ w5 H5.af);go_wp2_with fail
      refine CK.af.mono ?_;rintro e w6 ⟨rfl,gQ,Bs⟩;have H6:=hQ gQ;have l9:=hQ (iM.af.trans Bs);clear gQ Bs CK c0 c1 c2 c3 c4 c5 zx H5 iM;by_cases nH:iU x.page=0
      · have hcn:(iU x.page != 0)=false:=by rw [bne_eq_false_iff_eq];exact nH
        have DF:=hQ nH;have hfit:=fU nH;have ZX:∀y∈x.page.items,y.key.length≤65536∧y.value.length≤65536:=fun y hy=>by have:=hfit.k y hy;omega
        obtain⟨v0,v1,zv⟩:=L_ (H6.af.perm (B:=((Pr.pts V (jz p mb)).star ((Pr.pts XB (pG x (.slice ai x.page.items.length ci) (.slice ad x.page.data.length cd))).star ((eP p (fA refs cs 0)).star ((fD Tryz.prog 3 mb f).star ((Pr.own hk).star ((Pr.own h).star F))))))) (by ac_rfl))
        obtain⟨c0,c1,c2,c3,c4,c5,zx⟩:=OG (H6.af.perm (B:=((Pr.pts XB (pG x (.slice ai x.page.items.length ci) (.slice ad x.page.data.length cd))).star ((Pr.pts V (jz p mb)).star ((eP p (fA refs cs 0)).star ((fD Tryz.prog 3 mb f).star ((Pr.own hk).star ((Pr.own h).star F))))))) (by ac_rfl))
        have CP:=hQ (ye h _ x.page oK (by have:=hfit.n;omega) ZX (by have:=hfit.d;omega) _ _ H6.af.drew);clear nH hfit ZX;go_wp2_with fail
        refine wS 82 [0,1,2,3,4,5,6,7] [(8,[],[0,1,2,3,4,5,6]),(9,[],[])] ?_;refine dY _ rfl rfl ?_;simp only [pick,pQ];iterate 8 (go_big_quiet_step (fail))
        refine wpQuiet_nil ?_;refine dK rfl ?_;go_wp2_with fail
        refine CP.af.mono ?_;rintro e w7 ⟨pv,h',rfl,xQ,gZ,zJ⟩;have H7:=hQ (show Sat ((Pr.pts V (jz p mb)).star ((Pr.pts XB (pG x (.slice ai x.page.items.length ci) (.slice ad x.page.data.length cd))).star ((eP p (fA refs cs 0)).star ((fD Tryz.prog 3 mb f).star ((Pr.own hk).star ((Pr.own h').star ((Pr.own h).star F))))))) w7 from gZ.perm (by ac_rfl))
        have iN:=hQ (l9.af.drew.trans zJ);clear gZ zJ CP v0 v1 zv c0 c1 c2 c3 c4 c5 zx;obtain⟨v0,v1,zv⟩:=L_ H7.af;obtain⟨c0,c1,c2,c3,c4,c5,zx⟩:=OG H7.af.right;go_wp2;refine dQ ?_;refine dU ⟨?_,?_⟩
        · exact cQ
        refine dK rfl ?_
        refine sy rfl _ _ _ _ rfl Tryz.underlying3 Tryz.underlying105 x.no ZV.af _ rfl rfl rfl (H7.af.perm (B:=((fD Tryz.prog 3 mb f).star ((Pr.pts V (jz p mb)).star ((Pr.pts XB (pG x (.slice ai x.page.items.length ci) (.slice ad x.page.data.length cd))).star ((eP p (fA refs cs 0)).star ((Pr.own hk).star ((Pr.own h').star ((Pr.own h).star F)))))))) (by ac_rfl)) ?_
        intro w8 gp tB;have H8:=hQ gp;have wE:=hQ (iN.af.eH tB);clear gp tB v0 v1 zv c0 c1 c2 c3 c4 c5 zx;go_wp2;refine dQ (dU ⟨eM,dW ?_⟩);go_wp2;go_roundw
        case rel=>
         have h9:=H8.af.perm (B:=(Pr.own hk).star ((Pr.own h').star ((Pr.pts XB (pG x (.slice ai x.page.items.length ci) (.slice ad x.page.data.length cd))).star ((Pr.pts V (jz p mb)).star ((eP p (fA refs cs 0)).star ((fD Tryz.prog 3 mb fun m=>if m=x.no then some pv else f m).star ((Pr.own h).star F))))))) (by ac_rfl);obtain⟨sP,h10⟩:=h9.jT
         have XZ:po (hk.un h') (fun m=>if m=x.no then some pv else f m) (fun m=>if m=x.no then some x.page else on m):=(Si.af.sub (Hp.fE _ _)).put (xQ.sub (Hp.fZ sP))
         refine⟨k+1,fun m=>if m=x.no then some x.page else on m,hk.un h',fun m=>if m=x.no then some pv else f m,by omega,congrArg (Value.int .i64) (by omega),wE.af,hQ ?_,hQ (sQ.af.put HC.af DF.af),hQ XZ,?_⟩
         · rw [← sS.af]
           conv=>rhs;unfold lay
           rw [if_neg HC.af,if_neg (by rw [BE];decide),if_neg (by rw [DF.af];decide)]
         · exact((h10.perm (B:=(Pr.pts XB (pG x (.slice ai x.page.items.length ci) (.slice ad x.page.data.length cd))).star _) (Pr.eD _ _ _)).right).perm (by ac_rfl)
        case measure=>simp [intOf];omega
      · have hcn:(iU x.page != 0)=true:=by rw [bne_iff_ne];exact nH
        have DF:=hQ nH;clear nH;go_wp2;go_ret2;refine⟨l9.af,.inl ?_⟩;have e:lay cs l (fun _=>none)=(iU x.page,on):=by rw [← sS.af];unfold lay;rw [if_neg HC.af,if_neg (by rw [BE];decide),if_pos DF.af]
        rw [vC.af,e,if_pos DF.af];exact⟨DF.af,rfl,(H6.af.perm (B:=((Pr.pts XB (pG x (.slice ai x.page.items.length ci) (.slice ad x.page.data.length cd))).star ((Pr.pts V (jz p mb)).star ((eP p (fA refs cs 0)).star ((fD Tryz.prog 3 mb f).star ((Pr.own hk).star ((Pr.own h).star F))))))) (by ac_rfl)).right.right.right.right.right⟩
    · have u_:k=l.length:=by omega
      subst u_;have oG:=BD.af;rw [bP] at oG;have sS:=hQ (show lay cs l (fun _=>none)=(0,on) from oG.symm);clear BD oG;obtain⟨v0,v1,zv⟩:=L_ hs;have H1:=hQ (show Sat ((Pr.pts V (jz p mb)).star ((eP p (fA refs cs 0)).star ((fD Tryz.prog 3 mb f).star ((Pr.own hk).star ((Pr.own h).star F))))) _ from hs.drew)
      have TL:=hQ (NY p (fA refs cs 0) 4 (.inr rfl) _ _ (H1.af.perm (B:=((eP p (fA refs cs 0)).star ((Pr.pts V (jz p mb)).star ((fD Tryz.prog 3 mb f).star ((Pr.own hk).star ((Pr.own h).star F)))))) (by ac_rfl)));rw [FH xB.af] at TL;have eQ:=hQ hst;clear hs hst;go_wp2_with fail
      refine wS 82 [0,1,2,3,5,6,7,8] [(4,[],[0,1,2,5,6,7,8]),(9,[10],[0,1,2,5,6,7])] ?_;refine dY _ rfl rfl ?_;simp only [pick,pQ];iterate 8 (go_big_quiet_step (fail))
      refine wpQuiet_nil ?_;refine dK rfl ?_;refine DD rfl _ _ rfl Tryz.underlying3 Tryz.underlying105 rfl (H1.af.perm (B:=((fD Tryz.prog 3 mb f).star ((Pr.pts V (jz p mb)).star ((eP p (fA refs cs 0)).star ((Pr.own hk).star ((Pr.own h).star F)))))) (by ac_rfl)) (fun n hnn K hK=> ?_);go_simp;refine hK _ ?_;clear hK K
      have PE:=hQ (hnn (ql cs) (FD cs) (fun m v hm=>pB.2 (by
       have h1:=Si.af m
       cases TJ:on m with
       | none=>rw [TJ] at h1;rw [h1] at hm;cases hm
       | some g=>exact sQ.af.there m g TJ)))
      clear hnn;refine wpList_nil ?_
      have hfn:∀m,f m=none↔on m=none:=by
       intro m;have h1:=Si.af m;cases TJ:on m with
       | none=>rw [TJ] at h1;rw [h1];exact⟨fun _=>rfl,fun _=>rfl⟩
       | some g=>rw [TJ] at h1;obtain⟨v,hv,_⟩:=h1;rw [hv];exact⟨fun h=>(by cases h),fun h=>(by cases h)⟩
      have qo:=hQ (show n<(ql cs).length↔lacks cs on=true by
       rw [PE.af,rM]
       exact⟨fun⟨x,hx,e⟩=>⟨x,hx,(hfn x).1 e⟩,fun⟨x,hx,e⟩=>⟨x,hx,(hfn x).2 e⟩⟩)
      clear hfn PE;refine dQ ?_;refine dU ⟨?_,?_⟩
      · exact cQ
      refine dK rfl ?_;go_wp2_with fail
      refine TL.af.mono ?_;rintro e w4 ⟨rfl,rfl⟩;go_wp2;refine dQ ?_;refine dY _ rfl rfl ?_;simp only [pick,pQ];iterate 1 (go_big_quiet_step (fail))
      refine wpQuiet_nil ⟨?_,?_⟩
      · exact cQ
      refine dW ?_;cases hlk:lacks cs on with
      | true=>
        have oZ:n<(ql cs).length:=qo.af.2 hlk;have HL:=hQ hlk;clear hlk;go_wp2;go_ret2;refine⟨eQ.af.drew,.inl ?_⟩;rw [vC.af,sS.af,if_neg (show ¬(0:Int)≠0 by decide),if_pos HL.af];exact⟨(show (9:Int)≠0 by decide),rfl,H1.af.right.right.right.right⟩
      | false=>
        have oZ:(ql cs).length≤n:=Nat.le_of_not_lt (mt qo.af.1 (by rw [hlk];decide));have HL:=hQ hlk;clear hlk;go_wp2;go_ret2;refine⟨eQ.af.drew,.inr ?_⟩;rw [vC.af,sS.af,if_neg (show ¬(0:Int)≠0 by decide),if_neg (by rw [HL.af];decide)];refine⟨rfl,V,rfl,gC.2 ⟨⟨p,mb,.slice none 0 0,f,[],hk⟩,⟨Si.af,⟨rfl,fun i h=>absurd h (by simp)⟩,aY _,by simp⟩,H1.af.perm ?_⟩⟩
        unfold fc;rw [show (Row 169 2 (.slice none 0 0) (lN refs cs on).acts.length (eI []))=Pr.emp from Row.nil _ _,Pr.fK];ac_rfl
end Go.Proofs.YtiegeadmgpanoaaGreatDoor.D2
namespace Go.Proofs.YtiegeadmgpanoaaGreatDoor.D2
open ChangeShapes WideShapes ChangeAt RowKit Sl fB L3 Z3 E4
structure RX where
 cv:Value
 lv:Value
 pv:Value
 xs:List (Value × Value)
 h:Hp
def lx(x:(Value × Value) × dR):List Value:= [.int .i64 x.2.kind,.int .i64 x.2.level,x.1.1,x.1.2,.int .i64 x.2.next]
def kN(v:Value)(xs:List (Value × Value))(gs:List dR):Pr:=Row 83 5 v gs.length ((xs.zip gs).flatMap lx)
structure TK(h:Hp)(xs:List (Value × Value))(gs:List dR):Prop where
 len:xs.length=gs.length
 at':∀i (hx:i<xs.length) (hl:i<gs.length),h_ h xs[i].1 gs[i].items∧Bytes h xs[i].2 gs[i].data
structure iJ where
 av:Value
 fl:Int
 q:Bool
abbrev fM(b:Bool):iJ:=⟨.slice none 0 0,0,b⟩
abbrev mg(refs:Int)(cv lv pv:Value)(hush:iJ):Obj:= .cells #[.int .i64 refs,cv,lv,pv,hush.av,.int .i64 hush.fl,.bool hush.q] 112
def eE(r:Nat)(s:ef)(gs:List dR)(hush:iJ)(x:RX):Pr:=
 (Pr.pts r (mg s.refs x.cv x.lv x.pv hush)).star ((dX x.cv s.counts).star ((eK x.lv s.last).star ((kN x.pv x.xs gs).star (Pr.own x.h))))
structure yk(s:ef)(gs:List dR)(x:RX):Prop where
 P0:TK x.h x.xs gs
 ll:s.last.length=s.counts.length
 gl:gs.length=s.counts.length
 n2:s.counts.length≤65536
 c0:∀c∈s.counts,0≤c
 fit:∀g∈gs,Fit g
def kJ(r:Nat)(s:ef)(gs:List dR)(hush:iJ):Pr:=Pr.ex fun x:RX=>(Pr.pure (yk s gs x)).star (eE r s gs hush x)
theorem iw {r:Nat}{s:ef}{gs:List dR}{hush:iJ}{F:Pr}{w:World}:Sat ((kJ r s gs hush).star F) w↔∃x,yk s gs x∧Sat ((eE r s gs hush x).star F) w:=by
 unfold kJ;rw [Sat.ex];constructor
 · rintro⟨x,h⟩
   rw [Pr.dP] at h;obtain⟨h1,h2⟩:=Sat.pure.1 h;exact⟨x,h1,h2⟩
 · rintro⟨x,h1,h2⟩
   refine⟨x,?_⟩;rw [Pr.dP];exact Sat.pure.2 ⟨h1,h2⟩
theorem sT {r:Nat}{s:ef}{gs:List dR}{hush:iJ}{x:RX}{F:Pr}{w:World}(ok:yk s gs x)(h:Sat ((eE r s gs hush x).star F) w):
 ∃ac cc al cl ap cp,(w.cell? ⟨r,1,none⟩=some (.slice ac s.counts.length cc)∧w.cell? ⟨r,2,none⟩=some (.slice al s.counts.length cl)∧w.cell? ⟨r,3,none⟩=some (.slice ap s.counts.length cp)∧w.cell? ⟨r,0,none⟩=some (.int .i64 s.refs))∧r<w.heap.size∧True∧
  ∀j,j<s.counts.length→(∃b,ac=some ⟨b,0,none⟩∧w.cell? ⟨b,j,none⟩=some (.int .i64 (s.counts.getD j 0)))∧(∃b,al=some ⟨b,0,none⟩∧w.cell? ⟨b,j,none⟩=some (.bool (s.last.getD j false)))∧
   ∃b g vi vd,ap=some ⟨b,0,none⟩∧gs[j]? =some g∧fV x.h (fX g.kind g.level vi vd g.next) g∧
    w.cell? ⟨b,j*5,none⟩=some (.int .i64 g.kind)∧w.cell? ⟨b,j*5+1,none⟩=some (.int .i64 g.level)∧w.cell? ⟨b,j*5+2,none⟩=some vi∧w.cell? ⟨b,j*5+3,none⟩=some vd∧w.cell? ⟨b,j*5+4,none⟩=some (.int .i64 g.next):=by
 have h1:Sat ((Pr.pts r (mg s.refs x.cv x.lv x.pv hush)).star ((dX x.cv s.counts).star ((eK x.lv s.last).star ((kN x.pv x.xs gs).star ((Pr.own x.h).star F))))) w:=h.perm (by unfold eE;ac_rfl);have hp:=h1.dL;obtain⟨ac,cc,e1,_,r1⟩:=Row.read h1.right;obtain⟨al,cl,e2,_,r2⟩:=Row.read h1.right.right;obtain⟨ap,cp,e3,_,r3⟩:=Row.read h1.right.right.right;rw [ok.ll] at e2
 rw [ok.gl] at e3;refine⟨ac,cc,al,cl,ap,cp,⟨by rw [cell_of_heap hp, ← e1];rfl,by rw [cell_of_heap hp, ← e2];rfl,by rw [cell_of_heap hp, ← e3];rfl,by rw [cell_of_heap hp];rfl⟩,h1.lt,trivial,fun j hj=>⟨?_,?_,?_⟩⟩
 · obtain⟨b,e,hc⟩:=r1 (by omega)
   refine⟨b,e,?_⟩;rw [(hc j (by omega)).1];simp [hj]
 · obtain⟨b,e,hc⟩:=r2 (by have:=ok.ll;omega)
   refine⟨b,e,?_⟩;have hj2:j<s.last.length:=by have:=ok.ll;omega
   rw [(hc j (by omega)).1];simp [hj2]
 · have hj2:j<gs.length:=by have:=ok.gl;omega
   have Nl:j<x.xs.length:=by have:=ok.P0.len;omega
   obtain⟨b,e,hc⟩:=r3 (by omega);have hz:j<(x.xs.zip gs).length:=by simp;omega
   have at':∀i,i<5→w.cell? ⟨b,j*5+i,none⟩=(lx (x.xs[j],gs[j]))[i]? :=by
    intro i hi;rw [(hc (j*5+i) (by omega)).1,nL lx 5 (fun _=>rfl) (x.xs.zip gs) j i hz hi];simp
   obtain⟨p1,p2⟩:=ok.P0.at' j Nl hj2;exact⟨b,gs[j],x.xs[j].1,x.xs[j].2,e,ag hj2,⟨_,_,rfl,p1,p2⟩,at' 0 (by omega),at' 1 (by omega),at' 2 (by omega),at' 3 (by omega),at' 4 (by omega)⟩
theorem OI(r:Nat)(s:ef)(gs:List dR)(hush:iJ)(n:Int)(F:Pr)(w:World)(hF:Sat ((kJ r s gs hush).star F) w):
 Calls Tryz.prog 127 #[.pointer (some ⟨r,0,none⟩),.int .i64 n] w fun e w'=>e= .returned (.bool (decide (s.there n)))∧w=w':=by
 obtain⟨x,ok,h⟩:=iw.1 hF;obtain⟨ac,cc,al,cl,ap,cp,⟨q1,q2,q3,_⟩,z,_,_⟩:=sT ok h
 have fin:∀(b:Bool),(b=true↔s.there n)→Ending.returned (Value.bool b)=Ending.returned (Value.bool (decide (s.there n))):=fun b e=>by
  congr 2
  rw [aL,e,decide_eq_true_eq]
 by_cases h1:1≤n
 · go_enter Tryz.func127,Tryz.ntmps127
   go_wp2;go_ret;refine⟨fin _ ?_,rfl⟩;simp [ef.there,h1]
 · go_enter Tryz.func127,Tryz.ntmps127
   go_wp2;go_ret;refine⟨fin _ ?_,rfl⟩;simp [ef.there];omega
theorem ly {s:ef}{n:Int}(h:s.there n):∃j:Nat,n=(j:Int)+1∧j<s.counts.length:=by
 obtain⟨h1,h2⟩:=h;exact⟨n.toNat-1,by omega,by omega⟩
theorem pH {s:ef}{j:Nat}(hj:j<s.counts.length):s.count ((j:Int)+1)=s.counts.getD j 0:=by
 have ht:s.there ((j:Int)+1):=⟨by omega,by omega⟩;unfold ef.count;rw [if_pos ht,show ((j:Int)+1).toNat-1=j by omega]
theorem mS(r:Nat)(s:ef)(gs:List dR)(hush:iJ)(n:Int)(F:Pr)(w:World)(hF:Sat ((kJ r s gs hush).star F) w):
 Calls Tryz.prog 85 #[.pointer (some ⟨r,0,none⟩),.int .i64 n] w fun e w'=>e= .returned (.bool (decide (0<s.count n)))∧w=w':=by
 obtain⟨x,ok,h⟩:=iw.1 hF;obtain⟨ac,cc,al,cl,ap,cp,⟨q1,q2,q3,_⟩,z,_,rd⟩:=sT ok h;have IS:=hQ (OI r s gs hush n F w hF);by_cases ht:s.there n
 · rw [decide_eq_true ht] at IS
   obtain⟨j,rfl,hj⟩:=ly ht;obtain⟨⟨b,rfl,c0⟩,_,_⟩:=rd j hj;have yU:=pH hj;rw [yU];have rH:=ok.n2;clear rd hF h ok ht yU;generalize s.counts.getD j 0=c at*;go_enter Tryz.func85,Tryz.ntmps85
   go_wp2_with fail
   refine IS.af.mono ?_;rintro e w1 ⟨rfl,rfl⟩;go_wp2;go_ret;exact⟨rfl,rfl⟩
 · rw [decide_eq_false ht] at IS
   have yU:s.count n=0:=by unfold ef.count;rw [if_neg ht]
   rw [yU];clear rd hF h ok;go_enter Tryz.func85,Tryz.ntmps85
   go_wp2_with fail
   refine IS.af.mono ?_;rintro e w1 ⟨rfl,rfl⟩;go_wp2;go_ret;exact⟨rfl,rfl⟩
theorem yl(r:Nat)(s:ef)(gs:List dR)(hush:iJ)(F:Pr)(w:World)(hF:Sat ((kJ r s gs hush).star F) w):
 Calls Tryz.prog 41 #[.pointer (some ⟨r,0,none⟩)] w fun e w'=>e= .returned (.int .i64 s.counts.length)∧w=w':=by
 obtain⟨x,ok,h⟩:=iw.1 hF;obtain⟨ac,cc,al,cl,ap,cp,⟨q1,q2,q3,_⟩,z,_,rd⟩:=sT ok h;clear rd hF h ok;go_enter Tryz.func41,Tryz.ntmps41
 go_wp2;go_ret;exact⟨rfl,rfl⟩
end Go.Proofs.YtiegeadmgpanoaaGreatDoor.D2
namespace Go.Proofs.YtiegeadmgpanoaaGreatDoor.X6
open ChangeShapes WideShapes ChangeAt RowKit Sl fB D2 L3 Z3 E4
theorem fit_keys {g:dR}(h:Fit g):∀y∈g.items,y.key.length≤65536∧y.value.length≤65536:=fun y hy=>by have:=h.k y hy;omega
theorem Af(v:Nat)(s:eC)(n:Int)(hn:1≤n∧n≤65536)(g:dR)(hfit:Fit g)(F:Pr)(w:World)(hF:Sat ((dZ v s).star F) w)(h0:s.pool.count n≠0)(sQ:s.on n=some g):
 Calls Tryz.prog 45 #[.pointer (some ⟨v,0,none⟩),.int .i64 n] w fun e w'=>
  dN w w'∧∃pv,e= .returned (.tuple #[pv,.int .i64 0])∧∃h',fV h' pv g∧Sat ((Pr.own h').star ((dZ v s).star F)) w':=by
 obtain⟨x,ok,hF⟩:=gC.1 hF;have ho:eV w (w.alloc (dV 0 0 (.slice none 0 0) (.slice none 0 0) 0)):=(eV.refl w).alloc _
 have h1:Sat ((eP x.p s.pool).star ((Pr.pts v (.cells #[.pointer (some ⟨x.p,0,none⟩),.map (some x.mb),x.av,.int .i64 s.floor] 108)).star
  ((((fD Tryz.prog 3 x.mb x.f).star ((Row 169 2 x.av s.acts.length (eI x.kA)).star (Pr.own x.h)))).star F))) w:=hF.perm (by unfold fc;ac_rfl)
 have qv:w.cell? ⟨v,0,none⟩=some (.pointer (some ⟨x.p,0,none⟩)):=by rw [cell_of_heap h1.right.dL];rfl
 have qm:w.cell? ⟨v,1,none⟩=some (.map (some x.mb)):=by rw [cell_of_heap h1.right.dL];rfl
 have zv:=h1.right.lt;have C:=hQ (pX x.p s.pool n _ _ (h1.only ho));have hm:=(h1.only ho).perm (B:=(fD Tryz.prog 3 x.mb x.f).star ((eP x.p s.pool).star ((Pr.pts v (.cells #[.pointer (some ⟨x.p,0,none⟩),.map (some x.mb),x.av,.int .i64 s.floor] 108)).star ((Row 169 2 x.av s.acts.length (eI x.kA)).star ((Pr.own x.h).star F))))) (by ac_rfl);have hO:=ok.on n;rw [sQ] at hO
 obtain⟨pv,hf,xQ⟩:=hO;have hne:(s.pool.count n == 0)=false:=by rw [beq_eq_false_iff_ne];exact h0
 have h2:=(hF.alloc (dV 0 0 (.slice none 0 0) (.slice none 0 0) 0)).perm (B:=(Pr.own x.h).star ((Pr.pts w.heap.size (dV 0 0 (.slice none 0 0) (.slice none 0 0) 0)).star ((Pr.pts v (.cells #[.pointer (some ⟨x.p,0,none⟩),.map (some x.mb),x.av,.int .i64 s.floor] 108)).star ((eP x.p s.pool).star ((fD Tryz.prog 3 x.mb x.f).star ((Row 169 2 x.av s.acts.length (eI x.kA)).star F)))))) (by unfold fc;ac_rfl)
 have D:=hQ (ye x.h pv g xQ (by have:=hfit.n;omega) (fit_keys hfit) (by have:=hfit.d;omega) _ _ h2);have HM:=hQ hm;have HO:=hQ ho;have OK:=hQ ok;have Nh:=hQ hf;clear h1 hF ok ho hm hf xQ h2;go_enter Tryz.func45,Tryz.ntmps45
 go_wp2_with fail
 refine C.af.mono ?_;rintro e w1 ⟨rfl,rfl⟩;generalize s.pool.count n=k at*;go_wp2_with (at_lookup;refine nb rfl _ _ _ false rfl Tryz.underlying3 Tryz.underlying105 jY (nV _) n hn rfl rfl HM.af ?_;rw [Nh.af])
 refine D.af.mono ?_;rintro e w1 ⟨zF,h',rfl,hp',h3,hst⟩;obtain⟨pk,pl,ai,mi,ci,ad,md,cd,nx,rfl⟩:=ox hp';have h4:=h3.perm (B:=(Pr.pts w.heap.size (dV 0 0 (.slice none 0 0) (.slice none 0 0) 0)).star ((Pr.own h').star ((fc v s x).star F))) (by unfold fc;ac_rfl);obtain⟨f0,f1,f2,f3,f4,⟨z0,z1,z2,z3,z4⟩,zz⟩:=lM h4
 have s6:=((((h4.setCell (i:=0) (.int .i64 pk)).setCell (i:=1) (.int .i64 pl)).setCell (i:=2) (.slice ai mi ci)).setCell (i:=3) (.slice ad md cd)).setCell (i:=4) (.int .i64 nx);have s7:Sat ((Pr.pts w.heap.size (dV pk pl (.slice ai mi ci) (.slice ad md cd) nx)).star ((Pr.own h').star ((fc v s x).star F))) _:=s6;have S7:=hQ s7;have eR:=hQ (HO.af.st.trans hst);have HP:=hQ hp'
 clear h3 h4 s6 s7 hst hp' C D HM Nh;go_wp2;refine bodyPost_ret (gd rfl _ _ w.heap.size _ rfl (run_loadVar_row _ w.heap.size _ _ _ _ _ S7.af.dL Tryz.underlying83 rfl jW)) rfl ?_;exact⟨((((eR.af.setCell _ _).setCell _ _).setCell _ _).setCell _ _).setCell _ _,_,rfl,h',HP.af,(gC.2 ⟨x,OK.af,S7.af.right.perm (Pr.eD _ _ _)⟩).perm (Pr.eD _ _ _)⟩
def BF(gs:List dR)(n:Int):dR:=gs.getD (n.toNat-1) lj
theorem ym(r:Nat)(s:ef)(gs:List dR)(hush:iJ)(n:Int)(F:Pr)(w:World)(hF:Sat ((kJ r s gs hush).star F) w)(h0:s.count n=0):
 Calls Tryz.prog 46 #[.pointer (some ⟨r,0,none⟩),.int .i64 n] w fun e w'=>e= .returned (.tuple #[jY,.int .i64 15])∧eV w w':=by
 have ho:eV w (w.alloc (dV 0 0 (.slice none 0 0) (.slice none 0 0) 0)):=(eV.refl w).alloc _;have hh:=mq w (dV 0 0 (.slice none 0 0) (.slice none 0 0) 0);have C:=hQ (mS r s gs hush n _ _ (hF.only ho));rw [h0] at C;have HH:=hQ hh;have HO:=hQ ho;clear hF hh ho;go_enter Tryz.func46,Tryz.ntmps46
 go_wp2_with fail
 refine C.af.mono ?_;rintro e w1 ⟨rfl,rfl⟩;go_wp2;refine bodyPost_ret (gd rfl _ _ w.heap.size _ rfl (run_loadVar_row _ w.heap.size _ _ _ _ _ HH.af Tryz.underlying83 rfl jW)) rfl ?_;exact⟨rfl,HO.af⟩
theorem Gb(r:Nat)(s:ef)(gs:List dR)(hush:iJ)(n:Int)(F:Pr)(w:World)(hF:Sat ((kJ r s gs hush).star F) w)(h0:s.count n≠0):
 Calls Tryz.prog 46 #[.pointer (some ⟨r,0,none⟩),.int .i64 n] w fun e w'=>
  dN w w'∧∃pv,e= .returned (.tuple #[pv,.int .i64 0])∧∃h',fV h' pv (BF gs n)∧Sat ((Pr.own h').star ((kJ r s gs hush).star F)) w':=by
 have ht:s.there n:=by
  by_cases ht:s.there n
  · exact ht
  · exact absurd (by unfold ef.count;rw [if_neg ht]) h0
 obtain⟨x,ok,h⟩:=iw.1 hF;have ho:eV w (w.alloc (dV 0 0 (.slice none 0 0) (.slice none 0 0) 0)):=(eV.refl w).alloc _
 have hpos:decide (0<s.count n)=true:=by
  rw [decide_eq_true_eq];obtain⟨j,rfl,hj⟩:=ly ht;rw [pH hj] at h0 ⊢;have:=ok.c0 s.counts[j] (aE hj)
  simp [hj] at h0 ⊢
  omega
 have C:=hQ (mS r s gs hush n _ _ (hF.only ho));rw [hpos] at C;obtain⟨j,rfl,hj⟩:=ly ht;obtain⟨ac,cc,al,cl,ap,cp,⟨q1,q2,q3,_⟩,z,_,rd⟩:=sT ok h;obtain⟨_,_,b,g,vi,vd,rfl,hg,oK,c0,c1,c2,c3,c4⟩:=rd j hj;have zb:=ay _ _ c0;have rH:=ok.n2;have TM:g∈gs:=dG hg;have hfit:=ok.fit g TM
 have TN:BF gs ((j:Int)+1)=g:=by unfold BF;rw [show ((j:Int)+1).toNat-1=j by omega,az,hg];rfl
 rw [TN];obtain⟨_,_,qy,hit,hby⟩:=id oK;simp only [fX,Value.agg.injEq,Array.mk.injEq,List.cons.injEq,and_true,true_and] at qy;obtain⟨rfl,rfl⟩:=qy;obtain⟨a1,d1,rfl,_,_⟩:=fL hit;obtain⟨a2,d2,rfl⟩:=eB hby
 have h2:=(h.alloc (dV 0 0 (.slice none 0 0) (.slice none 0 0) 0)).perm (B:=(Pr.own x.h).star ((Pr.pts w.heap.size (dV 0 0 (.slice none 0 0) (.slice none 0 0) 0)).star ((Pr.pts r (mg s.refs x.cv x.lv x.pv hush)).star ((dX x.cv s.counts).star ((eK x.lv s.last).star ((kN x.pv x.xs gs).star F)))))) (by unfold eE;ac_rfl)
 have D:=hQ (qd x.h _ g oK (by have:=hfit.n;omega) (fun y hy=>by have:=fit_keys hfit y hy;omega) (by have:=hfit.d;omega) _ _ h2);have HO:=hQ ho;have OK:=hQ ok;clear rd h hF h2 hit hby oK ok ho ht h0 hpos hg TM hfit TN;go_enter Tryz.func46,Tryz.ntmps46
 go_wp2_with fail
 refine C.af.mono ?_;rintro e w1 ⟨rfl,rfl⟩;go_wp2_with fail
 refine D.af.mono ?_;rintro e w1 ⟨zF,h',rfl,hp',h3,hst⟩;obtain⟨pk,pl,ai,mi,ci,ad,md,cd,nx,rfl⟩:=ox hp';have h4:=h3.perm (B:=(Pr.pts w.heap.size (dV 0 0 (.slice none 0 0) (.slice none 0 0) 0)).star ((Pr.own h').star ((eE r s gs hush x).star F))) (by unfold eE;ac_rfl);obtain⟨f0,f1,f2,f3,f4,⟨z0,z1,z2,z3,z4⟩,zz⟩:=lM h4
 have s6:=((((h4.setCell (i:=0) (.int .i64 pk)).setCell (i:=1) (.int .i64 pl)).setCell (i:=2) (.slice ai mi ci)).setCell (i:=3) (.slice ad md cd)).setCell (i:=4) (.int .i64 nx);have s7:Sat ((Pr.pts w.heap.size (dV pk pl (.slice ai mi ci) (.slice ad md cd) nx)).star ((Pr.own h').star ((eE r s gs hush x).star F))) _:=s6;have S7:=hQ s7;have eR:=hQ (HO.af.st.trans hst);have HP:=hQ hp'
 clear h3 h4 s6 s7 hst hp' C D;go_wp2;refine bodyPost_ret (gd rfl _ _ w.heap.size _ rfl (run_loadVar_row _ w.heap.size _ _ _ _ _ S7.af.dL Tryz.underlying83 rfl jW)) rfl ?_;exact⟨((((eR.af.setCell _ _).setCell _ _).setCell _ _).setCell _ _).setCell _ _,_,rfl,h',HP.af,(iw.2 ⟨x,OK.af,S7.af.right.perm (Pr.eD _ _ _)⟩).perm (Pr.eD _ _ _)⟩
end Go.Proofs.YtiegeadmgpanoaaGreatDoor.X6
