/- The program's check of a value's page, and of any page; the conditions stand as hypotheses. -/
import Derived.Test.YtiegeadmgpanoaaGreatDoorWalkChecksM18
import Derived.Test.YtiegeadmgpanoaaGreatDoorWalkChecksM13
import Derived.Test.YtiegeadmgpanoaaGreatDoorWalkChecksM14
import Derived.Test.YtiegeadmgpanoaaGreatDoorWalkChecksM15
import Derived.Test.YtiegeadmgpanoaaGreatDoorWalkChecksM03
import Derived.Test.YtiegeadmgpanoaaGreatDoorWalkChecksM12
import Derived.Test.YtiegeadmgpanoaaGreatDoorWalkChecksM01
set_option maxRecDepth 100000
set_option maxHeartbeats 16000000
namespace Go.Proofs.YtiegeadmgpanoaaGreatDoor.E6
open ChangeShapes WideShapes ChangeAt RowKit Sl Cop G2 J2 N2 P2 Q2 Q3 X3 Y3 V5
theorem last_nx {nx:Int}(hn:¬nx=0):mustP 0 (decide (1≤nx) && decide (nx≤65536)) 15=if nextOk nx then 0 else 15:=by
 have e1:nextOk nx=(decide (1≤nx) && decide (nx≤65536)):=by unfold nextOk isPg;rw [decide_eq_false hn,Bool.false_or,Bool.decide_and]
 rw [e1];unfold mustP;rfl
theorem check_val(a ad:Option Addr)(c d cd:Nat)(nx:Int)(hd:1≤d∧d≤480)(F:Pr)(w:World)(hF:Sat F w):
 Calls Tryz.prog 69 #[pageV 3 0 (.slice a 0 c) (.slice ad d cd) nx] w fun e w'=>e= .returned (.int .i64 (if nextOk nx then 0 else 15))∧Sat F w'∧Stays w w':=by
 have hf:formP 3 0 0 d nx=true:=by unfold formP;rw [if_neg (by decide),if_neg (by decide),decide_eq_true_eq];exact⟨rfl,rfl,hd⟩
 have h0:=chk_start (k:=3) (l:=0) (vi:= .slice a 0 c) (vd:= .slice ad d cd) (nx:=nx) hF;have H0:=hQ h0;have HST:=hQ (((Stays.refl w).alloc (.cells #[.int .i64 3,.int .i64 0,.slice a 0 c,.slice ad d cd,.int .i64 nx] 83)).alloc (.cells #[.int .i64 0] 32));clear h0 hF;obtain⟨R,hR⟩:∃R:Int,R=(if nextOk nx then 0 else 15):=⟨_,rfl⟩;rw [← hR];have HR:=hQ hR;clear hR;go_enter Tryz.func69,Tryz.ntmps69
 go_wp2_with fail
 refine(must_any 0 22 true _ _ _ H0.out).mono ?_;rintro e w1 ⟨rfl,hs1,st1⟩;obtain⟨q0,q1,q2,q3,q4,q5,z0,z1⟩:=chkAt_rd (f:=mustP 0 true 22) hs1;go_wp2_with fail
 refine(form_any a ad 0 c d cd 3 0 nx _).mono ?_;rintro e w2 ⟨rfl,ho⟩;rw [hf];go_wp2_with fail
 refine(must_any _ 5 _ _ _ _ (hs1.only ho)).mono ?_;rintro e w3 ⟨rfl,hs3,st3⟩;have HST3:=hQ (HST.out.trans (st1.trans (ho.st.trans st3)));have hs3':Sat (ChkAt (w.heap.size+1) w.heap.size 0 3 0 (.slice a 0 c) (.slice ad d cd) nx F) w3:=hs3;clear q0 q1 q2 q3 q4 q5 z0 z1 hs1 hs3 st1 ho st3 HST H0;obtain⟨q0,q1,q2,q3,q4,q5,z0,z1⟩:=chkAt_rd hs3';have H3:=hQ hs3';clear hs3';go_wp2_with fail
 go_loopw [30] (fun i wr=>i= .int .i64 0∧wr=w3) (fun _ _=>0)
 case atStart=>exact⟨rfl,rfl⟩
 case round=>
  obtain⟨rfl,rfl⟩:=hrel;by_cases hn:nx=0
  · subst hn
    go_wp2_with fail
    refine(must_any _ 15 true _ _ _ H3.out).mono ?_;rintro e w4 ⟨rfl,hs4,st4⟩;obtain⟨q0',_⟩:=chkAt_rd (f:=0) hs4;go_wp2;go_ret;exact⟨(by rw [HR.out];rfl),hs4.right.right,HST3.out.trans st4⟩
  · have hn0:(nx == 0)=false:=by rw [beq_eq_false_iff_ne];exact hn
    go_wp2_with fail
    refine(isPage_any _ _).mono ?_;rintro e w5 ⟨rfl,rfl⟩;go_wp2_with fail
    refine(must_any _ 15 _ _ _ _ H3.out).mono ?_;rintro e w4 ⟨rfl,hs4,st4⟩;obtain⟨q0',_⟩:=chkAt_rd hs4;go_wp2;go_ret;exact⟨(show Ending.returned (Value.int .i64 (mustP 0 (decide (1≤nx) && decide (nx≤65536)) 15))=_ from by rw [HR.out,last_nx hn]),hs4.right.right,HST3.out.trans st4⟩
theorem check_any(g:PageV)(h:Hp)(pv:Value)(hp:PageIn h pv g)(hu:∀x∈g.items,U8 x.key)(F:Pr)(w:World)(hF:Sat ((Pr.own h).star F) w):
 Calls Tryz.prog 69 #[pv] w fun e w'=>e= .returned (.int .i64 (checkP g))∧Sat ((Pr.own h).star F) w'∧Stays w w':=by
 obtain⟨vi,vd,rfl,hi,hd⟩:=hp;obtain⟨ai,ci,rfl,_,_⟩:=items_rd hi;obtain⟨ad,cd,rfl⟩:=bytes_shape hd;unfold checkP;by_cases hk:1≤g.kind∧g.kind≤3
 · rw [if_neg (by unfold Go.Cop.kindOk;rw [decide_eq_true hk];simp)]
   cases hf:formP g.kind g.level g.items.length g.data.length g.next with
   | false=>
     rw [if_pos rfl];exact check_form _ _ _ _ _ _ _ _ _ hk hf _ _ hF
   | true=>
     rw [if_neg (by decide)];obtain⟨k,l,its,da,nx⟩:=g;dsimp only at*;have hk3:k=1∨k=2∨k=3:=by omega
     rcases hk3 with rfl | rfl | rfl
     · exact check_leaf h _ _ _ _ _ _ _ _ hi hu hf _ _ hF
     · exact check_index h _ _ _ _ _ _ _ _ hi hu hf _ _ hF
     · unfold formP at hf
       rw [if_neg (by decide),if_neg (by decide),decide_eq_true_eq] at hf;obtain⟨rfl,h2,h3⟩:=hf;have:its= []:=List.eq_nil_of_length_eq_zero h2
       subst this;exact check_val _ _ _ _ _ _ h3 _ _ hF
 · rw [if_pos (by unfold Go.Cop.kindOk;exact decide_eq_false hk)]
   exact check_kind _ _ _ _ _ _ _ _ _ hk _ _ hF
end Go.Proofs.YtiegeadmgpanoaaGreatDoor.E6
namespace Go.Proofs.YtiegeadmgpanoaaGreatDoor.F6
open ChangeShapes WideShapes ChangeAt RowKit Sl Cop D2 F3 K3 P3 G2 J2 Q3 V3 C4 G5 X3 M5 P5 J4 J5 E6
abbrev loadV(refs:Int)(cs:List Int)(on:Int→Option PageV):VaultS:=⟨poolOf refs cs 0,on,[],0⟩
abbrev vaultC(p mb:Nat):Obj:= .cells #[.pointer (some ⟨p,0,none⟩),.map (some mb),.slice none 0 0,.int .i64 0] 108
abbrev numC(x:NumV)(vi vd:Value):Obj:= .cells #[.int .i64 x.no,.int .i64 x.page.kind,.int .i64 x.page.level,vi,vd,.int .i64 x.page.next] 91
theorem pts6 {b T:Nat}{v0 v1 v2 v3 v4 v5:Value}{F:Pr}{w:World}(h:Sat ((Pr.pts b (.cells #[v0,v1,v2,v3,v4,v5] T)).star F) w):
 w.cell? ⟨b,0,none⟩=some v0∧w.cell? ⟨b,1,none⟩=some v1∧w.cell? ⟨b,2,none⟩=some v2∧w.cell? ⟨b,3,none⟩=some v3∧w.cell? ⟨b,4,none⟩=some v4∧w.cell? ⟨b,5,none⟩=some v5∧b<w.heap.size:=by
 have h1:=h.pts_heap;exact⟨by rw [cell_of_heap h1];rfl,by rw [cell_of_heap h1];rfl,by rw [cell_of_heap h1];rfl,by rw [cell_of_heap h1];rfl,by rw [cell_of_heap h1];rfl,by rw [cell_of_heap h1];rfl,h.lt⟩
theorem pts2 {b T:Nat}{v0 v1 v2 v3:Value}{F:Pr}{w:World}(h:Sat ((Pr.pts b (.cells #[v0,v1,v2,v3] T)).star F) w):w.cell? ⟨b,0,none⟩=some v0∧w.cell? ⟨b,1,none⟩=some v1∧b<w.heap.size:=by
 have h1:=h.pts_heap;exact⟨by rw [cell_of_heap h1];rfl,by rw [cell_of_heap h1];rfl,h.lt⟩
theorem wpQ_lookK {P:Program}{ops:Array Oper}{i:Nat}{l:List Nat}{N:Act→Prop}{a:Act}{w:World}{o:Oper}{t:TypeId}{m x:Operand}{c:Bool}{v:Value}(ho:ops[i]? =some o)(hop:o.op= .lookup t m x c)(hw:Region.wanted o (yielded ops a.tmps)=true)
 (hrun:(Instr.lookup t (a.eval m) (a.eval x) c).run P w= .ok v w) (h:∀K:Act→Prop,(∀a',wpQ P ops l N a' w→K a')→K (a.put o.dst v)):wpQ P ops (i :: l) N a w:=
 wpQ_look ho hop hw hrun (h _ fun _ h=>h)
theorem wpList_lenK {P:Program}{k:TypeId}{b:Nat}{f:Int→Option Value}{F:Pr}{w:World}{ops:Array Oper}{rest:List Oper}{o:Oper}{a:Act}{Q:Exit→Act→World→Prop}(hgd:o.guard=none)(m:Operand)(t:TypeId)
 (hop:o.op= .call { callee:= .builtin .len,args:= #[m],argTypes:= #[t] })
 (hk:P.underlying k=some (.int .i64)) {e:TypeId} (ht:P.underlying t=some (.map k e)) (hm:a.eval m= .map (some b)) (h:Sat ((MapA P k b f).star F) w)
 (hK:∀n:Nat,(∀H:List Int,H.Nodup→(∀m v,f m=some v→m∈H)→(n<H.length↔∃x∈H,f x=none))→∀K:Act→Prop,(∀a',wpList P ops Q rest a' w→K a')→K (a.put o.dst (.int .i64 n))):wpList P ops Q (o :: rest) a w:=
 wpList_len hgd m t hop hk ht hm h fun n hn=>hK n hn _ fun _ h=>h
theorem loadE_range {refs:Int}{cs:List Int}{l:List NumV}(h:rangeOk cs.length refs=false):loadE refs cs l=(1,fun _=>none):=by unfold loadE;rw [if_pos h]
theorem loadE_bad {refs:Int}{cs:List Int}{l:List NumV}(h:rangeOk cs.length refs=true)(hb:badC refs cs=true):loadE refs cs l=(13,fun _=>none):=by unfold loadE;rw [if_neg (by rw [h];decide),if_pos hb]
theorem loadE_lay {refs:Int}{cs:List Int}{l:List NumV}(h:rangeOk cs.length refs=true)(hb:badC refs cs=false):
 loadE refs cs l=if(lay cs l fun _=>none).1≠0 then lay cs l fun _=>none else if lacks cs (lay cs l fun _=>none).2=true then(9,fun _=>none) else lay cs l fun _=>none:=by
 unfold loadE;rw [if_neg (by rw [h];decide),if_neg (by rw [hb];decide)]
theorem vload_big(refs:Int)(h:Hp)(vc vl:Value)(cs:List Int)(l:List NumV)(hx:Ints h vc cs)(hl:NumsIn h vl l)(hu:∀x∈l,∀y∈x.page.items,U8 y.key)(hn:l.length≤9223372036854775807)(F:Pr)(w:World)(hF:Sat ((Pr.own h).star F) w):
 Calls Tryz.prog 40 #[.int .i64 refs,vc,vl] w fun e w'=>Stays w w'∧
  (((loadE refs cs l).1≠0∧e= .returned (.tuple #[.pointer none,.int .i64 (loadE refs cs l).1])∧Sat ((Pr.own h).star F) w')∨
   ((loadE refs cs l).1=0∧∃v,e= .returned (.tuple #[.pointer (some ⟨v,0,none⟩),.int .i64 0])∧Sat ((VaultA v (loadV refs cs (loadE refs cs l).2)).star ((Pr.own h).star F)) w')):=by
 obtain⟨al,cl,rfl,rd⟩:=nums_rd hl;have PL:=hQ (pload_any refs h vc cs hx F w hF);have RD:=hQ rd;have HU:=hQ hu;have hn0:(l.length:Int)≤9223372036854775807:=by omega
 obtain⟨_,ac,cc,rfl,_⟩:=id hx;clear rd hl hu hF hx;go_enter Tryz.func40,Tryz.ntmps40
 go_wp2_with fail
 refine PL.out.mono ?_;rintro e w1 ⟨hst1,hr⟩;rcases hr with⟨hr,rfl,hs⟩ | ⟨hr,hb,rfl,hs⟩ | ⟨hr,hb,p,rfl,hs⟩
 · have HS:=hQ hs
   have HR:=hQ hr;clear hr hs;go_wp2;go_ret2;refine⟨hst1,.inl ?_⟩;rw [loadE_range HR.out];exact⟨by decide,rfl,HS.out⟩
 · have HS:=hQ hs
   have HR:=hQ hr;have HB:=hQ hb;clear hr hs hb;go_wp2;go_ret2;refine⟨hst1,.inl ?_⟩;rw [loadE_bad HR.out HB.out];exact⟨by decide,rfl,HS.out⟩
 · have HLE:=hQ (loadE_lay (l:=l) hr hb)
   have HOK:=hQ (poolOk_load hr hb);have h2:=map_made (P:=Tryz.prog) (k:=3) hs;have h3:=h2.alloc (vaultC p w1.heap.size);rw [show (w1.alloc (.map #[] 0)).heap.size=w1.heap.size+1 by simp] at h3;have hst3:=(hst1.alloc (.map #[] 0)).alloc (vaultC p w1.heap.size)
   have hmk:∀wx:World,(Instr.makeMap 105 none).run Tryz.prog wx= .ok (.map (some wx.heap.size)) (wx.alloc (.map #[] 0)):=fun wx=>run_makeMap _ wx
   obtain⟨V,hV⟩:∃V,V=w1.heap.size+1:=⟨_,rfl⟩;obtain⟨mb,hmb⟩:∃mb,mb=w1.heap.size:=⟨_,rfl⟩;have H3:=hQ h3;have HST3:=hQ hst3;clear hr hb hs h2 h3 hst1 hst3;go_wp2_with fail
   generalize (w1.alloc (.map #[] 0)).alloc (vaultC p w1.heap.size)=w3 at*;rw [← hV, ← hmb] at H3;rw [← hV];clear hV hmb
   go_loopw [31] (fun i wr=> ∃(k:Nat) (on:Int→Option PageV) (hk:Hp) (f:Int→Option Value),k≤l.length∧i= .int .i64 k∧Stays w wr∧Hid (lay cs (l.drop k) on=lay cs l fun _=>none)∧Hid (OnOk cs on)∧Hid (OnIn hk f on)∧
    Sat ((Pr.pts V (vaultC p mb)).star ((PoolA p (poolOf refs cs 0)).star ((MapA Tryz.prog 3 mb f).star ((Pr.own hk).star ((Pr.own h).star F))))) wr) (fun i _=>l.length-(intOf i).toNat)
   case atStart=>
    refine⟨0,fun _=>none,Hp.nil,fun _=>none,Nat.zero_le _,rfl,HST3.out,hQ rfl,hQ (OnOk.none cs),hQ (fun n=>rfl),?_⟩;rw [own_nil,Pr.emp_star];exact H3.out.perm (by ac_rfl)
   case round=>
    obtain⟨k,on,hk,f,hkl,rfl,hst,hlay,hon,hof,hs⟩:=hrel;rcases Nat.lt_or_ge k l.length with hlt | hge
    · obtain⟨b,off,ai,ci,ad,cd,rfl,hpg,hcell⟩:=RD.out k hlt
      obtain⟨c0,c1,c2,c3,c4,c5⟩:=hcell wr (hs.perm (B:=(Pr.own h).star ((Pr.pts V (vaultC p mb)).star ((PoolA p (poolOf refs cs 0)).star ((MapA Tryz.prog 3 mb f).star ((Pr.own hk).star F))))) (by ac_rfl)).own;have hlay1:=hlay.out;rw [List.drop_eq_getElem_cons hlt] at hlay1;have HLAY:=hQ hlay1;have HU2:=hQ (HU.out _ (List.getElem_mem hlt));clear hlay hlay1 hcell;generalize l[k]=x at*
      obtain⟨v0,v1,zv⟩:=pts2 hs;have HA:=hQ ((hs.alloc (numC x (.slice ai x.page.items.length ci) (.slice ad x.page.data.length cd))).drew);have HSTA:=hQ ((hst.alloc (numC x (.slice ai x.page.items.length ci) (.slice ad x.page.data.length cd))).drew)
      have CN:=hQ (count_A p (poolOf refs cs 0) x.no _ _ (HA.out.perm (B:=(PoolA p (poolOf refs cs 0)).star ((Pr.pts wr.heap.size (numC x (.slice ai x.page.items.length ci) (.slice ad x.page.data.length cd))).star ((Pr.pts V (vaultC p mb)).star ((MapA Tryz.prog 3 mb f).star ((Pr.own hk).star ((Pr.own h).star F)))))) (by ac_rfl)))
      rw [show (poolOf refs cs 0).count x.no=cntL cs x.no from count_poolOf refs cs x.no] at CN;clear hs hst;go_wp2_with fail
      refine wS 82 [0,1,2,3,4,5] [(6,[7],[0,1,2,4])] ?_;refine wpQ_all _ rfl rfl ?_;simp only [pick,pQ];iterate 6 (go_big_quiet_step (fail))
      refine wpQuiet_nil ?_;refine wpRest_act rfl ?_;go_wp2_with fail
      refine CN.out.mono ?_;rintro e w4 ⟨rfl,rfl⟩;go_wp2;refine onN_mk ?_;refine wpQ_all _ rfl rfl ?_;simp only [pick,pQ];iterate 1 (go_big_quiet_step (fail))
      refine wpQuiet_nil ⟨?_,?_⟩
      · exact cQ
      refine wpRest_nil ?_;by_cases hc0:cntL cs x.no=0
      · have hcb:(cntL cs x.no == 0)=true:=by rw [beq_iff_eq];exact hc0
        have HC:=hQ hc0;clear hc0;go_wp2;go_ret2;refine⟨HSTA.out,.inl ?_⟩;have e:lay cs l (fun _=>none)=(15,on):=by rw [← HLAY.out];unfold lay;rw [if_pos HC.out]
        rw [HLE.out,e,if_pos (show (15:Int)≠0 by decide)];exact⟨(show (15:Int)≠0 by decide),rfl,(HA.out.perm (B:=(Pr.pts V (vaultC p mb)).star ((PoolA p (poolOf refs cs 0)).star ((MapA Tryz.prog 3 mb f).star ((Pr.own hk).star ((Pr.pts wr.heap.size (numC x (.slice ai x.page.items.length ci) (.slice ad x.page.data.length cd))).star ((Pr.own h).star F)))))) (by ac_rfl)).right.right.right.right.right⟩
      have hcb:(cntL cs x.no == 0)=false:=by rw [beq_eq_false_iff_ne];exact hc0
      have HC:=hQ hc0;have hnb:1≤x.no∧x.no≤65536:=by have:=cntL_bd hc0;have:=HOK.out.n2;dsimp only at this;omega
      have HNB:=hQ hnb;clear hc0 hnb;obtain⟨pk,pl,aj,mj,cj,ae,me,ce,px,th,elook,eth,_⟩:=look_shape hof.out x.no
      have LK:∀wx,Sat ((Pr.pts V (vaultC p mb)).star ((PoolA p (poolOf refs cs 0)).star ((MapA Tryz.prog 3 mb f).star ((Pr.pts wr.heap.size (numC x (.slice ai x.page.items.length ci) (.slice ad x.page.data.length cd))).star ((Pr.own hk).star ((Pr.own h).star F)))))) wx→
       (Instr.lookup 105 (.map (some mb)) (.int .i64 x.no) true).run Tryz.prog wx= .ok (.tuple #[pageV pk pl (.slice aj mj cj) (.slice ae me ce) px,.bool th]) wx:=by
       intro wx hwx
       have:=map_look (P:=Tryz.prog) (k:=3) (b:=mb) (f:=f) (w:=wx) Tryz.underlying3 (t:=105) Tryz.underlying105 (zero_page wx) true HNB.out (hwx.perm (B:=(MapA Tryz.prog 3 mb f).star ((Pr.pts V (vaultC p mb)).star ((PoolA p (poolOf refs cs 0)).star ((Pr.pts wr.heap.size (numC x (.slice ai x.page.items.length ci) (.slice ad x.page.data.length cd))).star ((Pr.own hk).star ((Pr.own h).star F)))))) (by ac_rfl))
       rw [elook,eth] at this;exact this
      have HA2:=hQ (HA.out.drew.perm (B:=(Pr.pts V (vaultC p mb)).star ((PoolA p (poolOf refs cs 0)).star ((MapA Tryz.prog 3 mb f).star ((Pr.pts wr.heap.size (numC x (.slice ai x.page.items.length ci) (.slice ad x.page.data.length cd))).star ((Pr.own hk).star ((Pr.own h).star F)))))) (by ac_rfl));have HLK:=hQ LK
      have hvx:=pts2 (HA.out.perm (B:=(Pr.pts V (vaultC p mb)).star ((Pr.pts wr.heap.size (numC x (.slice ai x.page.items.length ci) (.slice ad x.page.data.length cd))).star ((PoolA p (poolOf refs cs 0)).star ((MapA Tryz.prog 3 mb f).star ((Pr.own hk).star ((Pr.own h).star F)))))) (by ac_rfl))
      have hxx:=pts6 (HA.out.perm (B:=(Pr.pts wr.heap.size (numC x (.slice ai x.page.items.length ci) (.slice ad x.page.data.length cd))).star ((Pr.pts V (vaultC p mb)).star ((PoolA p (poolOf refs cs 0)).star ((MapA Tryz.prog 3 mb f).star ((Pr.own hk).star ((Pr.own h).star F)))))) (by ac_rfl));clear LK CN v0 v1 zv c0 c1 c2 c3 c4 c5;obtain⟨XB,hXB⟩:∃XB,XB=wr.heap.size:=⟨_,rfl⟩
      generalize (wr.alloc (numC x (.slice ai x.page.items.length ci) (.slice ad x.page.data.length cd))).drew=wA at*;rw [← hXB] at hxx HA HA2 HLK;rw [← hXB];clear hXB;obtain⟨v0,v1,zv⟩:=hvx;obtain⟨c0,c1,c2,c3,c4,c5,zx⟩:=hxx;go_wp2_with fail
      refine wS 82 [0,1,2,3,4,5,6,7,8,9] [(10,[],[0,1,2,3,4,5,6,7,8,9]),(11,[12],[9])] ?_;refine wpQ_cut [0,1,2,3,4,5] [6,7,8,9] ?_;refine wpQ_all _ rfl rfl ?_;simp only [pick,pQ];iterate 6 (go_big_quiet_step (fail))
      refine wpQuiet_nil ?_;refine wpQ_lookK rfl rfl rfl (HLK.out _ HA2.out) (fun K hK=> ?_);go_simp;refine hK _ ?_;clear hK K;refine wpQ_all _ rfl rfl ?_;simp only [pick,pQ];iterate 3 (go_big_quiet_step (fail))
      refine wpQuiet_nil ?_;refine wpRest_act rfl ?_;go_wp2;have S1:=HA2.out.alloc (pageC 0 0 (.slice none 0 0) (.slice none 0 0) 0);refine onN_mk (wpQ_nil ⟨?_,?_⟩)
      · refine chk_cut [0,1,2,3,4,5] [6,7,8,9] ?_ (chk_cons (yieldF_of rfl rfl rfl rfl (exec_look rfl (HLK.out _ S1.right))) ?_)
        all_goals
         refine chk_all _ rfl rfl ?_;simp only [pick,Same,pQ,and_true];repeat' (first | apply And.intro | (go_big_quiet_step (fail);exact wpQuiet_nil rfl))
      refine wpRest_act rfl ?_;go_wp2;refine onN_mk ?_;refine wpQ_all _ rfl rfl ?_;simp only [pick,pQ];iterate 1 (go_big_quiet_step (fail))
      refine wpQuiet_nil ⟨?_,?_⟩
      · exact cQ
      refine wpRest_nil ?_;have S2:=((HA.out.alloc (pageC pk pl (.slice aj mj cj) (.slice ae me ce) px)).drew).right;have T2:=(HSTA.out.alloc (pageC pk pl (.slice aj mj cj) (.slice ae me ce) px)).drew;generalize (wA.alloc (pageC pk pl (.slice aj mj cj) (.slice ae me ce) px)).drew=w5 at*
      have H5:=hQ (show Sat ((Pr.own h).star ((Pr.pts XB (numC x (.slice ai x.page.items.length ci) (.slice ad x.page.data.length cd))).star ((Pr.pts V (vaultC p mb)).star ((PoolA p (poolOf refs cs 0)).star ((MapA Tryz.prog 3 mb f).star ((Pr.own hk).star F)))))) w5 from S2.perm (by ac_rfl));have HST5:=hQ T2;have hof1:=hof.out x.no;clear S2 T2 S1 HA HA2 HLK HSTA v0 v1 zv c0 c1 c2 c3 c4 c5 zx
      cases hox:on x.no with
      | some g=>
        rw [hox] at hof1;obtain⟨_,hf1,_⟩:=hof1;rw [hf1] at eth;have eth2:th=true:=eth.symm;subst eth2;go_wp2;go_ret2;refine⟨HST5.out,.inl ?_⟩;have e:lay cs l (fun _=>none)=(10,on):=by rw [← HLAY.out];unfold lay;rw [if_neg HC.out,if_pos (by rw [hox];rfl)]
        rw [HLE.out,e,if_pos (show (10:Int)≠0 by decide)];exact⟨(show (10:Int)≠0 by decide),rfl,(H5.out.perm (B:=((Pr.pts XB (numC x (.slice ai x.page.items.length ci) (.slice ad x.page.data.length cd))).star ((Pr.pts V (vaultC p mb)).star ((PoolA p (poolOf refs cs 0)).star ((MapA Tryz.prog 3 mb f).star ((Pr.own hk).star ((Pr.own h).star F))))))) (by ac_rfl)).right.right.right.right.right⟩
      | none=>
      rw [hox] at hof1;rw [hof1] at eth;have eth2:th=false:=eth.symm;subst eth2;obtain⟨c0,c1,c2,c3,c4,c5,zx⟩:=pts6 (H5.out.perm (B:=((Pr.pts XB (numC x (.slice ai x.page.items.length ci) (.slice ad x.page.data.length cd))).star ((Pr.pts V (vaultC p mb)).star ((PoolA p (poolOf refs cs 0)).star ((MapA Tryz.prog 3 mb f).star ((Pr.own hk).star ((Pr.own h).star F))))))) (by ac_rfl))
      have CK:=hQ (check_any x.page h _ hpg HU2.out _ w5 H5.out);go_wp2_with fail
      refine CK.out.mono ?_;rintro e w6 ⟨rfl,hs6,st6⟩;have H6:=hQ hs6;have HST6:=hQ (HST5.out.trans st6);clear hs6 st6 CK c0 c1 c2 c3 c4 c5 zx H5 HST5;by_cases hcp:checkP x.page=0
      · have hcn:(checkP x.page != 0)=false:=by rw [bne_eq_false_iff_eq];exact hcp
        have HCP:=hQ hcp;have hfit:=fit_of_check hcp;have hfk:∀y∈x.page.items,y.key.length≤65536∧y.value.length≤65536:=fun y hy=>by have:=hfit.k y hy;omega
        obtain⟨v0,v1,zv⟩:=pts2 (H6.out.perm (B:=((Pr.pts V (vaultC p mb)).star ((Pr.pts XB (numC x (.slice ai x.page.items.length ci) (.slice ad x.page.data.length cd))).star ((PoolA p (poolOf refs cs 0)).star ((MapA Tryz.prog 3 mb f).star ((Pr.own hk).star ((Pr.own h).star F))))))) (by ac_rfl))
        obtain⟨c0,c1,c2,c3,c4,c5,zx⟩:=pts6 (H6.out.perm (B:=((Pr.pts XB (numC x (.slice ai x.page.items.length ci) (.slice ad x.page.data.length cd))).star ((Pr.pts V (vaultC p mb)).star ((PoolA p (poolOf refs cs 0)).star ((MapA Tryz.prog 3 mb f).star ((Pr.own hk).star ((Pr.own h).star F))))))) (by ac_rfl))
        have CP:=hQ (copied_any h _ x.page hpg (by have:=hfit.n;omega) hfk (by have:=hfit.d;omega) _ _ H6.out.drew);clear hcp hfit hfk;go_wp2_with fail
        refine wS 82 [0,1,2,3,4,5,6,7] [(8,[],[0,1,2,3,4,5,6]),(9,[],[])] ?_;refine wpQ_all _ rfl rfl ?_;simp only [pick,pQ];iterate 8 (go_big_quiet_step (fail))
        refine wpQuiet_nil ?_;refine wpRest_act rfl ?_;go_wp2_with fail
        refine CP.out.mono ?_;rintro e w7 ⟨pv,h',rfl,hpv,hs7,st7⟩;have H7:=hQ (show Sat ((Pr.pts V (vaultC p mb)).star ((Pr.pts XB (numC x (.slice ai x.page.items.length ci) (.slice ad x.page.data.length cd))).star ((PoolA p (poolOf refs cs 0)).star ((MapA Tryz.prog 3 mb f).star ((Pr.own hk).star ((Pr.own h').star ((Pr.own h).star F))))))) w7 from hs7.perm (by ac_rfl))
        have HST7:=hQ (HST6.out.drew.trans st7);clear hs7 st7 CP v0 v1 zv c0 c1 c2 c3 c4 c5 zx;obtain⟨v0,v1,zv⟩:=pts2 H7.out;obtain⟨c0,c1,c2,c3,c4,c5,zx⟩:=pts6 H7.out.right;go_wp2;refine onN_mk ?_;refine wpQ_nil ⟨?_,?_⟩
        · exact cQ
        refine wpRest_act rfl ?_
        refine wpList_put rfl _ _ _ _ rfl Tryz.underlying3 Tryz.underlying105 x.no HNB.out _ rfl rfl rfl (H7.out.perm (B:=((MapA Tryz.prog 3 mb f).star ((Pr.pts V (vaultC p mb)).star ((Pr.pts XB (numC x (.slice ai x.page.items.length ci) (.slice ad x.page.data.length cd))).star ((PoolA p (poolOf refs cs 0)).star ((Pr.own hk).star ((Pr.own h').star ((Pr.own h).star F)))))))) (by ac_rfl)) ?_
        intro w8 hs8 hg8;have H8:=hQ hs8;have HST8:=hQ (HST7.out.of_grown hg8);clear hs8 hg8 v0 v1 zv c0 c1 c2 c3 c4 c5 zx;go_wp2;refine onN_mk (wpQ_nil ⟨chk_nil,wpRest_nil ?_⟩);go_wp2;go_roundw
        case rel=>
         have h9:=H8.out.perm (B:=(Pr.own hk).star ((Pr.own h').star ((Pr.pts XB (numC x (.slice ai x.page.items.length ci) (.slice ad x.page.data.length cd))).star ((Pr.pts V (vaultC p mb)).star ((PoolA p (poolOf refs cs 0)).star ((MapA Tryz.prog 3 mb fun m=>if m=x.no then some pv else f m).star ((Pr.own h).star F))))))) (by ac_rfl);obtain⟨hdis,h10⟩:=h9.own_join
         have hon2:OnIn (hk.un h') (fun m=>if m=x.no then some pv else f m) (fun m=>if m=x.no then some x.page else on m):=(hof.out.sub (Hp.sub_un_left _ _)).put (hpv.sub (Hp.sub_un_right hdis))
         refine⟨k+1,fun m=>if m=x.no then some x.page else on m,hk.un h',fun m=>if m=x.no then some pv else f m,by omega,congrArg (Value.int .i64) (by omega),HST8.out,hQ ?_,hQ (hon.out.put HC.out HCP.out),hQ hon2,?_⟩
         · rw [← HLAY.out]
           conv=>rhs;unfold lay
           rw [if_neg HC.out,if_neg (by rw [hox];decide),if_neg (by rw [HCP.out];decide)]
         · exact((h10.perm (B:=(Pr.pts XB (numC x (.slice ai x.page.items.length ci) (.slice ad x.page.data.length cd))).star _) (Pr.left_comm _ _ _)).right).perm (by ac_rfl)
        case measure=>simp [intOf];omega
      · have hcn:(checkP x.page != 0)=true:=by rw [bne_iff_ne];exact hcp
        have HCP:=hQ hcp;clear hcp;go_wp2;go_ret2;refine⟨HST6.out,.inl ?_⟩;have e:lay cs l (fun _=>none)=(checkP x.page,on):=by rw [← HLAY.out];unfold lay;rw [if_neg HC.out,if_neg (by rw [hox];decide),if_pos HCP.out]
        rw [HLE.out,e,if_pos HCP.out];exact⟨HCP.out,rfl,(H6.out.perm (B:=((Pr.pts XB (numC x (.slice ai x.page.items.length ci) (.slice ad x.page.data.length cd))).star ((Pr.pts V (vaultC p mb)).star ((PoolA p (poolOf refs cs 0)).star ((MapA Tryz.prog 3 mb f).star ((Pr.own hk).star ((Pr.own h).star F))))))) (by ac_rfl)).right.right.right.right.right⟩
    · have hkl2:k=l.length:=by omega
      subst hkl2;have hlay1:=hlay.out;rw [List.drop_length] at hlay1;have HLAY:=hQ (show lay cs l (fun _=>none)=(0,on) from hlay1.symm);clear hlay hlay1;obtain⟨v0,v1,zv⟩:=pts2 hs;have H1:=hQ (show Sat ((Pr.pts V (vaultC p mb)).star ((PoolA p (poolOf refs cs 0)).star ((MapA Tryz.prog 3 mb f).star ((Pr.own hk).star ((Pr.own h).star F))))) _ from hs.drew)
      have TL:=hQ (tally_A p (poolOf refs cs 0) 4 (.inr rfl) _ _ (H1.out.perm (B:=((PoolA p (poolOf refs cs 0)).star ((Pr.pts V (vaultC p mb)).star ((MapA Tryz.prog 3 mb f).star ((Pr.own hk).star ((Pr.own h).star F)))))) (by ac_rfl)));rw [tally_held HOK.out] at TL;have HST1:=hQ hst;clear hs hst;go_wp2_with fail
      refine wS 82 [0,1,2,3,5,6,7,8] [(4,[],[0,1,2,5,6,7,8]),(9,[10],[0,1,2,5,6,7])] ?_;refine wpQ_all _ rfl rfl ?_;simp only [pick,pQ];iterate 8 (go_big_quiet_step (fail))
      refine wpQuiet_nil ?_;refine wpRest_act rfl ?_;refine wpList_lenK rfl _ _ rfl Tryz.underlying3 Tryz.underlying105 rfl (H1.out.perm (B:=((MapA Tryz.prog 3 mb f).star ((Pr.pts V (vaultC p mb)).star ((PoolA p (poolOf refs cs 0)).star ((Pr.own hk).star ((Pr.own h).star F)))))) (by ac_rfl)) (fun n hnn K hK=> ?_);go_simp;refine hK _ ?_;clear hK K
      have HNN:=hQ (hnn (heldL cs) (held_nodup cs) (fun m v hm=>held_mem.2 (by
       have h1:=hof.out m
       cases hom:on m with
       | none=>rw [hom] at h1;rw [h1] at hm;cases hm
       | some g=>exact hon.out.there m g hom)))
      clear hnn;refine wpList_nil ?_
      have hfn:∀m,f m=none↔on m=none:=by
       intro m;have h1:=hof.out m;cases hom:on m with
       | none=>rw [hom] at h1;rw [h1];exact⟨fun _=>rfl,fun _=>rfl⟩
       | some g=>rw [hom] at h1;obtain⟨v,hv,_⟩:=h1;rw [hv];exact⟨fun h=>(by cases h),fun h=>(by cases h)⟩
      have HLK:=hQ (show n<(heldL cs).length↔lacks cs on=true by
       rw [HNN.out,lacks_iff]
       exact⟨fun⟨x,hx,e⟩=>⟨x,hx,(hfn x).1 e⟩,fun⟨x,hx,e⟩=>⟨x,hx,(hfn x).2 e⟩⟩)
      clear hfn HNN;refine onN_mk ?_;refine wpQ_nil ⟨?_,?_⟩
      · exact cQ
      refine wpRest_act rfl ?_;go_wp2_with fail
      refine TL.out.mono ?_;rintro e w4 ⟨rfl,rfl⟩;go_wp2;refine onN_mk ?_;refine wpQ_all _ rfl rfl ?_;simp only [pick,pQ];iterate 1 (go_big_quiet_step (fail))
      refine wpQuiet_nil ⟨?_,?_⟩
      · exact cQ
      refine wpRest_nil ?_;cases hlk:lacks cs on with
      | true=>
        have hlt2:n<(heldL cs).length:=HLK.out.2 hlk;have HL:=hQ hlk;clear hlk;go_wp2;go_ret2;refine⟨HST1.out.drew,.inl ?_⟩;rw [HLE.out,HLAY.out,if_neg (show ¬(0:Int)≠0 by decide),if_pos HL.out];exact⟨(show (9:Int)≠0 by decide),rfl,H1.out.right.right.right.right⟩
      | false=>
        have hlt2:(heldL cs).length≤n:=Nat.le_of_not_lt (mt HLK.out.1 (by rw [hlk];decide));have HL:=hQ hlk;clear hlk;go_wp2;go_ret2;refine⟨HST1.out.drew,.inr ?_⟩;rw [HLE.out,HLAY.out,if_neg (show ¬(0:Int)≠0 by decide),if_neg (by rw [HL.out];decide)];refine⟨rfl,V,rfl,vaultA_iff.2 ⟨⟨p,mb,.slice none 0 0,f,[],hk⟩,⟨hof.out,⟨rfl,fun i h=>absurd h (by simp)⟩,Int.le_refl _,by simp⟩,H1.out.perm ?_⟩⟩
        unfold VaultAt;rw [show (Row 169 2 (.slice none 0 0) (loadV refs cs on).acts.length (actCells []))=Pr.emp from Row.nil _ _,Pr.emp_star];ac_rfl
end Go.Proofs.YtiegeadmgpanoaaGreatDoor.F6
namespace Go.Proofs.YtiegeadmgpanoaaGreatDoor.G6
open ChangeShapes WideShapes ChangeAt RowKit Sl Cop D2 F3 K3 P3 G2 J2 Q3 V3 G4 G5 K5 X3 M5 P5 J4 F6
structure RX where
 cv:Value
 lv:Value
 pv:Value
 xs:List (Value × Value)
 h:Hp
def pgCells(x:(Value × Value) × PageV):List Value:= [.int .i64 x.2.kind,.int .i64 x.2.level,x.1.1,x.1.2,.int .i64 x.2.next]
def PgRow(v:Value)(xs:List (Value × Value))(gs:List PageV):Pr:=Row 83 5 v gs.length ((xs.zip gs).flatMap pgCells)
structure PgsAt(h:Hp)(xs:List (Value × Value))(gs:List PageV):Prop where
 len:xs.length=gs.length
 at':∀i (hx:i<xs.length) (hl:i<gs.length),ItemsIn h xs[i].1 gs[i].items∧Bytes h xs[i].2 gs[i].data
structure RTail where
 av:Value
 fl:Int
 q:Bool
abbrev quietT(b:Bool):RTail:=⟨.slice none 0 0,0,b⟩
abbrev refC(refs:Int)(cv lv pv:Value)(hush:RTail):Obj:= .cells #[.int .i64 refs,cv,lv,pv,hush.av,.int .i64 hush.fl,.bool hush.q] 112
def RefAt(r:Nat)(s:PoolS)(gs:List PageV)(hush:RTail)(x:RX):Pr:=
 (Pr.pts r (refC s.refs x.cv x.lv x.pv hush)).star ((IntsRow x.cv s.counts).star ((BoolsRow x.lv s.last).star ((PgRow x.pv x.xs gs).star (Pr.own x.h))))
structure ROk(s:PoolS)(gs:List PageV)(x:RX):Prop where
 pgs:PgsAt x.h x.xs gs
 ll:s.last.length=s.counts.length
 gl:gs.length=s.counts.length
 n2:s.counts.length≤65536
 c0:∀c∈s.counts,0≤c
 fit:∀g∈gs,Fit g
def RefA(r:Nat)(s:PoolS)(gs:List PageV)(hush:RTail):Pr:=Pr.ex fun x:RX=>(Pr.pure (ROk s gs x)).star (RefAt r s gs hush x)
theorem refA_iff {r:Nat}{s:PoolS}{gs:List PageV}{hush:RTail}{F:Pr}{w:World}:Sat ((RefA r s gs hush).star F) w↔∃x,ROk s gs x∧Sat ((RefAt r s gs hush x).star F) w:=by
 unfold RefA;rw [Sat.ex];constructor
 · rintro⟨x,h⟩
   rw [Pr.star_assoc] at h;obtain⟨h1,h2⟩:=Sat.pure.1 h;exact⟨x,h1,h2⟩
 · rintro⟨x,h1,h2⟩
   refine⟨x,?_⟩;rw [Pr.star_assoc];exact Sat.pure.2 ⟨h1,h2⟩
theorem ref_rd {r:Nat}{s:PoolS}{gs:List PageV}{hush:RTail}{x:RX}{F:Pr}{w:World}(ok:ROk s gs x)(h:Sat ((RefAt r s gs hush x).star F) w):
 ∃ac cc al cl ap cp,(w.cell? ⟨r,1,none⟩=some (.slice ac s.counts.length cc)∧w.cell? ⟨r,2,none⟩=some (.slice al s.counts.length cl)∧w.cell? ⟨r,3,none⟩=some (.slice ap s.counts.length cp)∧w.cell? ⟨r,0,none⟩=some (.int .i64 s.refs))∧r<w.heap.size∧True∧
  ∀j,j<s.counts.length→(∃b,ac=some ⟨b,0,none⟩∧w.cell? ⟨b,j,none⟩=some (.int .i64 (s.counts.getD j 0)))∧(∃b,al=some ⟨b,0,none⟩∧w.cell? ⟨b,j,none⟩=some (.bool (s.last.getD j false)))∧
   ∃b g vi vd,ap=some ⟨b,0,none⟩∧gs[j]? =some g∧PageIn x.h (pageV g.kind g.level vi vd g.next) g∧
    w.cell? ⟨b,j*5,none⟩=some (.int .i64 g.kind)∧w.cell? ⟨b,j*5+1,none⟩=some (.int .i64 g.level)∧w.cell? ⟨b,j*5+2,none⟩=some vi∧w.cell? ⟨b,j*5+3,none⟩=some vd∧w.cell? ⟨b,j*5+4,none⟩=some (.int .i64 g.next):=by
 have h1:Sat ((Pr.pts r (refC s.refs x.cv x.lv x.pv hush)).star ((IntsRow x.cv s.counts).star ((BoolsRow x.lv s.last).star ((PgRow x.pv x.xs gs).star ((Pr.own x.h).star F))))) w:=h.perm (by unfold RefAt;ac_rfl);have hp:=h1.pts_heap;obtain⟨ac,cc,e1,_,r1⟩:=Row.read h1.right;obtain⟨al,cl,e2,_,r2⟩:=Row.read h1.right.right;obtain⟨ap,cp,e3,_,r3⟩:=Row.read h1.right.right.right;rw [ok.ll] at e2
 rw [ok.gl] at e3;refine⟨ac,cc,al,cl,ap,cp,⟨by rw [cell_of_heap hp, ← e1];rfl,by rw [cell_of_heap hp, ← e2];rfl,by rw [cell_of_heap hp, ← e3];rfl,by rw [cell_of_heap hp];rfl⟩,h1.lt,trivial,fun j hj=>⟨?_,?_,?_⟩⟩
 · obtain⟨b,e,hc⟩:=r1 (by omega)
   refine⟨b,e,?_⟩;rw [(hc j (by omega)).1];simp [hj]
 · obtain⟨b,e,hc⟩:=r2 (by have:=ok.ll;omega)
   refine⟨b,e,?_⟩;have hj2:j<s.last.length:=by have:=ok.ll;omega
   rw [(hc j (by omega)).1];simp [hj2]
 · have hj2:j<gs.length:=by have:=ok.gl;omega
   have hj3:j<x.xs.length:=by have:=ok.pgs.len;omega
   obtain⟨b,e,hc⟩:=r3 (by omega);have hz:j<(x.xs.zip gs).length:=by simp;omega
   have at':∀i,i<5→w.cell? ⟨b,j*5+i,none⟩=(pgCells (x.xs[j],gs[j]))[i]? :=by
    intro i hi;rw [(hc (j*5+i) (by omega)).1,flat_at pgCells 5 (fun _=>rfl) (x.xs.zip gs) j i hz hi];simp
   obtain⟨p1,p2⟩:=ok.pgs.at' j hj3 hj2;exact⟨b,gs[j],x.xs[j].1,x.xs[j].2,e,List.getElem?_eq_getElem hj2,⟨_,_,rfl,p1,p2⟩,at' 0 (by omega),at' 1 (by omega),at' 2 (by omega),at' 3 (by omega),at' 4 (by omega)⟩
theorem ris_any(r:Nat)(s:PoolS)(gs:List PageV)(hush:RTail)(n:Int)(F:Pr)(w:World)(hF:Sat ((RefA r s gs hush).star F) w):
 Calls Tryz.prog 127 #[.pointer (some ⟨r,0,none⟩),.int .i64 n] w fun e w'=>e= .returned (.bool (decide (s.there n)))∧w=w':=by
 obtain⟨x,ok,h⟩:=refA_iff.1 hF;obtain⟨ac,cc,al,cl,ap,cp,⟨q1,q2,q3,_⟩,z,_,_⟩:=ref_rd ok h
 have fin:∀(b:Bool),(b=true↔s.there n)→Ending.returned (Value.bool b)=Ending.returned (Value.bool (decide (s.there n))):=fun b e=>by
  congr 2
  rw [Bool.eq_iff_iff,e,decide_eq_true_eq]
 by_cases h1:1≤n
 · go_enter Tryz.func127,Tryz.ntmps127
   go_wp2;go_ret;refine⟨fin _ ?_,rfl⟩;simp [PoolS.there,h1]
 · go_enter Tryz.func127,Tryz.ntmps127
   go_wp2;go_ret;refine⟨fin _ ?_,rfl⟩;simp [PoolS.there];omega
theorem there_idx {s:PoolS}{n:Int}(h:s.there n):∃j:Nat,n=(j:Int)+1∧j<s.counts.length:=by
 obtain⟨h1,h2⟩:=h;exact⟨n.toNat-1,by omega,by omega⟩
theorem count_idx {s:PoolS}{j:Nat}(hj:j<s.counts.length):s.count ((j:Int)+1)=s.counts.getD j 0:=by
 have ht:s.there ((j:Int)+1):=⟨by omega,by omega⟩;unfold PoolS.count;rw [if_pos ht,show ((j:Int)+1).toNat-1=j by omega]
theorem rthere_any(r:Nat)(s:PoolS)(gs:List PageV)(hush:RTail)(n:Int)(F:Pr)(w:World)(hF:Sat ((RefA r s gs hush).star F) w):
 Calls Tryz.prog 85 #[.pointer (some ⟨r,0,none⟩),.int .i64 n] w fun e w'=>e= .returned (.bool (decide (0<s.count n)))∧w=w':=by
 obtain⟨x,ok,h⟩:=refA_iff.1 hF;obtain⟨ac,cc,al,cl,ap,cp,⟨q1,q2,q3,_⟩,z,_,rd⟩:=ref_rd ok h;have IS:=hQ (ris_any r s gs hush n F w hF);by_cases ht:s.there n
 · rw [decide_eq_true ht] at IS
   obtain⟨j,rfl,hj⟩:=there_idx ht;obtain⟨⟨b,rfl,c0⟩,_,_⟩:=rd j hj;have hcnt:=count_idx hj;rw [hcnt];have hn2:=ok.n2;clear rd hF h ok ht hcnt;generalize s.counts.getD j 0=c at*;go_enter Tryz.func85,Tryz.ntmps85
   go_wp2_with fail
   refine IS.out.mono ?_;rintro e w1 ⟨rfl,rfl⟩;go_wp2;go_ret;exact⟨rfl,rfl⟩
 · rw [decide_eq_false ht] at IS
   have hcnt:s.count n=0:=by unfold PoolS.count;rw [if_neg ht]
   rw [hcnt];clear rd hF h ok;go_enter Tryz.func85,Tryz.ntmps85
   go_wp2_with fail
   refine IS.out.mono ?_;rintro e w1 ⟨rfl,rfl⟩;go_wp2;go_ret;exact⟨rfl,rfl⟩
theorem rlen_any(r:Nat)(s:PoolS)(gs:List PageV)(hush:RTail)(F:Pr)(w:World)(hF:Sat ((RefA r s gs hush).star F) w):
 Calls Tryz.prog 41 #[.pointer (some ⟨r,0,none⟩)] w fun e w'=>e= .returned (.int .i64 s.counts.length)∧w=w':=by
 obtain⟨x,ok,h⟩:=refA_iff.1 hF;obtain⟨ac,cc,al,cl,ap,cp,⟨q1,q2,q3,_⟩,z,_,rd⟩:=ref_rd ok h;clear rd hF h ok;go_enter Tryz.func41,Tryz.ntmps41
 go_wp2;go_ret;exact⟨rfl,rfl⟩
end Go.Proofs.YtiegeadmgpanoaaGreatDoor.G6
namespace Go.Proofs.YtiegeadmgpanoaaGreatDoor.J6
open ChangeShapes WideShapes ChangeAt RowKit Sl Cop D2 F3 K3 P3 G2 J2 Q3 V3 C4 D4 F4 G4 K4 M4 G5 K5 X3 M5 P5 J4 F6 G6
theorem fit_keys {g:PageV}(h:Fit g):∀y∈g.items,y.key.length≤65536∧y.value.length≤65536:=fun y hy=>by have:=h.k y hy;omega
theorem read_some(v:Nat)(s:VaultS)(n:Int)(hn:1≤n∧n≤65536)(g:PageV)(hfit:Fit g)(F:Pr)(w:World)(hF:Sat ((VaultA v s).star F) w)(h0:s.pool.count n≠0)(hon:s.on n=some g):
 Calls Tryz.prog 45 #[.pointer (some ⟨v,0,none⟩),.int .i64 n] w fun e w'=>
  Stays w w'∧∃pv,e= .returned (.tuple #[pv,.int .i64 0])∧∃h',PageIn h' pv g∧Sat ((Pr.own h').star ((VaultA v s).star F)) w':=by
 obtain⟨x,ok,hF⟩:=vaultA_iff.1 hF;have ho:Only w (w.alloc (pageC 0 0 (.slice none 0 0) (.slice none 0 0) 0)):=(Only.refl w).alloc _
 have h1:Sat ((PoolA x.p s.pool).star ((Pr.pts v (.cells #[.pointer (some ⟨x.p,0,none⟩),.map (some x.mb),x.av,.int .i64 s.floor] 108)).star
  ((((MapA Tryz.prog 3 x.mb x.f).star ((Row 169 2 x.av s.acts.length (actCells x.axs)).star (Pr.own x.h)))).star F))) w:=hF.perm (by unfold VaultAt;ac_rfl)
 have qv:w.cell? ⟨v,0,none⟩=some (.pointer (some ⟨x.p,0,none⟩)):=by rw [cell_of_heap h1.right.pts_heap];rfl
 have qm:w.cell? ⟨v,1,none⟩=some (.map (some x.mb)):=by rw [cell_of_heap h1.right.pts_heap];rfl
 have zv:=h1.right.lt;have C:=hQ (count_A x.p s.pool n _ _ (h1.only ho));have hm:=(h1.only ho).perm (B:=(MapA Tryz.prog 3 x.mb x.f).star ((PoolA x.p s.pool).star ((Pr.pts v (.cells #[.pointer (some ⟨x.p,0,none⟩),.map (some x.mb),x.av,.int .i64 s.floor] 108)).star ((Row 169 2 x.av s.acts.length (actCells x.axs)).star ((Pr.own x.h).star F))))) (by ac_rfl);have hO:=ok.on n;rw [hon] at hO
 obtain⟨pv,hf,hpv⟩:=hO;have hne:(s.pool.count n == 0)=false:=by rw [beq_eq_false_iff_ne];exact h0
 have h2:=(hF.alloc (pageC 0 0 (.slice none 0 0) (.slice none 0 0) 0)).perm (B:=(Pr.own x.h).star ((Pr.pts w.heap.size (pageC 0 0 (.slice none 0 0) (.slice none 0 0) 0)).star ((Pr.pts v (.cells #[.pointer (some ⟨x.p,0,none⟩),.map (some x.mb),x.av,.int .i64 s.floor] 108)).star ((PoolA x.p s.pool).star ((MapA Tryz.prog 3 x.mb x.f).star ((Row 169 2 x.av s.acts.length (actCells x.axs)).star F)))))) (by unfold VaultAt;ac_rfl)
 have D:=hQ (copied_any x.h pv g hpv (by have:=hfit.n;omega) (fit_keys hfit) (by have:=hfit.d;omega) _ _ h2);have HM:=hQ hm;have HO:=hQ ho;have OK:=hQ ok;have HFN:=hQ hf;clear h1 hF ok ho hm hf hpv h2;go_enter Tryz.func45,Tryz.ntmps45
 go_wp2_with fail
 refine C.out.mono ?_;rintro e w1 ⟨rfl,rfl⟩;generalize s.pool.count n=k at*;go_wp2_with (at_lookup;refine wpList_look rfl _ _ _ false rfl Tryz.underlying3 Tryz.underlying105 zeroPage (zero_page _) n hn rfl rfl HM.out ?_;rw [HFN.out])
 refine D.out.mono ?_;rintro e w1 ⟨pv2,h',rfl,hp',h3,hst⟩;obtain⟨pk,pl,ai,mi,ci,ad,md,cd,nx,rfl⟩:=page_shape hp';have h4:=h3.perm (B:=(Pr.pts w.heap.size (pageC 0 0 (.slice none 0 0) (.slice none 0 0) 0)).star ((Pr.own h').star ((VaultAt v s x).star F))) (by unfold VaultAt;ac_rfl);obtain⟨f0,f1,f2,f3,f4,⟨z0,z1,z2,z3,z4⟩,zz⟩:=pts5 h4
 have s6:=((((h4.setCell (i:=0) (.int .i64 pk)).setCell (i:=1) (.int .i64 pl)).setCell (i:=2) (.slice ai mi ci)).setCell (i:=3) (.slice ad md cd)).setCell (i:=4) (.int .i64 nx);have s7:Sat ((Pr.pts w.heap.size (pageC pk pl (.slice ai mi ci) (.slice ad md cd) nx)).star ((Pr.own h').star ((VaultAt v s x).star F))) _:=s6;have S7:=hQ s7;have HST:=hQ (HO.out.st.trans hst);have HP:=hQ hp'
 clear h3 h4 s6 s7 hst hp' C D HM HFN;go_wp2;refine bodyPost_ret (results_cell_row_tmp rfl _ _ w.heap.size _ rfl (run_loadVar_row _ w.heap.size _ _ _ _ _ S7.out.pts_heap Tryz.underlying83 rfl infoPage)) rfl ?_;exact⟨((((HST.out.setCell _ _).setCell _ _).setCell _ _).setCell _ _).setCell _ _,_,rfl,h',HP.out,(vaultA_iff.2 ⟨x,OK.out,S7.out.right.perm (Pr.left_comm _ _ _)⟩).perm (Pr.left_comm _ _ _)⟩
def pgAt(gs:List PageV)(n:Int):PageV:=gs.getD (n.toNat-1) zeroP
theorem rread_none(r:Nat)(s:PoolS)(gs:List PageV)(hush:RTail)(n:Int)(F:Pr)(w:World)(hF:Sat ((RefA r s gs hush).star F) w)(h0:s.count n=0):
 Calls Tryz.prog 46 #[.pointer (some ⟨r,0,none⟩),.int .i64 n] w fun e w'=>e= .returned (.tuple #[zeroPage,.int .i64 15])∧Only w w':=by
 have ho:Only w (w.alloc (pageC 0 0 (.slice none 0 0) (.slice none 0 0) 0)):=(Only.refl w).alloc _;have hh:=heap_new w (pageC 0 0 (.slice none 0 0) (.slice none 0 0) 0);have C:=hQ (rthere_any r s gs hush n _ _ (hF.only ho));rw [h0] at C;have HH:=hQ hh;have HO:=hQ ho;clear hF hh ho;go_enter Tryz.func46,Tryz.ntmps46
 go_wp2_with fail
 refine C.out.mono ?_;rintro e w1 ⟨rfl,rfl⟩;go_wp2;refine bodyPost_ret (results_cell_row_tmp rfl _ _ w.heap.size _ rfl (run_loadVar_row _ w.heap.size _ _ _ _ _ HH.out Tryz.underlying83 rfl infoPage)) rfl ?_;exact⟨rfl,HO.out⟩
theorem rread_some(r:Nat)(s:PoolS)(gs:List PageV)(hush:RTail)(n:Int)(F:Pr)(w:World)(hF:Sat ((RefA r s gs hush).star F) w)(h0:s.count n≠0):
 Calls Tryz.prog 46 #[.pointer (some ⟨r,0,none⟩),.int .i64 n] w fun e w'=>
  Stays w w'∧∃pv,e= .returned (.tuple #[pv,.int .i64 0])∧∃h',PageIn h' pv (pgAt gs n)∧Sat ((Pr.own h').star ((RefA r s gs hush).star F)) w':=by
 have ht:s.there n:=by
  by_cases ht:s.there n
  · exact ht
  · exact absurd (by unfold PoolS.count;rw [if_neg ht]) h0
 obtain⟨x,ok,h⟩:=refA_iff.1 hF;have ho:Only w (w.alloc (pageC 0 0 (.slice none 0 0) (.slice none 0 0) 0)):=(Only.refl w).alloc _
 have hpos:decide (0<s.count n)=true:=by
  rw [decide_eq_true_eq];obtain⟨j,rfl,hj⟩:=there_idx ht;rw [count_idx hj] at h0 ⊢;have:=ok.c0 s.counts[j] (List.getElem_mem hj)
  simp [hj] at h0 ⊢
  omega
 have C:=hQ (rthere_any r s gs hush n _ _ (hF.only ho));rw [hpos] at C;obtain⟨j,rfl,hj⟩:=there_idx ht;obtain⟨ac,cc,al,cl,ap,cp,⟨q1,q2,q3,_⟩,z,_,rd⟩:=ref_rd ok h;obtain⟨_,_,b,g,vi,vd,rfl,hg,hpg,c0,c1,c2,c3,c4⟩:=rd j hj;have zb:=World.block_lt_of_cell? _ _ c0;have hn2:=ok.n2;have hgm:g∈gs:=List.mem_of_getElem? hg;have hfit:=ok.fit g hgm
 have epg:pgAt gs ((j:Int)+1)=g:=by unfold pgAt;rw [show ((j:Int)+1).toNat-1=j by omega,List.getD_eq_getElem?_getD,hg];rfl
 rw [epg];obtain⟨_,_,epv,hit,hby⟩:=id hpg;simp only [pageV,Value.agg.injEq,Array.mk.injEq,List.cons.injEq,and_true,true_and] at epv;obtain⟨rfl,rfl⟩:=epv;obtain⟨a1,d1,rfl,_,_⟩:=items_rd hit;obtain⟨a2,d2,rfl⟩:=bytes_shape hby
 have h2:=(h.alloc (pageC 0 0 (.slice none 0 0) (.slice none 0 0) 0)).perm (B:=(Pr.own x.h).star ((Pr.pts w.heap.size (pageC 0 0 (.slice none 0 0) (.slice none 0 0) 0)).star ((Pr.pts r (refC s.refs x.cv x.lv x.pv hush)).star ((IntsRow x.cv s.counts).star ((BoolsRow x.lv s.last).star ((PgRow x.pv x.xs gs).star F)))))) (by unfold RefAt;ac_rfl)
 have D:=hQ (copypage_any x.h _ g hpg (by have:=hfit.n;omega) (fun y hy=>by have:=fit_keys hfit y hy;omega) (by have:=hfit.d;omega) _ _ h2);have HO:=hQ ho;have OK:=hQ ok;clear rd h hF h2 hit hby hpg ok ho ht h0 hpos hg hgm hfit epg;go_enter Tryz.func46,Tryz.ntmps46
 go_wp2_with fail
 refine C.out.mono ?_;rintro e w1 ⟨rfl,rfl⟩;go_wp2_with fail
 refine D.out.mono ?_;rintro e w1 ⟨pv2,h',rfl,hp',h3,hst⟩;obtain⟨pk,pl,ai,mi,ci,ad,md,cd,nx,rfl⟩:=page_shape hp';have h4:=h3.perm (B:=(Pr.pts w.heap.size (pageC 0 0 (.slice none 0 0) (.slice none 0 0) 0)).star ((Pr.own h').star ((RefAt r s gs hush x).star F))) (by unfold RefAt;ac_rfl);obtain⟨f0,f1,f2,f3,f4,⟨z0,z1,z2,z3,z4⟩,zz⟩:=pts5 h4
 have s6:=((((h4.setCell (i:=0) (.int .i64 pk)).setCell (i:=1) (.int .i64 pl)).setCell (i:=2) (.slice ai mi ci)).setCell (i:=3) (.slice ad md cd)).setCell (i:=4) (.int .i64 nx);have s7:Sat ((Pr.pts w.heap.size (pageC pk pl (.slice ai mi ci) (.slice ad md cd) nx)).star ((Pr.own h').star ((RefAt r s gs hush x).star F))) _:=s6;have S7:=hQ s7;have HST:=hQ (HO.out.st.trans hst);have HP:=hQ hp'
 clear h3 h4 s6 s7 hst hp' C D;go_wp2;refine bodyPost_ret (results_cell_row_tmp rfl _ _ w.heap.size _ rfl (run_loadVar_row _ w.heap.size _ _ _ _ _ S7.out.pts_heap Tryz.underlying83 rfl infoPage)) rfl ?_;exact⟨((((HST.out.setCell _ _).setCell _ _).setCell _ _).setCell _ _).setCell _ _,_,rfl,h',HP.out,(refA_iff.2 ⟨x,OK.out,S7.out.right.perm (Pr.left_comm _ _ _)⟩).perm (Pr.left_comm _ _ _)⟩
end Go.Proofs.YtiegeadmgpanoaaGreatDoor.J6
