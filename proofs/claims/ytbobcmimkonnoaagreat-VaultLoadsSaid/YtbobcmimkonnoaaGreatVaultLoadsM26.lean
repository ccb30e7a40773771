/- The program's check of a value's page, and of any page; the conditions stand as hypotheses. -/
import Derived.Test.YtbobcmimkonnoaaGreatVaultLoadsM18
import Derived.Test.YtbobcmimkonnoaaGreatVaultLoadsM16
import Derived.Test.YtbobcmimkonnoaaGreatVaultLoadsM17
import Derived.Test.YtbobcmimkonnoaaGreatVaultLoadsM21
import Derived.Test.YtbobcmimkonnoaaGreatVaultLoadsM04
import Derived.Test.YtbobcmimkonnoaaGreatVaultLoadsM01
set_option maxRecDepth 100000
set_option maxHeartbeats 16000000
namespace Go.Proofs.YtbobcmimkonnoaaGreat.C7
open ChangeShapes WideShapes ChangeAt RowKit Sl Cop M2 N2 Y2 Z2 D3 E4 J4 K4 W5
theorem last_nx {nx:Int}(hn:¬nx=0):mustP 0 (decide (1≤nx) && decide (nx≤65536)) 15=if nextOk nx then 0 else 15:=by
 have e1:nextOk nx=(decide (1≤nx) && decide (nx≤65536)):=by unfold nextOk isPg;rw [decide_eq_false hn,Bool.false_or,Bool.decide_and]
 rw [e1];unfold mustP;rfl
theorem check_val(a ad:Option Addr)(c d cd:Nat)(nx:Int)(hd:1≤d∧d≤480)(F:Pr)(w:World)(hF:Sat F w):
 Calls Tryz.prog 87 #[pageV 3 0 (.slice a 0 c) (.slice ad d cd) nx] w fun e w'=>e= .returned (.int .i64 (if nextOk nx then 0 else 15))∧Sat F w'∧Stays w w':=by
 have hf:formP 3 0 0 d nx=true:=by unfold formP;rw [if_neg (by decide),if_neg (by decide),decide_eq_true_eq];exact⟨rfl,rfl,hd⟩
 have h0:=chk_start (k:=3) (l:=0) (vi:= .slice a 0 c) (vd:= .slice ad d cd) (nx:=nx) hF;have H0:=hQ h0;have HST:=hQ (((Stays.refl w).alloc (.cells #[.int .i64 3,.int .i64 0,.slice a 0 c,.slice ad d cd,.int .i64 nx] 31)).alloc (.cells #[.int .i64 0] 36));clear h0 hF;obtain⟨R,hR⟩:∃R:Int,R=(if nextOk nx then 0 else 15):=⟨_,rfl⟩;rw [← hR];have HR:=hQ hR;clear hR;go_enter Tryz.func87,Tryz.ntmps87
 go_wp2_with fail
 refine(must_any 0 22 true _ _ _ H0.out).mono ?_;rintro e w1 ⟨rfl,hs1,st1⟩;obtain⟨q0,q1,q2,q3,q4,q5,z0,z1⟩:=chkAt_rd (f:=mustP 0 true 22) hs1;go_wp2_with fail
 refine(form_any a ad 0 c d cd 3 0 nx _).mono ?_;rintro e w2 ⟨rfl,ho⟩;rw [hf];go_wp2_with fail
 refine(must_any _ 5 _ _ _ _ (hs1.only ho)).mono ?_;rintro e w3 ⟨rfl,hs3,st3⟩;have HST3:=hQ (HST.out.trans (st1.trans (ho.st.trans st3)));have hs3':Sat (ChkAt (w.heap.size+1) w.heap.size 0 3 0 (.slice a 0 c) (.slice ad d cd) nx F) w3:=hs3;clear q0 q1 q2 q3 q4 q5 z0 z1 hs1 hs3 st1 ho st3 HST H0;obtain⟨q0,q1,q2,q3,q4,q5,z0,z1⟩:=chkAt_rd hs3';have H3:=hQ hs3';clear hs3';go_wp2_with fail
 go_loopw [30] (fun i wr=>i= .int .i64 0∧wr=w3) (fun _ _=>0)
 case atStart=>exact⟨rfl,rfl⟩
 case round=>
  obtain⟨rfl,rfl⟩:=hrel;by_cases hn:nx=0
  · subst hn
    go_wp2_with fail
    refine(must_any _ 15 true _ _ _ H3.out).mono ?_;rintro e w4 ⟨rfl,hs4,st4⟩;obtain⟨q0',_⟩:=chkAt_rd (f:=0) hs4;go_wp2;go_ret;exact⟨(by rw [HR.out];rfl),hs4.right.right,HST3.out.trans st4⟩
  · have hn0:(nx == 0)=false:=by rw [beq_eq_false_iff_ne];exact hn
    go_wp2_with fail
    refine(isPage_any _ _).mono ?_;rintro e w5 ⟨rfl,rfl⟩;go_wp2_with fail
    refine(must_any _ 15 _ _ _ _ H3.out).mono ?_;rintro e w4 ⟨rfl,hs4,st4⟩;obtain⟨q0',_⟩:=chkAt_rd hs4;go_wp2;go_ret;exact⟨(show Ending.returned (Value.int .i64 (mustP 0 (decide (1≤nx) && decide (nx≤65536)) 15))=_ from by rw [HR.out,last_nx hn]),hs4.right.right,HST3.out.trans st4⟩
theorem check_any(g:PageV)(h:Hp)(pv:Value)(hp:PageIn h pv g)(hu:∀x∈g.items,U8 x.key)(F:Pr)(w:World)(hF:Sat ((Pr.own h).star F) w):
 Calls Tryz.prog 87 #[pv] w fun e w'=>e= .returned (.int .i64 (checkP g))∧Sat ((Pr.own h).star F) w'∧Stays w w':=by
 obtain⟨vi,vd,rfl,hi,hd⟩:=hp;obtain⟨ai,ci,rfl,_,_⟩:=items_rd hi;obtain⟨ad,cd,rfl⟩:=bytes_shape hd;unfold checkP;by_cases hk:1≤g.kind∧g.kind≤3
 · rw [if_neg (by unfold Go.Cop.kindOk;rw [decide_eq_true hk];simp)]
   cases hf:formP g.kind g.level g.items.length g.data.length g.next with
   | false=>
     rw [if_pos rfl];exact check_form _ _ _ _ _ _ _ _ _ hk hf _ _ hF
   | true=>
     rw [if_neg (by decide)];obtain⟨k,l,its,da,nx⟩:=g;dsimp only at*;have hk3:k=1∨k=2∨k=3:=by omega
     rcases hk3 with rfl | rfl | rfl
     · exact check_leaf h _ _ _ _ _ _ _ _ hi hu hf _ _ hF
     · exact check_index h _ _ _ _ _ _ _ _ hi hu hf _ _ hF
     · unfold formP at hf
       rw [if_neg (by decide),if_neg (by decide),decide_eq_true_eq] at hf;obtain⟨rfl,h2,h3⟩:=hf;have:its= []:=List.eq_nil_of_length_eq_zero h2
       subst this;exact check_val _ _ _ _ _ _ h3 _ _ hF
 · rw [if_pos (by unfold Go.Cop.kindOk;exact decide_eq_false hk)]
   exact check_kind _ _ _ _ _ _ _ _ _ hk _ _ hF
end Go.Proofs.YtbobcmimkonnoaaGreat.C7
namespace Go.Proofs.YtbobcmimkonnoaaGreat.G7
open ChangeShapes WideShapes ChangeAt RowKit Sl Cop D2 M3 Q3 D4 M2 N2 E4 G4 P4 E6 J4 L6 P6 Y4 F6 C7
abbrev loadV(refs:Int)(cs:List Int)(on:Int→Option PageV):VaultS:=⟨poolOf refs cs 0,on,[],0⟩
abbrev vaultC(p mb:Nat):Obj:= .cells #[.pointer (some ⟨p,0,none⟩),.map (some mb),.slice none 0 0,.int .i64 0] 71
abbrev numC(x:NumV)(vi vd:Value):Obj:= .cells #[.int .i64 x.no,.int .i64 x.page.kind,.int .i64 x.page.level,vi,vd,.int .i64 x.page.next] 78
theorem pts6 {b T:Nat}{v0 v1 v2 v3 v4 v5:Value}{F:Pr}{w:World}(h:Sat ((Pr.pts b (.cells #[v0,v1,v2,v3,v4,v5] T)).star F) w):
 w.cell? ⟨b,0,none⟩=some v0∧w.cell? ⟨b,1,none⟩=some v1∧w.cell? ⟨b,2,none⟩=some v2∧w.cell? ⟨b,3,none⟩=some v3∧w.cell? ⟨b,4,none⟩=some v4∧w.cell? ⟨b,5,none⟩=some v5∧b<w.heap.size:=by
 have h1:=h.pts_heap;exact⟨by rw [cell_of_heap h1];rfl,by rw [cell_of_heap h1];rfl,by rw [cell_of_heap h1];rfl,by rw [cell_of_heap h1];rfl,by rw [cell_of_heap h1];rfl,by rw [cell_of_heap h1];rfl,h.lt⟩
theorem pts2 {b T:Nat}{v0 v1 v2 v3:Value}{F:Pr}{w:World}(h:Sat ((Pr.pts b (.cells #[v0,v1,v2,v3] T)).star F) w):w.cell? ⟨b,0,none⟩=some v0∧w.cell? ⟨b,1,none⟩=some v1∧b<w.heap.size:=by
 have h1:=h.pts_heap;exact⟨by rw [cell_of_heap h1];rfl,by rw [cell_of_heap h1];rfl,h.lt⟩
theorem wpQ_lookK {P:Program}{ops:Array Oper}{i:Nat}{l:List Nat}{N:Act→Prop}{a:Act}{w:World}{o:Oper}{t:TypeId}{m x:Operand}{c:Bool}{v:Value}(ho:ops[i]? =some o)(hop:o.op= .lookup t m x c)(hw:Region.wanted o (yielded ops a.tmps)=true)
 (hrun:(Instr.lookup t (a.eval m) (a.eval x) c).run P w= .ok v w) (h:∀K:Act→Prop,(∀a',wpQ P ops l N a' w→K a')→K (a.put o.dst v)):wpQ P ops (i :: l) N a w:=
 wpQ_look ho hop hw hrun (h _ fun _ h=>h)
theorem wpList_lenK {P:Program}{k:TypeId}{b:Nat}{f:Int→Option Value}{F:Pr}{w:World}{ops:Array Oper}{rest:List Oper}{o:Oper}{a:Act}{Q:Exit→Act→World→Prop}(hgd:o.guard=none)(m:Operand)(t:TypeId)
 (hop:o.op= .call { callee:= .builtin .len,args:= #[m],argTypes:= #[t] })
 (hk:P.underlying k=some (.int .i64)) {e:TypeId} (ht:P.underlying t=some (.map k e)) (hm:a.eval m= .map (some b)) (h:Sat ((MapA P k b f).star F) w)
 (hK:∀n:Nat,(∀H:List Int,H.Nodup→(∀m v,f m=some v→m∈H)→(n<H.length↔∃x∈H,f x=none))→∀K:Act→Prop,(∀a',wpList P ops Q rest a' w→K a')→K (a.put o.dst (.int .i64 n))):wpList P ops Q (o :: rest) a w:=
 wpList_len hgd m t hop hk ht hm h fun n hn=>hK n hn _ fun _ h=>h
theorem loadE_range {refs:Int}{cs:List Int}{l:List NumV}(h:rangeOk cs.length refs=false):loadE refs cs l=(1,fun _=>none):=by unfold loadE;rw [if_pos h]
theorem loadE_bad {refs:Int}{cs:List Int}{l:List NumV}(h:rangeOk cs.length refs=true)(hb:badC refs cs=true):loadE refs cs l=(13,fun _=>none):=by unfold loadE;rw [if_neg (by rw [h];decide),if_pos hb]
theorem loadE_lay {refs:Int}{cs:List Int}{l:List NumV}(h:rangeOk cs.length refs=true)(hb:badC refs cs=false):
 loadE refs cs l=if(lay cs l fun _=>none).1≠0 then lay cs l fun _=>none else if lacks cs (lay cs l fun _=>none).2=true then(9,fun _=>none) else lay cs l fun _=>none:=by
 unfold loadE;rw [if_neg (by rw [h];decide),if_neg (by rw [hb];decide)]
theorem vload_any(refs:Int)(h:Hp)(vc vl:Value)(cs:List Int)(l:List NumV)(hx:Ints h vc cs)(hl:NumsIn h vl l)(hu:∀x∈l,∀y∈x.page.items,U8 y.key)(hn:l.length≤65536)(F:Pr)(w:World)(hF:Sat ((Pr.own h).star F) w):
 Calls Tryz.prog 28 #[.int .i64 refs,vc,vl] w fun e w'=>Stays w w'∧
  (((loadE refs cs l).1≠0∧e= .returned (.tuple #[.pointer none,.int .i64 (loadE refs cs l).1])∧Sat ((Pr.own h).star F) w')∨
   ((loadE refs cs l).1=0∧∃v,e= .returned (.tuple #[.pointer (some ⟨v,0,none⟩),.int .i64 0])∧Sat ((VaultA v (loadV refs cs (loadE refs cs l).2)).star ((Pr.own h).star F)) w')):=by
 obtain⟨al,cl,rfl,rd⟩:=nums_rd hl;have PL:=hQ (pload_any refs h vc cs hx F w hF);have RD:=hQ rd;have HU:=hQ hu;have hn0:(l.length:Int)≤65536:=by omega
 obtain⟨_,ac,cc,rfl,_⟩:=id hx;clear rd hl hu hF hx;go_enter Tryz.func28,Tryz.ntmps28
 go_wp2_with fail
 refine PL.out.mono ?_;rintro e w1 ⟨hst1,hr⟩;rcases hr with⟨hr,rfl,hs⟩ | ⟨hr,hb,rfl,hs⟩ | ⟨hr,hb,p,rfl,hs⟩
 · have HS:=hQ hs
   have HR:=hQ hr;clear hr hs;go_wp2;go_ret2;refine⟨hst1,.inl ?_⟩;rw [loadE_range HR.out];exact⟨by decide,rfl,HS.out⟩
 · have HS:=hQ hs
   have HR:=hQ hr;have HB:=hQ hb;clear hr hs hb;go_wp2;go_ret2;refine⟨hst1,.inl ?_⟩;rw [loadE_bad HR.out HB.out];exact⟨by decide,rfl,HS.out⟩
 · have HLE:=hQ (loadE_lay (l:=l) hr hb)
   have HOK:=hQ (poolOk_load hr hb);have h2:=map_made (P:=Tryz.prog) (k:=3) hs;have h3:=h2.alloc (vaultC p w1.heap.size);rw [show (w1.alloc (.map #[] 0)).heap.size=w1.heap.size+1 by simp] at h3;have hst3:=(hst1.alloc (.map #[] 0)).alloc (vaultC p w1.heap.size)
   have hmk:∀wx:World,(Instr.makeMap 68 none).run Tryz.prog wx= .ok (.map (some wx.heap.size)) (wx.alloc (.map #[] 0)):=fun wx=>run_makeMap _ wx
   obtain⟨V,hV⟩:∃V,V=w1.heap.size+1:=⟨_,rfl⟩;obtain⟨mb,hmb⟩:∃mb,mb=w1.heap.size:=⟨_,rfl⟩;have H3:=hQ h3;have HST3:=hQ hst3;clear hr hb hs h2 h3 hst1 hst3;go_wp2_with fail
   generalize (w1.alloc (.map #[] 0)).alloc (vaultC p w1.heap.size)=w3 at*;rw [← hV, ← hmb] at H3;rw [← hV];clear hV hmb
   go_loopw [31] (fun i wr=> ∃(k:Nat) (on:Int→Option PageV) (hk:Hp) (f:Int→Option Value),k≤l.length∧i= .int .i64 k∧Stays w wr∧Hid (lay cs (l.drop k) on=lay cs l fun _=>none)∧Hid (OnOk cs on)∧Hid (OnIn hk f on)∧
    Sat ((Pr.pts V (vaultC p mb)).star ((PoolA p (poolOf refs cs 0)).star ((MapA Tryz.prog 3 mb f).star ((Pr.own hk).star ((Pr.own h).star F))))) wr) (fun i _=>l.length-(intOf i).toNat)
   case atStart=>
    refine⟨0,fun _=>none,Hp.nil,fun _=>none,Nat.zero_le _,rfl,HST3.out,hQ rfl,hQ (OnOk.none cs),hQ (fun n=>rfl),?_⟩;rw [own_nil,Pr.emp_star];exact H3.out.perm (by ac_rfl)
   case round=>
    obtain⟨k,on,hk,f,hkl,rfl,hst,hlay,hon,hof,hs⟩:=hrel;rcases Nat.lt_or_ge k l.length with hlt | hge
    · obtain⟨b,off,ai,ci,ad,cd,rfl,hpg,hcell⟩:=RD.out k hlt
      obtain⟨c0,c1,c2,c3,c4,c5⟩:=hcell wr (hs.perm (B:=(Pr.own h).star ((Pr.pts V (vaultC p mb)).star ((PoolA p (poolOf refs cs 0)).star ((MapA Tryz.prog 3 mb f).star ((Pr.own hk).star F))))) (by ac_rfl)).own;have hlay1:=hlay.out;rw [List.drop_eq_getElem_cons hlt] at hlay1;have HLAY:=hQ hlay1;have HU2:=hQ (HU.out _ (List.getElem_mem hlt));clear hlay hlay1 hcell;generalize l[k]=x at*
      obtain⟨v0,v1,zv⟩:=pts2 hs;have HA:=hQ ((hs.alloc (numC x (.slice ai x.page.items.length ci) (.slice ad x.page.data.length cd))).drew);have HSTA:=hQ ((hst.alloc (numC x (.slice ai x.page.items.length ci) (.slice ad x.page.data.length cd))).drew)
      have CN:=hQ (count_A p (poolOf refs cs 0) x.no _ _ (HA.out.perm (B:=(PoolA p (poolOf refs cs 0)).star ((Pr.pts wr.heap.size (numC x (.slice ai x.page.items.length ci) (.slice ad x.page.data.length cd))).star ((Pr.pts V (vaultC p mb)).star ((MapA Tryz.prog 3 mb f).star ((Pr.own hk).star ((Pr.own h).star F)))))) (by ac_rfl)))
      rw [show (poolOf refs cs 0).count x.no=cntL cs x.no from count_poolOf refs cs x.no] at CN;clear hs hst;go_wp2_with fail
      refine wS 82 [0,1,2,3,4,5] [(6,[7],[0,1,2,4])] ?_;refine wpQ_all _ rfl rfl ?_;simp only [pick,pQ];iterate 6 (go_big_quiet_step (fail))
      refine wpQuiet_nil ?_;refine wpRest_act rfl ?_;go_wp2_with fail
      refine CN.out.mono ?_;rintro e w4 ⟨rfl,rfl⟩;go_wp2;refine onN_mk ?_;refine wpQ_all _ rfl rfl ?_;simp only [pick,pQ];iterate 1 (go_big_quiet_step (fail))
      refine wpQuiet_nil ⟨?_,?_⟩
      · exact cQ
      refine wpRest_nil ?_;by_cases hc0:cntL cs x.no=0
      · have hcb:(cntL cs x.no == 0)=true:=by rw [beq_iff_eq];exact hc0
        have HC:=hQ hc0;clear hc0;go_wp2;go_ret2;refine⟨HSTA.out,.inl ?_⟩;have e:lay cs l (fun _=>none)=(15,on):=by rw [← HLAY.out];unfold lay;rw [if_pos HC.out]
        rw [HLE.out,e,if_pos (show (15:Int)≠0 by decide)];exact⟨(show (15:Int)≠0 by decide),rfl,(HA.out.perm (B:=(Pr.pts V (vaultC p mb)).star ((PoolA p (poolOf refs cs 0)).star ((MapA Tryz.prog 3 mb f).star ((Pr.own hk).star ((Pr.pts wr.heap.size (numC x (.slice ai x.page.items.length ci) (.slice ad x.page.data.length cd))).star ((Pr.own h).star F)))))) (by ac_rfl)).right.right.right.right.right⟩
      have hcb:(cntL cs x.no == 0)=false:=by rw [beq_eq_false_iff_ne];exact hc0
      have HC:=hQ hc0;have hnb:1≤x.no∧x.no≤65536:=by have:=cntL_bd hc0;have:=HOK.out.n2;dsimp only at this;omega
      have HNB:=hQ hnb;clear hc0 hnb;obtain⟨pk,pl,aj,mj,cj,ae,me,ce,px,th,elook,eth,_⟩:=look_shape hof.out x.no
      have LK:∀wx,Sat ((Pr.pts V (vaultC p mb)).star ((PoolA p (poolOf refs cs 0)).star ((MapA Tryz.prog 3 mb f).star ((Pr.pts wr.heap.size (numC x (.slice ai x.page.items.length ci) (.slice ad x.page.data.length cd))).star ((Pr.own hk).star ((Pr.own h).star F)))))) wx→
       (Instr.lookup 68 (.map (some mb)) (.int .i64 x.no) true).run Tryz.prog wx= .ok (.tuple #[pageV pk pl (.slice aj mj cj) (.slice ae me ce) px,.bool th]) wx:=by
       intro wx hwx
       have:=map_look (P:=Tryz.prog) (k:=3) (b:=mb) (f:=f) (w:=wx) Tryz.underlying3 (t:=68) Tryz.underlying68 (zero_page wx) true HNB.out (hwx.perm (B:=(MapA Tryz.prog 3 mb f).star ((Pr.pts V (vaultC p mb)).star ((PoolA p (poolOf refs cs 0)).star ((Pr.pts wr.heap.size (numC x (.slice ai x.page.items.length ci) (.slice ad x.page.data.length cd))).star ((Pr.own hk).star ((Pr.own h).star F)))))) (by ac_rfl))
       rw [elook,eth] at this;exact this
      have HA2:=hQ (HA.out.drew.perm (B:=(Pr.pts V (vaultC p mb)).star ((PoolA p (poolOf refs cs 0)).star ((MapA Tryz.prog 3 mb f).star ((Pr.pts wr.heap.size (numC x (.slice ai x.page.items.length ci) (.slice ad x.page.data.length cd))).star ((Pr.own hk).star ((Pr.own h).star F)))))) (by ac_rfl));have HLK:=hQ LK
      have hvx:=pts2 (HA.out.perm (B:=(Pr.pts V (vaultC p mb)).star ((Pr.pts wr.heap.size (numC x (.slice ai x.page.items.length ci) (.slice ad x.page.data.length cd))).star ((PoolA p (poolOf refs cs 0)).star ((MapA Tryz.prog 3 mb f).star ((Pr.own hk).star ((Pr.own h).star F)))))) (by ac_rfl))
      have hxx:=pts6 (HA.out.perm (B:=(Pr.pts wr.heap.size (numC x (.slice ai x.page.items.length ci) (.slice ad x.page.data.length cd))).star ((Pr.pts V (vaultC p mb)).star ((PoolA p (poolOf refs cs 0)).star ((MapA Tryz.prog 3 mb f).star ((Pr.own hk).star ((Pr.own h).star F)))))) (by ac_rfl));clear LK CN v0 v1 zv c0 c1 c2 c3 c4 c5;obtain⟨XB,hXB⟩:∃XB,XB=wr.heap.size:=⟨_,rfl⟩
      generalize (wr.alloc (numC x (.slice ai x.page.items.length ci) (.slice ad x.page.data.length cd))).drew=wA at*;rw [← hXB] at hxx HA HA2 HLK;rw [← hXB];clear hXB;obtain⟨v0,v1,zv⟩:=hvx;obtain⟨c0,c1,c2,c3,c4,c5,zx⟩:=hxx;go_wp2_with fail
      refine wS 82 [0,1,2,3,4,5,6,7,8,9] [(10,[],[0,1,2,3,4,5,6,7,8,9]),(11,[12],[9])] ?_;refine wpQ_cut [0,1,2,3,4,5] [6,7,8,9] ?_;refine wpQ_all _ rfl rfl ?_;simp only [pick,pQ];iterate 6 (go_big_quiet_step (fail))
      refine wpQuiet_nil ?_;refine wpQ_lookK rfl rfl rfl (HLK.out _ HA2.out) (fun K hK=> ?_);go_simp;refine hK _ ?_;clear hK K;refine wpQ_all _ rfl rfl ?_;simp only [pick,pQ];iterate 3 (go_big_quiet_step (fail))
      refine wpQuiet_nil ?_;refine wpRest_act rfl ?_;go_wp2;have S1:=HA2.out.alloc (pageC 0 0 (.slice none 0 0) (.slice none 0 0) 0);refine onN_mk (wpQ_nil ⟨?_,?_⟩)
      · refine chk_cut [0,1,2,3,4,5] [6,7,8,9] ?_ (chk_cons (yieldF_of rfl rfl rfl rfl (exec_look rfl (HLK.out _ S1.right))) ?_)
        all_goals
         refine chk_all _ rfl rfl ?_;simp only [pick,Same,pQ,and_true];repeat' (first | apply And.intro | (go_big_quiet_step (fail);exact wpQuiet_nil rfl))
      refine wpRest_act rfl ?_;go_wp2;refine onN_mk ?_;refine wpQ_all _ rfl rfl ?_;simp only [pick,pQ];iterate 1 (go_big_quiet_step (fail))
      refine wpQuiet_nil ⟨?_,?_⟩
      · exact cQ
      refine wpRest_nil ?_;have S2:=((HA.out.alloc (pageC pk pl (.slice aj mj cj) (.slice ae me ce) px)).drew).right;have T2:=(HSTA.out.alloc (pageC pk pl (.slice aj mj cj) (.slice ae me ce) px)).drew;generalize (wA.alloc (pageC pk pl (.slice aj mj cj) (.slice ae me ce) px)).drew=w5 at*
      have H5:=hQ (show Sat ((Pr.own h).star ((Pr.pts XB (numC x (.slice ai x.page.items.length ci) (.slice ad x.page.data.length cd))).star ((Pr.pts V (vaultC p mb)).star ((PoolA p (poolOf refs cs 0)).star ((MapA Tryz.prog 3 mb f).star ((Pr.own hk).star F)))))) w5 from S2.perm (by ac_rfl));have HST5:=hQ T2;have hof1:=hof.out x.no;clear S2 T2 S1 HA HA2 HLK HSTA v0 v1 zv c0 c1 c2 c3 c4 c5 zx
      cases hox:on x.no with
      | some g=>
        rw [hox] at hof1;obtain⟨_,hf1,_⟩:=hof1;rw [hf1] at eth;have eth2:th=true:=eth.symm;subst eth2;go_wp2;go_ret2;refine⟨HST5.out,.inl ?_⟩;have e:lay cs l (fun _=>none)=(10,on):=by rw [← HLAY.out];unfold lay;rw [if_neg HC.out,if_pos (by rw [hox];rfl)]
        rw [HLE.out,e,if_pos (show (10:Int)≠0 by decide)];exact⟨(show (10:Int)≠0 by decide),rfl,(H5.out.perm (B:=((Pr.pts XB (numC x (.slice ai x.page.items.length ci) (.slice ad x.page.data.length cd))).star ((Pr.pts V (vaultC p mb)).star ((PoolA p (poolOf refs cs 0)).star ((MapA Tryz.prog 3 mb f).star ((Pr.own hk).star ((Pr.own h).star F))))))) (by ac_rfl)).right.right.right.right.right⟩
      | none=>
      rw [hox] at hof1;rw [hof1] at eth;have eth2:th=false:=eth.symm;subst eth2;obtain⟨c0,c1,c2,c3,c4,c5,zx⟩:=pts6 (H5.out.perm (B:=((Pr.pts XB (numC x (.slice ai x.page.items.length ci) (.slice ad x.page.data.length cd))).star ((Pr.pts V (vaultC p mb)).star ((PoolA p (poolOf refs cs 0)).star ((MapA Tryz.prog 3 mb f).star ((Pr.own hk).star ((Pr.own h).star F))))))) (by ac_rfl))
      have CK:=hQ (check_any x.page h _ hpg HU2.out _ w5 H5.out);go_wp2_with fail
      refine CK.out.mono ?_;rintro e w6 ⟨rfl,hs6,st6⟩;have H6:=hQ hs6;have HST6:=hQ (HST5.out.trans st6);clear hs6 st6 CK c0 c1 c2 c3 c4 c5 zx H5 HST5;by_cases hcp:checkP x.page=0
      · have hcn:(checkP x.page != 0)=false:=by rw [bne_eq_false_iff_eq];exact hcp
        have HCP:=hQ hcp;have hfit:=fit_of_check hcp;have hfk:∀y∈x.page.items,y.key.length≤65536∧y.value.length≤65536:=fun y hy=>by have:=hfit.k y hy;omega
        obtain⟨v0,v1,zv⟩:=pts2 (H6.out.perm (B:=((Pr.pts V (vaultC p mb)).star ((Pr.pts XB (numC x (.slice ai x.page.items.length ci) (.slice ad x.page.data.length cd))).star ((PoolA p (poolOf refs cs 0)).star ((MapA Tryz.prog 3 mb f).star ((Pr.own hk).star ((Pr.own h).star F))))))) (by ac_rfl))
        obtain⟨c0,c1,c2,c3,c4,c5,zx⟩:=pts6 (H6.out.perm (B:=((Pr.pts XB (numC x (.slice ai x.page.items.length ci) (.slice ad x.page.data.length cd))).star ((Pr.pts V (vaultC p mb)).star ((PoolA p (poolOf refs cs 0)).star ((MapA Tryz.prog 3 mb f).star ((Pr.own hk).star ((Pr.own h).star F))))))) (by ac_rfl))
        have CP:=hQ (copied_any h _ x.page hpg (by have:=hfit.n;omega) hfk (by have:=hfit.d;omega) _ _ H6.out.drew);clear hcp hfit hfk;go_wp2_with fail
        refine wS 82 [0,1,2,3,4,5,6,7] [(8,[],[0,1,2,3,4,5,6]),(9,[],[])] ?_;refine wpQ_all _ rfl rfl ?_;simp only [pick,pQ];iterate 8 (go_big_quiet_step (fail))
        refine wpQuiet_nil ?_;refine wpRest_act rfl ?_;go_wp2_with fail
        refine CP.out.mono ?_;rintro e w7 ⟨pv,h',rfl,hpv,hs7,st7⟩;have H7:=hQ (show Sat ((Pr.pts V (vaultC p mb)).star ((Pr.pts XB (numC x (.slice ai x.page.items.length ci) (.slice ad x.page.data.length cd))).star ((PoolA p (poolOf refs cs 0)).star ((MapA Tryz.prog 3 mb f).star ((Pr.own hk).star ((Pr.own h').star ((Pr.own h).star F))))))) w7 from hs7.perm (by ac_rfl))
        have HST7:=hQ (HST6.out.drew.trans st7);clear hs7 st7 CP v0 v1 zv c0 c1 c2 c3 c4 c5 zx;obtain⟨v0,v1,zv⟩:=pts2 H7.out;obtain⟨c0,c1,c2,c3,c4,c5,zx⟩:=pts6 H7.out.right;go_wp2;refine onN_mk ?_;refine wpQ_nil ⟨?_,?_⟩
        · exact cQ
        refine wpRest_act rfl ?_
        refine wpList_put rfl _ _ _ _ rfl Tryz.underlying3 Tryz.underlying68 x.no HNB.out _ rfl rfl rfl (H7.out.perm (B:=((MapA Tryz.prog 3 mb f).star ((Pr.pts V (vaultC p mb)).star ((Pr.pts XB (numC x (.slice ai x.page.items.length ci) (.slice ad x.page.data.length cd))).star ((PoolA p (poolOf refs cs 0)).star ((Pr.own hk).star ((Pr.own h').star ((Pr.own h).star F)))))))) (by ac_rfl)) ?_
        intro w8 hs8 hg8;have H8:=hQ hs8;have HST8:=hQ (HST7.out.of_grown hg8);clear hs8 hg8 v0 v1 zv c0 c1 c2 c3 c4 c5 zx;go_wp2;refine onN_mk (wpQ_nil ⟨chk_nil,wpRest_nil ?_⟩);go_wp2;go_roundw
        case rel=>
         have h9:=H8.out.perm (B:=(Pr.own hk).star ((Pr.own h').star ((Pr.pts XB (numC x (.slice ai x.page.items.length ci) (.slice ad x.page.data.length cd))).star ((Pr.pts V (vaultC p mb)).star ((PoolA p (poolOf refs cs 0)).star ((MapA Tryz.prog 3 mb fun m=>if m=x.no then some pv else f m).star ((Pr.own h).star F))))))) (by ac_rfl);obtain⟨hdis,h10⟩:=h9.own_join
         have hon2:OnIn (hk.un h') (fun m=>if m=x.no then some pv else f m) (fun m=>if m=x.no then some x.page else on m):=(hof.out.sub (Hp.sub_un_left _ _)).put (hpv.sub (Hp.sub_un_right hdis))
         refine⟨k+1,fun m=>if m=x.no then some x.page else on m,hk.un h',fun m=>if m=x.no then some pv else f m,by omega,congrArg (Value.int .i64) (by omega),HST8.out,hQ ?_,hQ (hon.out.put HC.out HCP.out),hQ hon2,?_⟩
         · rw [← HLAY.out]
           conv=>rhs;unfold lay
           rw [if_neg HC.out,if_neg (by rw [hox];decide),if_neg (by rw [HCP.out];decide)]
         · exact((h10.perm (B:=(Pr.pts XB (numC x (.slice ai x.page.items.length ci) (.slice ad x.page.data.length cd))).star _) (Pr.left_comm _ _ _)).right).perm (by ac_rfl)
        case measure=>simp [intOf];omega
      · have hcn:(checkP x.page != 0)=true:=by rw [bne_iff_ne];exact hcp
        have HCP:=hQ hcp;clear hcp;go_wp2;go_ret2;refine⟨HST6.out,.inl ?_⟩;have e:lay cs l (fun _=>none)=(checkP x.page,on):=by rw [← HLAY.out];unfold lay;rw [if_neg HC.out,if_neg (by rw [hox];decide),if_pos HCP.out]
        rw [HLE.out,e,if_pos HCP.out];exact⟨HCP.out,rfl,(H6.out.perm (B:=((Pr.pts XB (numC x (.slice ai x.page.items.length ci) (.slice ad x.page.data.length cd))).star ((Pr.pts V (vaultC p mb)).star ((PoolA p (poolOf refs cs 0)).star ((MapA Tryz.prog 3 mb f).star ((Pr.own hk).star ((Pr.own h).star F))))))) (by ac_rfl)).right.right.right.right.right⟩
    · have hkl2:k=l.length:=by omega
      subst hkl2;have hlay1:=hlay.out;rw [List.drop_length] at hlay1;have HLAY:=hQ (show lay cs l (fun _=>none)=(0,on) from hlay1.symm);clear hlay hlay1;obtain⟨v0,v1,zv⟩:=pts2 hs;have H1:=hQ (show Sat ((Pr.pts V (vaultC p mb)).star ((PoolA p (poolOf refs cs 0)).star ((MapA Tryz.prog 3 mb f).star ((Pr.own hk).star ((Pr.own h).star F))))) _ from hs.drew)
      have TL:=hQ (tally_A p (poolOf refs cs 0) 4 (.inr rfl) _ _ (H1.out.perm (B:=((PoolA p (poolOf refs cs 0)).star ((Pr.pts V (vaultC p mb)).star ((MapA Tryz.prog 3 mb f).star ((Pr.own hk).star ((Pr.own h).star F)))))) (by ac_rfl)));rw [tally_held HOK.out] at TL;have HST1:=hQ hst;clear hs hst;go_wp2_with fail
      refine wS 82 [0,1,2,3,5,6,7,8] [(4,[],[0,1,2,5,6,7,8]),(9,[10],[0,1,2,5,6,7])] ?_;refine wpQ_all _ rfl rfl ?_;simp only [pick,pQ];iterate 8 (go_big_quiet_step (fail))
      refine wpQuiet_nil ?_;refine wpRest_act rfl ?_;refine wpList_lenK rfl _ _ rfl Tryz.underlying3 Tryz.underlying68 rfl (H1.out.perm (B:=((MapA Tryz.prog 3 mb f).star ((Pr.pts V (vaultC p mb)).star ((PoolA p (poolOf refs cs 0)).star ((Pr.own hk).star ((Pr.own h).star F)))))) (by ac_rfl)) (fun n hnn K hK=> ?_);go_simp;refine hK _ ?_;clear hK K
      have HNN:=hQ (hnn (heldL cs) (held_nodup cs) (fun m v hm=>held_mem.2 (by
       have h1:=hof.out m
       cases hom:on m with
       | none=>rw [hom] at h1;rw [h1] at hm;cases hm
       | some g=>exact hon.out.there m g hom)))
      clear hnn;refine wpList_nil ?_
      have hfn:∀m,f m=none↔on m=none:=by
       intro m;have h1:=hof.out m;cases hom:on m with
       | none=>rw [hom] at h1;rw [h1];exact⟨fun _=>rfl,fun _=>rfl⟩
       | some g=>rw [hom] at h1;obtain⟨v,hv,_⟩:=h1;rw [hv];exact⟨fun h=>(by cases h),fun h=>(by cases h)⟩
      have HLK:=hQ (show n<(heldL cs).length↔lacks cs on=true by
       rw [HNN.out,lacks_iff]
       exact⟨fun⟨x,hx,e⟩=>⟨x,hx,(hfn x).1 e⟩,fun⟨x,hx,e⟩=>⟨x,hx,(hfn x).2 e⟩⟩)
      clear hfn HNN;refine onN_mk ?_;refine wpQ_nil ⟨?_,?_⟩
      · exact cQ
      refine wpRest_act rfl ?_;go_wp2_with fail
      refine TL.out.mono ?_;rintro e w4 ⟨rfl,rfl⟩;go_wp2;refine onN_mk ?_;refine wpQ_all _ rfl rfl ?_;simp only [pick,pQ];iterate 1 (go_big_quiet_step (fail))
      refine wpQuiet_nil ⟨?_,?_⟩
      · exact cQ
      refine wpRest_nil ?_;cases hlk:lacks cs on with
      | true=>
        have hlt2:n<(heldL cs).length:=HLK.out.2 hlk;have HL:=hQ hlk;clear hlk;go_wp2;go_ret2;refine⟨HST1.out.drew,.inl ?_⟩;rw [HLE.out,HLAY.out,if_neg (show ¬(0:Int)≠0 by decide),if_pos HL.out];exact⟨(show (9:Int)≠0 by decide),rfl,H1.out.right.right.right.right⟩
      | false=>
        have hlt2:(heldL cs).length≤n:=Nat.le_of_not_lt (mt HLK.out.1 (by rw [hlk];decide));have HL:=hQ hlk;clear hlk;go_wp2;go_ret2;refine⟨HST1.out.drew,.inr ?_⟩;rw [HLE.out,HLAY.out,if_neg (show ¬(0:Int)≠0 by decide),if_neg (by rw [HL.out];decide)];refine⟨rfl,V,rfl,vaultA_iff.2 ⟨⟨p,mb,.slice none 0 0,f,[],hk⟩,⟨hof.out,⟨rfl,fun i h=>absurd h (by simp)⟩,Int.le_refl _,by simp⟩,H1.out.perm ?_⟩⟩
        unfold VaultAt;rw [show (Row 158 2 (.slice none 0 0) (loadV refs cs on).acts.length (actCells []))=Pr.emp from Row.nil _ _,Pr.emp_star];ac_rfl
end Go.Proofs.YtbobcmimkonnoaaGreat.G7
