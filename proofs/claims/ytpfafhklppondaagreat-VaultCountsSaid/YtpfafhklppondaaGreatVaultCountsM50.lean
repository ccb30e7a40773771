/- The law's two; the conditions stand as hypotheses. -/
import Derived.Test.YtpfafhklppondaaGreatVaultCountsM49
import Derived.Test.YtpfafhklppondaaGreatVaultCountsM39
import Derived.Test.YtpfafhklppondaaGreatVaultCountsM03
import Derived.Lib.SmallJoins
import Derived.Test.YtpfafhklppondaaGreatVaultCountsM41
import Derived.Test.YtpfafhklppondaaGreatVaultCountsM47
import Derived.Test.YtpfafhklppondaaGreatVaultCountsM46
import Derived.Test.YtpfafhklppondaaGreatVaultCountsM48
import Derived.Test.YtpfafhklppondaaGreatVaultCountsM45
import Derived.Test.YtpfafhklppondaaGreatVaultCountsM17
import Derived.Test.YtpfafhklppondaaGreatVaultCountsM07
import Derived.Test.YtpfafhklppondaaGreatVaultCountsM20
import Derived.Test.YtpfafhklppondaaGreatVaultCountsM01
set_option maxRecDepth 100000
set_option maxHeartbeats 16000000
namespace Go.Proofs.YtpfafhklppondaaGreat.Gx
open ChangeShapes WideShapes ChangeAt RowKit Sl Cop M2 P3 X3 G4 Q2 X2 J4 L4 P4 Q6 X6 G5 F7 Sy K4 E5 Vy Wy Zy Yy Ex
theorem two_any(x v k:Nat)(rv lv:Value)(s:VaultS)(roots:List Int)(ls:List NumV)(ok:PlOK s roots ls (k+2))(i j:Int)(hi:i= -1∨∃a:Nat,a<roots.length∧i=a)(hj:j= -1∨∃b:Nat,b<roots.length∧j=b)(F:Pr)(w:World)(hF:OwnL (plL x v rv lv s roots ls [F]) w):
 Calls Tryz.prog 35 #[.pointer (some ⟨x,0,none⟩),.int .i64 i,.int .i64 j] w fun e w'=>e= .returned (.bool true)∧Stays w w'∧PlDone x v k F w':=by
 by_cases hbad:i<0∨j<0∨i=j
 · have HE:=hQ (show PlDone x v k F w from⟨_,lv,s,roots,ls,ok.le (by omega),hF⟩)
   clear hF ok hi hj;by_cases h1:i<0
   · go_enter Tryz.func35,Tryz.ntmps35
     go_wp2;go_ret;exact⟨rfl,Stays.refl w,HE.out⟩
   · by_cases h2:j<0
     · go_enter Tryz.func35,Tryz.ntmps35
       go_wp2;go_ret;exact⟨rfl,Stays.refl w,HE.out⟩
     · obtain rfl:i=j:=by omega
       clear hbad;go_enter Tryz.func35,Tryz.ntmps35
       go_wp2;go_ret;exact⟨rfl,Stays.refl w,HE.out⟩
 · obtain⟨a,ha,rfl⟩:∃a:Nat,a<roots.length∧i=a:=by
    rcases hi with rfl | h
    · omega
    · exact h
   obtain⟨b,hb,rfl⟩:∃b:Nat,b<roots.length∧j=b:=by
    rcases hj with rfl | h
    · omega
    · exact h
   have hab:((a:Int) == (b:Int))=false:=by rw [beq_eq_false_iff_ne];omega
   have hna:decide ((a:Int)<0)=false:=decide_eq_false (by omega);have hnb:decide ((b:Int)<0)=false:=decide_eq_false (by omega);have hab':a≠b:=by omega
   obtain⟨ar,cr,rfl⟩:=Row.shape (hF.pull1 (A1:=IntsRow rv roots));have ha2:(a:Int)≤120:=by have:=ok.rl;omega
   have hb2:(b:Int)≤120:=by have:=ok.rl;omega
   have okp:=(vault_ok (hF.pull1 (A1:=VaultA v s))).1;have HX:∀m,((roots.count m:Nat):Int)≤120:=fun m=>by have:=List.count_le_length (a:=m) (l:=roots);have:=ok.rl;omega
   have HA0:((roots.count roots[a]:Nat):Int)≠0:=by have:=List.count_pos_iff.2 (List.getElem_mem ha);omega
   have HB0:((roots.count roots[b]:Nat):Int)≠0:=by have:=List.count_pos_iff.2 (List.getElem_mem hb);omega
   have RA:=hQ (read_root (v:=v) ok.inv (ok.inv.root HA0));have RB:=hQ (read_root (v:=v) ok.inv (ok.inv.root HB0));have HSA:=hQ (ok.inv.sh roots[a] (ok.inv.root HA0));have HSB:=hQ (ok.inv.sh roots[b] (ok.inv.root HB0));have HTA:=hQ (And.intro (ok.inv.xr roots[a] HA0) (ok.inv.xr roots[b] HB0));have HRC:=hQ (And.intro HX (And.intro ok (And.intro ha hb)))
   have HN:=hQ (show s.pool.counts.length≤65536 from okp.n2);have HST:=hQ (Stays.refl w)
   have HB:∃b,ar=some ⟨b,0,none⟩:=by
    obtain⟨_,_,e,_,hc⟩:=Row.read (hF.pull1 (A1:=IntsRow (.slice ar roots.length cr) roots));cases e;obtain⟨b,e,_⟩:=hc (by omega);exact⟨b,e⟩
   obtain⟨br,rfl⟩:=HB;have HCA:=hQ (ints_cell (hF.pull1 (A1:=IntsRow (.slice (some ⟨br,0,none⟩) roots.length cr) roots)) ha);have HS:=hQ hF;have HL:=hQ (show s.pool.there roots[a]∧s.pool.there roots[b] from⟨ok.inv.xr _ HA0,ok.inv.xr _ HB0⟩);clear hF ok okp HX HA0 HB0 hi hj hbad;go_enter Tryz.func35,Tryz.ntmps35
   go_wp2_with fail
   go_cut [7,8] from 26 to 41 (fun t1 t2 wx=> ∃(J:Nat) (er:Int) (g:PageV) (h':Hp) (s':VaultS) (tai tad:Option Addr) (tci tcd:Nat),t1= .pointer (some ⟨J,0,none⟩)∧t2= .int .i64 er∧(s'=s∧er=0∧g=s.get roots[a])∧PageIn h' (pageV g.kind g.level (.slice tai g.items.length tci) (.slice tad g.data.length tcd) g.next) g∧Stays w wx∧
    OwnL [Pr.pts J (pageC g.kind g.level (.slice tai g.items.length tci) (.slice tad g.data.length tcd) g.next),Pr.own h',VaultA v s',Pr.pts x (placesC v (.slice (some ⟨br,0,none⟩) roots.length cr) lv),IntsRow (.slice (some ⟨br,0,none⟩) roots.length cr) roots,NumsRow lv ls,F] wx)
   case first=>
    have c1:=HS.out.facts;simp only [CellsAt,Nat.reduceAdd,and_true] at c1;have k1:=HCA.out.1;have z1:=World.block_lt_of_cell? _ _ k1
    refine wp_region_forked (sz:=161) (by kernel_rfl) [0,1,2,3,4,5,6,7,8,9,10] [(15,[],[0,1,2,3,4,5,6,7,8,9,10],[(11,[12,13,14],[0,1,2,4,5,6,7,8,9]),(16,[17],[14])]),(11,[12,13,14],[0,1,2,4,5,6,7,8,9],[(15,[],[0,1,2,4,5,6,7,8,9,12,13,14]),(16,[17],[14])])] rfl (by kernel_rfl) (by kernel_rfl) (by kernel_rfl) ?_;refine wpQ_all _ rfl rfl ?_;simp only [pick,pQ];iterate 11 (go_big_quiet_step (fail))
    refine wpQuiet_nil ?_;intro sx hsx;rcases List.mem_cons.1 hsx with rfl | hsx
    · have hs8:=HS.out.drew.alloc (pageC 0 0 (.slice none 0 0) (.slice none 0 0) 0)
      have V:=hQ (RA.out _ _ (hs8.pull1 (A1:=VaultA v s)));have HSTA:=hQ (HST.out.drew.alloc (pageC 0 0 (.slice none 0 0) (.slice none 0 0) 0));clear hs8;refine wpRest_act rfl ?_;go_wp2;refine onN_mk ?_;refine wpQ_nil ⟨?_,?_⟩
      · exact cQ
      refine wpRest_act rfl ?_;go_wp2_with fail
      refine V.out.mono ?_;rintro e w5 ⟨st5,tai,tad,tci,tcd,er,g,h',s',rfl,hq,hp,hs9⟩;rw [show w.drew.heap.size=w.heap.size by simp] at hs9;dsimp only [pageV];have hs10:=OwnL.of2 hs9;clear c1;have c1:=hs10.facts;simp only [CellsAt,Nat.reduceAdd,and_true] at c1
      have hs11:=(((((hs10.set w.heap.size 0 (.int .i64 g.kind)).set w.heap.size 1 (.int .i64 g.level)).set w.heap.size 2 (.slice tai g.items.length tci)).set w.heap.size 3 (.slice tad g.data.length tcd)).set w.heap.size 4 (.int .i64 g.next))
      have HEND:=hQ (And.intro hq (And.intro hp (And.intro ((((((HSTA.out.trans st5).setCell ⟨w.heap.size,0,none⟩ (.int .i64 g.kind)).setCell ⟨w.heap.size,1,none⟩ (.int .i64 g.level)).setCell ⟨w.heap.size,2,none⟩ (.slice tai g.items.length tci)).setCell ⟨w.heap.size,3,none⟩ (.slice tad g.data.length tcd)).setCell ⟨w.heap.size,4,none⟩ (.int .i64 g.next)) hs11)));clear hs9 hs10 hs11 hq hp st5 V HSTA
      go_wp2;refine onN_mk ?_;refine wpQ_all _ rfl rfl ?_;simp only [pick,pQ];iterate 3 (go_big_quiet_step (fail))
      refine wpQuiet_nil ⟨?_,?_⟩
      · exact cQ
      refine wpRest_act rfl ?_;go_wp2;refine onN_mk ?_;refine wpQ_all _ rfl rfl ?_;simp only [pick,pQ];iterate 1 (go_big_quiet_step (fail))
      refine wpQuiet_nil ⟨?_,?_⟩
      · exact cQ
      refine wpRest_nil ?_;go_wp2;go_meet
      exact⟨_,er,g,h',s',tai,tad,tci,tcd,rfl,rfl,HEND.out.1,HEND.out.2.1,HEND.out.2.2.1,HEND.out.2.2.2.to⟩
    · cases List.mem_singleton.1 hsx
      have V:=hQ (RA.out _ _ (HS.out.drew.pull1 (A1:=VaultA v s)));refine wpRest_act rfl ?_;go_wp2_with fail
      refine V.out.mono ?_;rintro e w5 ⟨st5,tai,tad,tci,tcd,er,g,h',s',rfl,hq,hp,hs9⟩;dsimp only [pageV];have hs10:=OwnL.of2 hs9;clear c1;have c1:=hs10.facts;simp only [CellsAt,Nat.reduceAdd,and_true] at c1;have hs11:=hs10.alloc (pageC g.kind g.level (.slice tai g.items.length tci) (.slice tad g.data.length tcd) g.next)
      have HEND:=hQ (And.intro hq (And.intro hp (And.intro ((HST.out.drew.trans st5).alloc (pageC g.kind g.level (.slice tai g.items.length tci) (.slice tad g.data.length tcd) g.next)) hs11)));clear hs9 hs10 hs11 hq hp st5 V;go_wp2;refine onN_mk ?_;refine wpQ_all _ rfl rfl ?_;simp only [pick,pQ];iterate 3 (go_big_quiet_step (fail))
      refine wpQuiet_nil ⟨?_,?_⟩
      · exact cQ
      refine wpRest_act rfl ?_;go_wp2;refine onN_mk ?_;refine wpQ_nil ⟨?_,?_⟩
      · exact cQ
      refine wpRest_act rfl ?_;go_wp2;refine onN_mk ?_;refine wpQ_all _ rfl rfl ?_;simp only [pick,pQ];iterate 1 (go_big_quiet_step (fail))
      refine wpQuiet_nil ⟨?_,?_⟩
      · exact cQ
      refine wpRest_nil ?_;go_wp2;go_meet
      exact⟨_,er,g,h',s',tai,tad,tci,tcd,rfl,rfl,HEND.out.1,HEND.out.2.1,HEND.out.2.2.1,HEND.out.2.2.2.to⟩
   case rest=>
    obtain⟨J1,er,g1,hp1,s',tai1,tad1,tci1,tcd1,rfl,rfl,⟨hq,rfl,hg1⟩,hpg1,st1,hs2⟩:=hcut;have hq2:=hq.symm;clear hq;subst hq2;rename World=>wA
    have HCB:=hQ (ints_cell (hs2.pull1 (A1:=IntsRow (.slice (some ⟨br,0,none⟩) roots.length cr) roots)) hb);have HST1:=hQ st1;have HS1:=hQ hs2;have HG1:=hQ hg1;clear hs2 st1 HS HST HCA hpg1 RA hg1;go_wp2_with fail
    go_cut [9,10] from 41 to 56 (fun t1 t2 wx=> ∃(J:Nat) (er:Int) (g:PageV) (h':Hp) (s':VaultS) (tai tad:Option Addr) (tci tcd:Nat),t1= .pointer (some ⟨J,0,none⟩)∧t2= .int .i64 er∧(s'=s∧er=0∧g=s.get roots[b])∧PageIn h' (pageV g.kind g.level (.slice tai g.items.length tci) (.slice tad g.data.length tcd) g.next) g∧Stays w wx∧
     OwnL [Pr.pts J (pageC g.kind g.level (.slice tai g.items.length tci) (.slice tad g.data.length tcd) g.next),Pr.own h',VaultA v s',Pr.pts J1 (pageC g1.kind g1.level (.slice tai1 g1.items.length tci1) (.slice tad1 g1.data.length tcd1) g1.next),Pr.own hp1,Pr.pts x (placesC v (.slice (some ⟨br,0,none⟩) roots.length cr) lv),IntsRow (.slice (some ⟨br,0,none⟩) roots.length cr) roots,NumsRow lv ls,F] wx)
    case first=>
     have c1:=HS1.out.facts;simp only [CellsAt,Nat.reduceAdd,and_true] at c1;have k1:=HCB.out.1;have z1:=World.block_lt_of_cell? _ _ k1
     refine wp_region_forked (sz:=161) (by kernel_rfl) [0,1,2,3,4,5,6,7,8,9,10] [(15,[],[0,1,2,3,4,5,6,7,8,9,10],[(11,[12,13,14],[0,1,2,4,5,6,7,8,9]),(16,[17],[14])]),(11,[12,13,14],[0,1,2,4,5,6,7,8,9],[(15,[],[0,1,2,4,5,6,7,8,9,12,13,14]),(16,[17],[14])])] rfl (by kernel_rfl) (by kernel_rfl) (by kernel_rfl) ?_;refine wpQ_all _ rfl rfl ?_;simp only [pick,pQ];iterate 11 (go_big_quiet_step (fail))
     refine wpQuiet_nil ?_;intro sx hsx;rcases List.mem_cons.1 hsx with rfl | hsx
     · have hs8:=HS1.out.drew.alloc (pageC 0 0 (.slice none 0 0) (.slice none 0 0) 0)
       have V:=hQ (RB.out _ _ (hs8.pull1 (A1:=VaultA v s)));have HSTA:=hQ (HST1.out.drew.alloc (pageC 0 0 (.slice none 0 0) (.slice none 0 0) 0));clear hs8;refine wpRest_act rfl ?_;go_wp2;refine onN_mk ?_;refine wpQ_nil ⟨?_,?_⟩
       · exact cQ
       refine wpRest_act rfl ?_;go_wp2_with fail
       refine V.out.mono ?_;rintro e w5 ⟨st5,tai,tad,tci,tcd,er,g,h',s',rfl,hq,hp,hs9⟩;rw [show wA.drew.heap.size=wA.heap.size by simp] at hs9;dsimp only [pageV];have hs10:=OwnL.of2 hs9;clear c1;have c1:=hs10.facts;simp only [CellsAt,Nat.reduceAdd,and_true] at c1
       have hs11:=(((((hs10.set wA.heap.size 0 (.int .i64 g.kind)).set wA.heap.size 1 (.int .i64 g.level)).set wA.heap.size 2 (.slice tai g.items.length tci)).set wA.heap.size 3 (.slice tad g.data.length tcd)).set wA.heap.size 4 (.int .i64 g.next))
       have HEND:=hQ (And.intro hq (And.intro hp (And.intro ((((((HSTA.out.trans st5).setCell ⟨wA.heap.size,0,none⟩ (.int .i64 g.kind)).setCell ⟨wA.heap.size,1,none⟩ (.int .i64 g.level)).setCell ⟨wA.heap.size,2,none⟩ (.slice tai g.items.length tci)).setCell ⟨wA.heap.size,3,none⟩ (.slice tad g.data.length tcd)).setCell ⟨wA.heap.size,4,none⟩ (.int .i64 g.next)) hs11)))
       clear hs9 hs10 hs11 hq hp st5 V HSTA;go_wp2;refine onN_mk ?_;refine wpQ_all _ rfl rfl ?_;simp only [pick,pQ];iterate 3 (go_big_quiet_step (fail))
       refine wpQuiet_nil ⟨?_,?_⟩
       · exact cQ
       refine wpRest_act rfl ?_;go_wp2;refine onN_mk ?_;refine wpQ_all _ rfl rfl ?_;simp only [pick,pQ];iterate 1 (go_big_quiet_step (fail))
       refine wpQuiet_nil ⟨?_,?_⟩
       · exact cQ
       refine wpRest_nil ?_;go_wp2;go_meet
       exact⟨_,er,g,h',s',tai,tad,tci,tcd,rfl,rfl,HEND.out.1,HEND.out.2.1,HEND.out.2.2.1,HEND.out.2.2.2.to⟩
     · cases List.mem_singleton.1 hsx
       have V:=hQ (RB.out _ _ (HS1.out.drew.pull1 (A1:=VaultA v s)));refine wpRest_act rfl ?_;go_wp2_with fail
       refine V.out.mono ?_;rintro e w5 ⟨st5,tai,tad,tci,tcd,er,g,h',s',rfl,hq,hp,hs9⟩;dsimp only [pageV];have hs10:=OwnL.of2 hs9;clear c1;have c1:=hs10.facts;simp only [CellsAt,Nat.reduceAdd,and_true] at c1;have hs11:=hs10.alloc (pageC g.kind g.level (.slice tai g.items.length tci) (.slice tad g.data.length tcd) g.next)
       have HEND:=hQ (And.intro hq (And.intro hp (And.intro ((HST1.out.drew.trans st5).alloc (pageC g.kind g.level (.slice tai g.items.length tci) (.slice tad g.data.length tcd) g.next)) hs11)));clear hs9 hs10 hs11 hq hp st5 V;go_wp2;refine onN_mk ?_;refine wpQ_all _ rfl rfl ?_;simp only [pick,pQ];iterate 3 (go_big_quiet_step (fail))
       refine wpQuiet_nil ⟨?_,?_⟩
       · exact cQ
       refine wpRest_act rfl ?_;go_wp2;refine onN_mk ?_;refine wpQ_nil ⟨?_,?_⟩
       · exact cQ
       refine wpRest_act rfl ?_;go_wp2;refine onN_mk ?_;refine wpQ_all _ rfl rfl ?_;simp only [pick,pQ];iterate 1 (go_big_quiet_step (fail))
       refine wpQuiet_nil ⟨?_,?_⟩
       · exact cQ
       refine wpRest_nil ?_;go_wp2;go_meet
       exact⟨_,er,g,h',s',tai,tad,tci,tcd,rfl,rfl,HEND.out.1,HEND.out.2.1,HEND.out.2.2.1,HEND.out.2.2.2.to⟩
    case rest=>
     obtain⟨J2,er,g2,hp2,s',tai2,tad2,tci2,tcd2,rfl,rfl,⟨hq,rfl,hg2⟩,hpg2,st2,hs3⟩:=hcut;have hq2:=hq.symm;clear hq;subst hq2;rename World=>wB
     have HST2:=hQ st2;have HS2:=hQ hs3;have HG2:=hQ hg2;have c1:=hs3.facts;simp only [CellsAt,Nat.reduceAdd,and_true] at c1;clear hs3 st2 HS1 HST1 HCB hpg2 RB hg2;have hl1:0≤g1.level∧g1.level≤5:=by rw [HG1.out];exact⟨HSA.out.level.1,HSA.out.level.2.1⟩
     by_cases hlev:g1.level=g2.level∧g1.kind≠3∧g2.kind≠3∧g1.level<5
     · obtain⟨q1,q2,q3,q4⟩:=hlev
       have HKA:=hQ (ints_cell (HS2.out.pull1 (A1:=IntsRow (.slice (some ⟨br,0,none⟩) roots.length cr) roots)) ha);have HKB:=hQ (ints_cell (HS2.out.pull1 (A1:=IntsRow (.slice (some ⟨br,0,none⟩) roots.length cr) roots)) hb);generalize hra:roots[a]=ra at*;generalize hrb:roots[b]=rb at*;have HQ1:=hQ (And.intro q1 (And.intro q2 (And.intro q3 q4)))
       have e1:(g1.level == g2.level)=true:=by rw [q1];exact beq_self_eq_true _
       have e1b:(g1.level != g2.level)=false:=by rw [q1];simp
       have e2:(g1.kind == 3)=false:=by rw [beq_eq_false_iff_ne];exact q2
       have e3:(g2.kind == 3)=false:=by rw [beq_eq_false_iff_ne];exact q3
       have e4:decide (5≤g1.level)=false:=decide_eq_false (by omega);clear q1 q2 q3;go_wp2_with fail
       go_cut [11] from 82 to 105 (fun t1 wx=> ∃(J I B:Nat),t1= .pointer (some ⟨J,0,none⟩)∧Stays w wx∧
        OwnL [Pr.pts J (pageC 2 (g1.level+1) (.slice (some ⟨I,0,none⟩) 2 2) (.slice none 0 0) 0),Pr.pts I (jP ra rb B),Pr.pts B mP,VaultA v s,Pr.pts x (placesC v (.slice (some ⟨br,0,none⟩) roots.length cr) lv),IntsRow (.slice (some ⟨br,0,none⟩) roots.length cr) roots,NumsRow lv ls,F] wx)
       case first=>
        clear c1;have HQ:=hQ HS2.out.drew;have SQ:=hQ HST2.out.drew;have c1:=HQ.out.facts;simp only [CellsAt,Nat.reduceAdd,and_true] at c1;have k1:=(ints_cell (HQ.out.pull1 (A1:=IntsRow (.slice (some ⟨br,0,none⟩) roots.length cr) roots)) ha).1;rw [hra] at k1;have k2:=(ints_cell (HQ.out.pull1 (A1:=IntsRow (.slice (some ⟨br,0,none⟩) roots.length cr) roots)) hb).1;rw [hrb] at k2
        have z1:=World.block_lt_of_cell? _ _ k1;clear HS2 HST2 HKA HKB HL HTA HSA HSB HG1 HG2 HRC HN
        refine wp_region_tree (sz:=161) (by kernel_rfl) [0,1,2,3,4,5,6,7,8,9,10,13,14,15,16,17,18,19] (.alt (.act 23 [] [0,1,2,3,4,5,6,7,8,9,10,13,14,15,16,17,18,19] (.act 11 [] [0,1,2,3,4,5,6,7,8,9,10,13,14,15,16,17,18,19] (.act 12 [20] [0,1,2,3,4,5,6,7,8,9,10,13,14,15,16,17,18,19] (.act 21 [22] [0,1,2,3,4,5,6,7,8,9,13,14,15,16,17,18,19] (.act 24 [] [] .done))))) (.act 11 [] [0,1,2,3,4,5,6,7,8,9,10,13,14,15,16,17,18,19] (.alt (.act 23 [] [0,1,2,3,4,5,6,7,8,9,10,13,14,15,16,17,18,19] (.act 12 [20] [0,1,2,3,4,5,6,7,8,9,10,13,14,15,16,17,18,19] (.act 21 [22] [0,1,2,3,4,5,6,7,8,9,13,14,15,16,17,18,19] (.act 24 [] [] .done)))) (.act 12 [20] [0,1,2,3,4,5,6,7,8,9,10,13,14,15,16,17,18,19] (.alt (.act 23 [] [0,1,2,3,4,5,6,7,8,9,10,13,14,15,16,17,18,19,20] (.act 21 [22] [0,1,2,3,4,5,6,7,8,9,13,14,15,16,17,18,19] (.act 24 [] [] .done))) (.act 21 [22] [0,1,2,3,4,5,6,7,8,9,13,14,15,16,17,18,19] (.act 23 [] [0,1,2,3,4,5,6,7,8,9,13,14,15,16,17,18,19,22] (.act 24 [] [] .done)))))))) rfl (by kernel_rfl) (by kernel_rfl) (by kernel_rfl) (by kernel_rfl) ?_
        generalize hwq:wB.drew=wq at*;refine wpQ_all _ rfl rfl ?_;simp only [pick,pQ];iterate 18 (go_big_quiet_step (fail))
        refine wpQuiet_nil ?_;refine wpTree_alt ?_ ?_
        · have H1:=hQ (HQ.out.alloc (pageC 0 0 (.slice none 0 0) (.slice none 0 0) 0))
          have S1:=hQ (SQ.out.alloc (pageC 0 0 (.slice none 0 0) (.slice none 0 0) 0));refine wpTree_act rfl ?_;go_wp2;refine onN_mk ?_;refine wpQ_nil ⟨?_,?_⟩
          · exact cQ
          clear c1 k1 k2 z1 HQ SQ;generalize wq.alloc (pageC 0 0 (.slice none 0 0) (.slice none 0 0) 0)=w1 at*;generalize wq.heap.size=J at*;have c1:=H1.out.facts;simp only [CellsAt,Nat.reduceAdd,and_true] at c1;have k1:=(ints_cell (H1.out.pull1 (A1:=IntsRow (.slice (some ⟨br,0,none⟩) roots.length cr) roots)) ha).1;rw [hra] at k1
          have k2:=(ints_cell (H1.out.pull1 (A1:=IntsRow (.slice (some ⟨br,0,none⟩) roots.length cr) roots)) hb).1;rw [hrb] at k2;have z1:=World.block_lt_of_cell? _ _ k1;have kc:=Lib.run_convert_bytes_const (P:=Tryz.prog) w1 35 5 #[.int .u8 109] 1 1 Tryz.underlying35 Tryz.underlying5;have H2:=hQ (H1.out.alloc (.cells #[.int .u8 109] 5 (1,2)))
          have S2:=hQ (S1.out.alloc (.cells #[.int .u8 109] 5 (1,2)));refine wpTree_act rfl ?_;go_wp2;refine onN_mk ?_;refine wpQ_nil ⟨?_,?_⟩
          · exact cQ
          refine wpTree_act rfl ?_;go_wp2;refine onN_mk ?_;refine wpQ_all _ rfl rfl ?_;simp only [pick,pQ];iterate 1 (go_big_quiet_step (fail))
          refine wpQuiet_nil ⟨?_,?_⟩
          · exact cQ
          clear c1 k1 k2 z1 kc H1 S1;generalize w1.alloc (.cells #[.int .u8 109] 5 (1,2))=w2 at*;generalize w1.heap.size=B at*;have c1:=H2.out.facts;simp only [CellsAt,Nat.reduceAdd,and_true] at c1;have k1:=(ints_cell (H2.out.pull1 (A1:=IntsRow (.slice (some ⟨br,0,none⟩) roots.length cr) roots)) ha).1;rw [hra] at k1
          have k2:=(ints_cell (H2.out.pull1 (A1:=IntsRow (.slice (some ⟨br,0,none⟩) roots.length cr) roots)) hb).1;rw [hrb] at k2;have z1:=World.block_lt_of_cell? _ _ k1;have H3:=hQ (H2.out.alloc (.cells #[.slice none 0 0,.slice none 0 0,.int .i64 ra,.int .i64 0,.slice (some ⟨B,0,none⟩) 1 1,.slice none 0 0,.int .i64 rb,.int .i64 0] 49))
          have S3:=hQ (S2.out.alloc (.cells #[.slice none 0 0,.slice none 0 0,.int .i64 ra,.int .i64 0,.slice (some ⟨B,0,none⟩) 1 1,.slice none 0 0,.int .i64 rb,.int .i64 0] 49));refine wpTree_act rfl ?_;go_wp2;refine onN_mk ?_;refine wpQ_all _ rfl rfl ?_;simp only [pick,pQ];iterate 1 (go_big_quiet_step (fail))
          refine wpQuiet_nil ⟨?_,?_⟩
          · exact cQ
          clear c1 k1 k2 z1 H2 S2;generalize w2.alloc (.cells #[.slice none 0 0,.slice none 0 0,.int .i64 ra,.int .i64 0,.slice (some ⟨B,0,none⟩) 1 1,.slice none 0 0,.int .i64 rb,.int .i64 0] 49)=w3 at*;generalize w2.heap.size=I at*;have c1:=H3.out.facts;simp only [CellsAt,Nat.reduceAdd,and_true] at c1
          have k1:=(ints_cell (H3.out.pull1 (A1:=IntsRow (.slice (some ⟨br,0,none⟩) roots.length cr) roots)) ha).1;rw [hra] at k1;have k2:=(ints_cell (H3.out.pull1 (A1:=IntsRow (.slice (some ⟨br,0,none⟩) roots.length cr) roots)) hb).1;rw [hrb] at k2;have z1:=World.block_lt_of_cell? _ _ k1;have hs9:=H3.out
          have hs11:=(((((hs9.set J 0 (.int .i64 2)).set J 1 (.int .i64 (g1.level+1))).set J 2 (.slice (some ⟨I,0,none⟩) 2 2)).set J 3 (.slice none 0 0)).set J 4 (.int .i64 0))
          have HEND:=hQ (And.intro (((((S3.out.setCell ⟨J,0,none⟩ (.int .i64 2)).setCell ⟨J,1,none⟩ (.int .i64 (g1.level+1))).setCell ⟨J,2,none⟩ (.slice (some ⟨I,0,none⟩) 2 2)).setCell ⟨J,3,none⟩ (.slice none 0 0)).setCell ⟨J,4,none⟩ (.int .i64 0)) hs11);clear hs9 hs11;refine wpTree_act rfl ?_;go_wp2;refine onN_mk ?_;refine wpQ_nil ⟨?_,?_⟩
          · exact chk_nil
          refine wpTree_done ?_;go_wp2;go_meet
          exact⟨J,I,B,rfl,HEND.out.1,HEND.out.2.to⟩
        · have kf:=run_convert_far (P:=Tryz.prog) wq 35 5 #[.int .u8 109] 1 1 (pageC 0 0 (.slice none 0 0) (.slice none 0 0) 0) Tryz.underlying35 Tryz.underlying5
          have kc:=Lib.run_convert_bytes_const (P:=Tryz.prog) wq 35 5 #[.int .u8 109] 1 1 Tryz.underlying35 Tryz.underlying5;have H1:=hQ (HQ.out.alloc (.cells #[.int .u8 109] 5));have H2:=hQ (HQ.out.alloc (.cells #[.int .u8 109] 5 (1,2)));have S2:=hQ (SQ.out.alloc (.cells #[.int .u8 109] 5 (1,2)))
          have HZ:=hQ (show (wq.alloc (.cells #[.int .u8 109] 5 (1,2))).heap.size=(wq.alloc (.cells #[.int .u8 109] 5)).heap.size by simp);refine wpTree_act rfl ?_;go_wp2;refine onN_mk ?_;refine wpQ_nil ⟨?_,?_⟩
          · exact cQ
          clear HQ SQ;generalize wq.alloc (.cells #[.int .u8 109] 5)=w1 at*;generalize wq.alloc (.cells #[.int .u8 109] 5 (1,2))=w2 at*;generalize wq.heap.size=B at*;clear c1 k1 k2 z1;refine wpTree_alt ?_ ?_
          · have c1:=H1.out.facts
            simp only [CellsAt,Nat.reduceAdd,and_true] at c1;have k1:=(ints_cell (H1.out.pull1 (A1:=IntsRow (.slice (some ⟨br,0,none⟩) roots.length cr) roots)) ha).1;rw [hra] at k1;have k2:=(ints_cell (H1.out.pull1 (A1:=IntsRow (.slice (some ⟨br,0,none⟩) roots.length cr) roots)) hb).1;rw [hrb] at k2;have z1:=World.block_lt_of_cell? _ _ k1
            have H3:=hQ (H2.out.alloc (pageC 0 0 (.slice none 0 0) (.slice none 0 0) 0));have S3:=hQ (S2.out.alloc (pageC 0 0 (.slice none 0 0) (.slice none 0 0) 0));refine wpTree_act rfl ?_;go_wp2;refine onN_mk ?_;refine wpQ_nil ⟨?_,?_⟩
            · exact cQ
            clear c1 k1 k2 z1 H1;have c1:=H2.out.facts;simp only [CellsAt,Nat.reduceAdd,and_true] at c1;have k1:=(ints_cell (H2.out.pull1 (A1:=IntsRow (.slice (some ⟨br,0,none⟩) roots.length cr) roots)) ha).1;rw [hra] at k1;have k2:=(ints_cell (H2.out.pull1 (A1:=IntsRow (.slice (some ⟨br,0,none⟩) roots.length cr) roots)) hb).1;rw [hrb] at k2;have z1:=World.block_lt_of_cell? _ _ k1;rw [← HZ.out]
            clear HZ;refine wpTree_act rfl ?_;go_wp2;refine onN_mk ?_;refine wpQ_all _ rfl rfl ?_;simp only [pick,pQ];iterate 1 (go_big_quiet_step (fail))
            refine wpQuiet_nil ⟨?_,?_⟩
            · exact cQ
            clear c1 k1 k2 z1 H2 S2 kf kc;generalize w2.alloc (pageC 0 0 (.slice none 0 0) (.slice none 0 0) 0)=w3 at*;generalize w2.heap.size=J at*;have c1:=H3.out.facts;simp only [CellsAt,Nat.reduceAdd,and_true] at c1;have k1:=(ints_cell (H3.out.pull1 (A1:=IntsRow (.slice (some ⟨br,0,none⟩) roots.length cr) roots)) ha).1;rw [hra] at k1
            have k2:=(ints_cell (H3.out.pull1 (A1:=IntsRow (.slice (some ⟨br,0,none⟩) roots.length cr) roots)) hb).1;rw [hrb] at k2;have z1:=World.block_lt_of_cell? _ _ k1;have H4:=hQ (H3.out.alloc (.cells #[.slice none 0 0,.slice none 0 0,.int .i64 ra,.int .i64 0,.slice (some ⟨B,0,none⟩) 1 1,.slice none 0 0,.int .i64 rb,.int .i64 0] 49))
            have S4:=hQ (S3.out.alloc (.cells #[.slice none 0 0,.slice none 0 0,.int .i64 ra,.int .i64 0,.slice (some ⟨B,0,none⟩) 1 1,.slice none 0 0,.int .i64 rb,.int .i64 0] 49));refine wpTree_act rfl ?_;go_wp2;refine onN_mk ?_;refine wpQ_all _ rfl rfl ?_;simp only [pick,pQ];iterate 1 (go_big_quiet_step (fail))
            refine wpQuiet_nil ⟨?_,?_⟩
            · exact cQ
            clear c1 k1 k2 z1 H3 S3;generalize w3.alloc (.cells #[.slice none 0 0,.slice none 0 0,.int .i64 ra,.int .i64 0,.slice (some ⟨B,0,none⟩) 1 1,.slice none 0 0,.int .i64 rb,.int .i64 0] 49)=w4 at*;generalize w3.heap.size=I at*;have c1:=H4.out.facts;simp only [CellsAt,Nat.reduceAdd,and_true] at c1
            have k1:=(ints_cell (H4.out.pull1 (A1:=IntsRow (.slice (some ⟨br,0,none⟩) roots.length cr) roots)) ha).1;rw [hra] at k1;have k2:=(ints_cell (H4.out.pull1 (A1:=IntsRow (.slice (some ⟨br,0,none⟩) roots.length cr) roots)) hb).1;rw [hrb] at k2;have z1:=World.block_lt_of_cell? _ _ k1;have hs9:=H4.out
            have hs11:=(((((hs9.set J 0 (.int .i64 2)).set J 1 (.int .i64 (g1.level+1))).set J 2 (.slice (some ⟨I,0,none⟩) 2 2)).set J 3 (.slice none 0 0)).set J 4 (.int .i64 0))
            have HEND:=hQ (And.intro (((((S4.out.setCell ⟨J,0,none⟩ (.int .i64 2)).setCell ⟨J,1,none⟩ (.int .i64 (g1.level+1))).setCell ⟨J,2,none⟩ (.slice (some ⟨I,0,none⟩) 2 2)).setCell ⟨J,3,none⟩ (.slice none 0 0)).setCell ⟨J,4,none⟩ (.int .i64 0)) hs11);clear hs9 hs11;refine wpTree_act rfl ?_;go_wp2;refine onN_mk ?_;refine wpQ_nil ⟨?_,?_⟩
            · exact chk_nil
            refine wpTree_done ?_;go_wp2;go_meet
            exact⟨J,I,B,rfl,HEND.out.1,HEND.out.2.to⟩
          · have c1:=H2.out.facts
            simp only [CellsAt,Nat.reduceAdd,and_true] at c1;have k1:=(ints_cell (H2.out.pull1 (A1:=IntsRow (.slice (some ⟨br,0,none⟩) roots.length cr) roots)) ha).1;rw [hra] at k1;have k2:=(ints_cell (H2.out.pull1 (A1:=IntsRow (.slice (some ⟨br,0,none⟩) roots.length cr) roots)) hb).1;rw [hrb] at k2;have z1:=World.block_lt_of_cell? _ _ k1;refine wpTree_act rfl ?_;go_wp2;refine onN_mk ?_
            refine wpQ_all _ rfl rfl ?_;simp only [pick,pQ];iterate 1 (go_big_quiet_step (fail))
            refine wpQuiet_nil ⟨?_,?_⟩
            · exact cQ
            clear kf kc H1 HZ;refine wpTree_alt ?_ ?_
            · have H3:=hQ (H2.out.alloc (pageC 0 0 (.slice none 0 0) (.slice none 0 0) 0))
              have S3:=hQ (S2.out.alloc (pageC 0 0 (.slice none 0 0) (.slice none 0 0) 0));refine wpTree_act rfl ?_;go_wp2;refine onN_mk ?_;refine wpQ_nil ⟨?_,?_⟩
              · exact cQ
              clear c1 k1 k2 z1 H2 S2;generalize w2.alloc (pageC 0 0 (.slice none 0 0) (.slice none 0 0) 0)=w3 at*;generalize w2.heap.size=J at*;have c1:=H3.out.facts;simp only [CellsAt,Nat.reduceAdd,and_true] at c1;have k1:=(ints_cell (H3.out.pull1 (A1:=IntsRow (.slice (some ⟨br,0,none⟩) roots.length cr) roots)) ha).1;rw [hra] at k1
              have k2:=(ints_cell (H3.out.pull1 (A1:=IntsRow (.slice (some ⟨br,0,none⟩) roots.length cr) roots)) hb).1;rw [hrb] at k2;have z1:=World.block_lt_of_cell? _ _ k1;have H4:=hQ (H3.out.alloc (.cells #[.slice none 0 0,.slice none 0 0,.int .i64 ra,.int .i64 0,.slice (some ⟨B,0,none⟩) 1 1,.slice none 0 0,.int .i64 rb,.int .i64 0] 49))
              have S4:=hQ (S3.out.alloc (.cells #[.slice none 0 0,.slice none 0 0,.int .i64 ra,.int .i64 0,.slice (some ⟨B,0,none⟩) 1 1,.slice none 0 0,.int .i64 rb,.int .i64 0] 49));refine wpTree_act rfl ?_;go_wp2;refine onN_mk ?_;refine wpQ_all _ rfl rfl ?_;simp only [pick,pQ];iterate 1 (go_big_quiet_step (fail))
              refine wpQuiet_nil ⟨?_,?_⟩
              · exact cQ
              clear c1 k1 k2 z1 H3 S3;generalize w3.alloc (.cells #[.slice none 0 0,.slice none 0 0,.int .i64 ra,.int .i64 0,.slice (some ⟨B,0,none⟩) 1 1,.slice none 0 0,.int .i64 rb,.int .i64 0] 49)=w4 at*;generalize w3.heap.size=I at*;have c1:=H4.out.facts;simp only [CellsAt,Nat.reduceAdd,and_true] at c1
              have k1:=(ints_cell (H4.out.pull1 (A1:=IntsRow (.slice (some ⟨br,0,none⟩) roots.length cr) roots)) ha).1;rw [hra] at k1;have k2:=(ints_cell (H4.out.pull1 (A1:=IntsRow (.slice (some ⟨br,0,none⟩) roots.length cr) roots)) hb).1;rw [hrb] at k2;have z1:=World.block_lt_of_cell? _ _ k1;have hs9:=H4.out
              have hs11:=(((((hs9.set J 0 (.int .i64 2)).set J 1 (.int .i64 (g1.level+1))).set J 2 (.slice (some ⟨I,0,none⟩) 2 2)).set J 3 (.slice none 0 0)).set J 4 (.int .i64 0))
              have HEND:=hQ (And.intro (((((S4.out.setCell ⟨J,0,none⟩ (.int .i64 2)).setCell ⟨J,1,none⟩ (.int .i64 (g1.level+1))).setCell ⟨J,2,none⟩ (.slice (some ⟨I,0,none⟩) 2 2)).setCell ⟨J,3,none⟩ (.slice none 0 0)).setCell ⟨J,4,none⟩ (.int .i64 0)) hs11);clear hs9 hs11;refine wpTree_act rfl ?_;go_wp2;refine onN_mk ?_;refine wpQ_nil ⟨?_,?_⟩
              · exact chk_nil
              refine wpTree_done ?_;go_wp2;go_meet
              exact⟨J,I,B,rfl,HEND.out.1,HEND.out.2.to⟩
            · have H3:=hQ (H2.out.alloc (.cells #[.slice none 0 0,.slice none 0 0,.int .i64 ra,.int .i64 0,.slice (some ⟨B,0,none⟩) 1 1,.slice none 0 0,.int .i64 rb,.int .i64 0] 49))
              have S3:=hQ (S2.out.alloc (.cells #[.slice none 0 0,.slice none 0 0,.int .i64 ra,.int .i64 0,.slice (some ⟨B,0,none⟩) 1 1,.slice none 0 0,.int .i64 rb,.int .i64 0] 49));refine wpTree_act rfl ?_;go_wp2;refine onN_mk ?_;refine wpQ_all _ rfl rfl ?_;simp only [pick,pQ];iterate 1 (go_big_quiet_step (fail))
              refine wpQuiet_nil ⟨?_,?_⟩
              · exact cQ
              clear c1 k1 k2 z1 H2 S2;generalize w2.alloc (.cells #[.slice none 0 0,.slice none 0 0,.int .i64 ra,.int .i64 0,.slice (some ⟨B,0,none⟩) 1 1,.slice none 0 0,.int .i64 rb,.int .i64 0] 49)=w3 at*;generalize w2.heap.size=I at*;have c1:=H3.out.facts;simp only [CellsAt,Nat.reduceAdd,and_true] at c1
              have k1:=(ints_cell (H3.out.pull1 (A1:=IntsRow (.slice (some ⟨br,0,none⟩) roots.length cr) roots)) ha).1;rw [hra] at k1;have k2:=(ints_cell (H3.out.pull1 (A1:=IntsRow (.slice (some ⟨br,0,none⟩) roots.length cr) roots)) hb).1;rw [hrb] at k2;have z1:=World.block_lt_of_cell? _ _ k1;have H4:=hQ (H3.out.alloc (pageC 0 0 (.slice none 0 0) (.slice none 0 0) 0))
              have S4:=hQ (S3.out.alloc (pageC 0 0 (.slice none 0 0) (.slice none 0 0) 0));refine wpTree_act rfl ?_;go_wp2;refine onN_mk ?_;refine wpQ_nil ⟨?_,?_⟩
              · exact cQ
              clear c1 k1 k2 z1 H3 S3;generalize w3.alloc (pageC 0 0 (.slice none 0 0) (.slice none 0 0) 0)=w4 at*;generalize w3.heap.size=J at*;have c1:=H4.out.facts;simp only [CellsAt,Nat.reduceAdd,and_true] at c1;have k1:=(ints_cell (H4.out.pull1 (A1:=IntsRow (.slice (some ⟨br,0,none⟩) roots.length cr) roots)) ha).1;rw [hra] at k1
              have k2:=(ints_cell (H4.out.pull1 (A1:=IntsRow (.slice (some ⟨br,0,none⟩) roots.length cr) roots)) hb).1;rw [hrb] at k2;have z1:=World.block_lt_of_cell? _ _ k1;have hs9:=H4.out;have hs11:=(((((hs9.set J 0 (.int .i64 2)).set J 1 (.int .i64 (g1.level+1))).set J 2 (.slice (some ⟨I,0,none⟩) 2 2)).set J 3 (.slice none 0 0)).set J 4 (.int .i64 0))
              have HEND:=hQ (And.intro (((((S4.out.setCell ⟨J,0,none⟩ (.int .i64 2)).setCell ⟨J,1,none⟩ (.int .i64 (g1.level+1))).setCell ⟨J,2,none⟩ (.slice (some ⟨I,0,none⟩) 2 2)).setCell ⟨J,3,none⟩ (.slice none 0 0)).setCell ⟨J,4,none⟩ (.int .i64 0)) hs11);clear hs9 hs11;refine wpTree_act rfl ?_;go_wp2;refine onN_mk ?_;refine wpQ_nil ⟨?_,?_⟩
              · exact chk_nil
              refine wpTree_done ?_;go_wp2;go_meet
              exact⟨J,I,B,rfl,HEND.out.1,HEND.out.2.to⟩
       case rest=>
        obtain⟨J,I,B,rfl,st3,hs4⟩:=hcut;obtain⟨h9,ha9,hs6⟩:=(hs4.join2 (Pr.pts I (jP ra rb B)) (Pr.pts B mP)).arena ((Pr.pts I (jP ra rb B)).star (Pr.pts B mP));have hsh:Shape s.pool.counts.length (indexP g1.level ra rb):= .index _ _ _ hl1.1 (by omega) HTA.out.1 HTA.out.2
        have M:=hQ (pl_make v s _ ls (k+1) HRC.out.2.1.inv (indexP g1.level ra rb) hsh (hsh.check HN.out) h9 _ (index_page ha9) hsh.u8 _ wc.drew (hs6.drew.pull2 (A1:=VaultA v s) (A2:=Pr.own h9)));have HST3:=hQ st3;have HS3:=hQ hs6;clear c1;have c1:=hs6.facts;simp only [CellsAt,Nat.reduceAdd,and_true] at c1;clear HS2 HST2 hs4 hs6 st3 ha9 hsh HKA HKB;go_wp2_with fail
        refine wS 161 [0,1,2,3,4] [(5,[6,7,8,9,10],[0,1,2])] ?_;refine wpQ_all _ rfl rfl ?_;simp only [pick,pQ];iterate 5 (go_big_quiet_step (fail))
        refine wpQuiet_nil ?_;refine wpRest_act rfl ?_;go_wp2_with fail
        refine M.out.mono ?_;rintro e w6 ⟨st6,(⟨htl,rfl,hs7⟩ | ⟨n,s'',rfl,htn,hInv,hs7⟩)⟩
        · have hs8:=OwnL.of2 hs7
          have HE:=hQ (show PlDone x v k F w6 from⟨.slice (some ⟨br,0,none⟩) roots.length cr,lv,s,roots,ls,HRC.out.2.1.le (by omega),hs8.to⟩);have HST6:=hQ (HST3.out.drew.trans st6);obtain⟨xx,okx,hs9⟩:=vault_open (v:=v) (s:=s) hs8;clear c1;have c1:=hs9.facts;simp only [CellsAt,Nat.reduceAdd,and_true] at c1;have T:=hQ (tally_all xx.p s.pool 1 _ _ (hs9.pull1 (A1:=PoolA xx.p s.pool)));rw [htl] at T
          clear hs7 hs8 hs9 okx st6 HST3 HS3 M HSA HSB HTA HRC HN HL HG1 HG2 HQ1;go_wp2;refine onN_mk ?_;refine wpQ_all _ rfl rfl ?_;simp only [pick,pQ];iterate 5 (go_big_quiet_step (fail))
          refine wpQuiet_nil ⟨?_,?_⟩
          · exact cQ
          refine wpRest_nil ?_;go_wp2_with fail
          refine T.out.mono ?_;rintro e w7 ⟨rfl,rfl⟩;go_wp2;go_ret;exact⟨rfl,HST6.out,HE.out⟩
        · have hs8:=OwnL.of2 hs7
          obtain⟨HX,hok,ha2',hb2'⟩:=HRC.out;have hrl:=hok.rl
          have INV:=hQ (hInv (fun m=>(((restF roots a b roots.length++ [n]).count m:Nat):Int)) (fun m=>by
           have h1:=restF_all roots hab' ha2' hb2' m
           rw [hra,hrb] at h1
           have h2:List.count m [ra,rb]=(if m=ra then 1 else 0)+if m=rb then 1 else 0:=by
            rw [show [ra,rb]= [ra]++ [rb] from rfl,List.count_append,count_one,count_one]
           rw [kids_indexP,List.count_append,count_one,h2]
           generalize List.count m (restF roots a b roots.length)=c0 at*
           generalize List.count m roots=c2 at*
           rw [← h1]
           split<;>split<;>split<;>simp<;>omega) (fun m=>by
           have h1:=List.count_le_length (a:=m) (l:=restF roots a b roots.length++ [n])
           have h2:=restF_len roots a b roots.length
           rw [List.length_append,List.length_singleton] at h1
           omega))
          have HST6:=hQ (HST3.out.drew.trans st6);have HS6:=hQ hs8;have HC9:=hQ hs8;have hLr:(roots.length:Int)≤120:=by omega
          have HRL:=hQ hrl;obtain⟨i0,hi0,hz0,hz1,hz2⟩:=info_parts infoInt;clear c1;have c1:=hs8.facts;simp only [CellsAt,Nat.reduceAdd,and_true] at c1;clear hs7 hs8 hInv st6 HST3 HS3 M HSA HSB HTA HN HL HG1 HG2 HQ1 HX hok hrl HC9 HRC;go_wp2;refine onN_mk ?_;refine wpQ_all _ rfl rfl ?_;simp only [pick,pQ];iterate 5 (go_big_quiet_step (fail))
          refine wpQuiet_nil ⟨?_,?_⟩
          · exact cQ
          refine wpRest_nil ?_;go_wp2_with fail
          go_loopw [13,14] (fun l i wr=> ∃j:Nat,j≤roots.length∧i= .int .i64 j∧Stays w wr∧OwnL [IntsRow l (restF roots a b j),VaultA v s'',Pr.pts x (placesC v (.slice (some ⟨br,0,none⟩) roots.length cr) lv),IntsRow (.slice (some ⟨br,0,none⟩) roots.length cr) roots,NumsRow lv ls,F] wr) (fun _ i _=>roots.length-(intOf i).toNat)
          case atStart=>exact⟨0,Nat.zero_le _,rfl,HST6.out,OwnL.ints0 (HS6.out.to (M:= [VaultA v s'',Pr.pts x (placesC v (.slice (some ⟨br,0,none⟩) roots.length cr) lv),IntsRow (.slice (some ⟨br,0,none⟩) roots.length cr) roots,NumsRow lv ls,F]))⟩
          case round=>
           obtain⟨j,hj,rfl,hst,hs⟩:=hrel;clear c1 HS6 HST6;obtain⟨al,cl,rfl⟩:=Row.shape (T:=3) (k:=1) (xs:=(restF roots a b j).map (Value.int .i64)) hs.sat;have c1:=hs.facts;simp only [CellsAt,Nat.reduceAdd,and_true] at c1;have hll:=restF_len roots a b j;have HSTK:=hQ hst;have HSK:=hQ hs;rcases Nat.lt_or_ge j roots.length with hlt | hge
           · have k1:=(ints_cell (hs.pull1 (A1:=IntsRow (.slice (some ⟨br,0,none⟩) roots.length cr) roots)) hlt).1
             have z1:=World.block_lt_of_cell? _ _ k1;clear hs hst;by_cases h1:j=a
             · have e1:((j:Int) != (a:Int))=false:=by rw [bne_eq_false_iff_eq];omega
               have HSK2:=hQ (restF_skip (roots:=roots) (b:=b) (n:=j) (a:=a) (.inl h1));clear h1;go_wp2;go_roundw
               case rel=>exact⟨j+1,by omega,congrArg (Value.int .i64) (by omega),HSTK.out,by rw [HSK2.out];exact HSK.out⟩
               case measure=>simp [intOf];omega
             · have e1:((j:Int) != (a:Int))=true:=by rw [bne_iff_ne];omega
               by_cases h2:j=b
               · have e2:((j:Int) != (b:Int))=false:=by rw [bne_eq_false_iff_eq];omega
                 have HSK2:=hQ (restF_skip (roots:=roots) (b:=b) (n:=j) (a:=a) (.inr h2));clear h1 h2;go_wp2;go_roundw
                 case rel=>exact⟨j+1,by omega,congrArg (Value.int .i64) (by omega),HSTK.out,by rw [HSK2.out];exact HSK.out⟩
                 case measure=>simp [intOf];omega
               · have e2:((j:Int) != (b:Int))=true:=by rw [bne_iff_ne];omega
                 have HSK2:=hQ (restF_step (a:=a) (b:=b) h1 h2 hlt);clear h1 h2;generalize roots[j]=rj at*;have A1:=hQ ((HSK.out.alloc (.cells [.int .i64 rj].toArray 3)).drop.pull1 (A1:=IntsRow (.slice al (restF roots a b j).length cl) (restF roots a b j)));have hnew:=hQ (new_cells wr [.int .i64 rj] 3 _ rfl);generalize restF roots a b j=rl at*
                 go_wp2_with
                  (at_builtin
                   refine wpList_append_sl rfl _ _ _ rfl 3 i0 (.int .i64 0) 1 8 Tryz.underlying29 hi0 hz0 hz1 hz2 rfl _ _ _ rfl A1.out ⟨wr.heap.size,0,none⟩ 1 1 [.int .i64 rj] rfl rfl hnew.out (by simp [Value.oneCell']) (by simp only [maxLen];omega) (by omega) ?_
                   intro v7 w4 hs4 hg4 _
                   obtain⟨a7',c7',e7',_,_⟩:=Row.read hs4
                   subst e7'
                   have HS4:=hQ hs4
                   have HG4:=hQ ((HSTK.out.alloc _).of_grown hg4)
                   clear hs4 hg4)
                 go_roundw
                 case rel=>exact⟨j+1,by omega,congrArg (Value.int .i64) (by omega),HG4.out,by rw [HSK2.out];exact(OwnL.of1 (ints_snoc HS4.out)).to⟩
                 case measure=>simp [intOf];omega
           · obtain rfl:j=roots.length:=by omega
             clear hs hst hge hj;generalize restF roots a b roots.length=rl at*;have A1:=hQ ((HSK.out.alloc (.cells [.int .i64 n].toArray 3)).drop.pull1 (A1:=IntsRow (.slice al rl.length cl) rl));have hnew:=hQ (new_cells wr [.int .i64 n] 3 _ rfl)
             go_wp2_with
              (at_builtin
               refine wpList_append_sl rfl _ _ _ rfl 3 i0 (.int .i64 0) 1 8 Tryz.underlying29 hi0 hz0 hz1 hz2 rfl _ _ _ rfl A1.out ⟨wr.heap.size,0,none⟩ 1 1 [.int .i64 n] rfl rfl hnew.out (by simp [Value.oneCell']) (by simp only [maxLen];omega) (by omega) ?_
               intro v7 w4 hs4 hg4 _
               obtain⟨a7',c7',e7',_,_⟩:=Row.read hs4
               subst e7'
               have hs5:=OwnL.of1 (ints_snoc hs4)
               clear c1
               have c1:=hs5.facts
               simp only [CellsAt,Nat.reduceAdd,and_true] at c1
               have HS5:=hQ (hs5.set x 1 (.slice a7' (rl.length+1) c7'))
               have HG4:=hQ (((HSTK.out.alloc _).of_grown hg4).setCell ⟨x,1,none⟩ (.slice a7' (rl.length+1) c7'))
               clear hs4 hs5 hg4)
             go_ret;refine⟨rfl,HG4.out,.slice a7' (rl.length+1) c7',lv,s'',rl++ [n],ls,⟨INV.out.le (by omega),by rw [List.length_append,List.length_singleton];have:=HRL.out;omega⟩,HS5.out.to⟩
     · have HE:=hQ (show PlDone x v k F wB from⟨.slice (some ⟨br,0,none⟩) roots.length cr,lv,s,roots,ls,HRC.out.2.1.le (by omega),HS2.out.to⟩)
       clear HSA HSB HTA HRC HN HL HG1 HG2 HS2;by_cases q1:g1.level=g2.level
       · by_cases q2:g1.kind=3
         · go_wp2
           go_ret;exact⟨rfl,HST2.out,HE.out⟩
         · by_cases q3:g2.kind=3
           · go_wp2
             go_ret;exact⟨rfl,HST2.out,HE.out⟩
           · have q4:5≤g1.level:=by
              rcases Int.lt_or_le g1.level 5 with h | h
              · exact absurd ⟨q1,q2,q3,h⟩ hlev
              · exact h
             go_wp2;go_ret;exact⟨rfl,HST2.out,HE.out⟩
       · go_wp2
         go_ret;exact⟨rfl,HST2.out,HE.out⟩
end Go.Proofs.YtpfafhklppondaaGreat.Gx
namespace Go.Proofs.YtpfafhklppondaaGreat.Hx
open ChangeShapes WideShapes ChangeAt RowKit Sl Cop M2 P3 X3 G4 Q2 X2 J4 L4 P4 Q6 X6 G5 F7 Sy K4 E5 Bz Vy Wy Zy Yy F6 Z6 Sz Gx
theorem step5(x v k:Nat)(rv lv:Value)(s:VaultS)(roots:List Int)(ls:List NumV)(ok:PlOK s roots ls (k+2))(kind N K pk pl nx:Int)(ai ad:Option Addr)(mi ci md cd:Nat)(hkd:kind.tmod 7=5)(F:Pr)(w:World)(hF:OwnL (plL x v rv lv s roots ls [F]) w):
 Calls Tryz.prog 8 #[.pointer (some ⟨x,0,none⟩),.agg #[.int .i64 kind,.int .i64 N,.int .i64 K,.int .i64 pk,.int .i64 pl,.slice ai mi ci,.slice ad md cd,.int .i64 nx]] w fun e w'=>e= .returned (.bool true)∧Stays w w'∧PlDone x v k F w':=by
 obtain⟨ar,cr,rfl⟩:=Row.shape (hF.pull1 (A1:=IntsRow rv roots));have hs0:=(hF.alloc (.cells #[.pointer (some ⟨x,0,none⟩)] 28)).alloc (opC11 kind N K pk pl (.slice ai mi ci) (.slice ad md cd) nx);rw [show (w.alloc (.cells #[.pointer (some ⟨x,0,none⟩)] 28)).heap.size=w.heap.size+1 by simp] at hs0
 have HST:=hQ (((Stays.refl w).alloc (.cells #[.pointer (some ⟨x,0,none⟩)] 28)).alloc (opC11 kind N K pk pl (.slice ai mi ci) (.slice ad md cd) nx));have hrl:=ok.rl;have RT:=hQ (root_any x v (.slice ar roots.length cr) lv s roots ls _ (by omega) N _ (pl_pack hs0));have HS0:=hQ hs0;have HOK:=hQ ok;clear hF hs0 ok;go_enter Tryz.func8,Tryz.ntmps8
 go_wp2_with fail
 refine RT.out.mono ?_;rintro e w1 ⟨⟨i,rfl,hi⟩,ho⟩;have hs1:=HS0.out.ext ho.heap;have HST1:=hQ (HST.out.trans ho.st);clear RT HS0 HST ho;generalize w.heap.size+1=BO at*;generalize w.heap.size=BP at*;have c1:=hs1.facts;simp only [CellsAt,Nat.reduceAdd,and_true] at c1;have AG:=hQ (again_any x v k (.slice ar roots.length cr) lv s roots ls HOK.out i (hi.imp (fun h=>h.1) id) _ w1 (pl_pack hs1))
 clear hs1 hi hrl HOK;go_wp2_with fail
 refine AG.out.mono ?_;rintro e w2 ⟨rfl,st2,hd⟩;have HD:=hQ hd;have HST2:=hQ (HST1.out.trans st2);clear hd st2;go_wp2;go_ret;exact⟨rfl,HST2.out,Go.Proofs.YtpfafhklppondaaGreat.plMem.PlDone.sub HD.out⟩
theorem step1(x v k:Nat)(rv lv:Value)(s:VaultS)(roots:List Int)(ls:List NumV)(ok:PlOK s roots ls (k+2))(kind N K pk pl nx:Int)(ai ad:Option Addr)(mi ci md cd:Nat)(hkd:kind.tmod 7=1)(F:Pr)(w:World)(hF:OwnL (plL x v rv lv s roots ls [F]) w):
 Calls Tryz.prog 8 #[.pointer (some ⟨x,0,none⟩),.agg #[.int .i64 kind,.int .i64 N,.int .i64 K,.int .i64 pk,.int .i64 pl,.slice ai mi ci,.slice ad md cd,.int .i64 nx]] w fun e w'=>e= .returned (.bool true)∧Stays w w'∧PlDone x v k F w':=by
 obtain⟨ar,cr,rfl⟩:=Row.shape (hF.pull1 (A1:=IntsRow rv roots));have hs0:=(hF.alloc (.cells #[.pointer (some ⟨x,0,none⟩)] 28)).alloc (opC11 kind N K pk pl (.slice ai mi ci) (.slice ad md cd) nx);rw [show (w.alloc (.cells #[.pointer (some ⟨x,0,none⟩)] 28)).heap.size=w.heap.size+1 by simp] at hs0
 have HST:=hQ (((Stays.refl w).alloc (.cells #[.pointer (some ⟨x,0,none⟩)] 28)).alloc (opC11 kind N K pk pl (.slice ai mi ci) (.slice ad md cd) nx));have hrl:=ok.rl;have RT:=hQ (root_any x v (.slice ar roots.length cr) lv s roots ls _ (by omega) N _ (pl_pack hs0));have HS0:=hQ hs0;have HOK:=hQ ok;clear hF hs0 ok;go_enter Tryz.func8,Tryz.ntmps8
 go_wp2_with fail
 refine RT.out.mono ?_;rintro e w1 ⟨⟨i,rfl,hi⟩,ho⟩;have hs1:=HS0.out.ext ho.heap;have HST1:=hQ (HST.out.trans ho.st);clear RT HS0 HST ho;generalize w.heap.size+1=BO at*;generalize w.heap.size=BP at*;have c1:=hs1.facts;simp only [CellsAt,Nat.reduceAdd,and_true] at c1;have R2:=hQ (root_any x v (.slice ar roots.length cr) lv s roots ls _ (by omega) K w1.drew (pl_pack hs1.drew));have HS1:=hQ hs1
 have HI:=hQ hi;clear hs1 hi hrl;go_wp2_with fail
 refine wS 300 [0,1,2,3,4] [(5,[],[0,1,3]),(6,[7],[3])] ?_;refine wpQ_all _ rfl rfl ?_;simp only [pick,pQ];iterate 5 (go_big_quiet_step (fail))
 refine wpQuiet_nil ?_;refine wpRest_act rfl ?_;go_wp2_with fail
 refine R2.out.mono ?_;rintro e w2 ⟨⟨j,rfl,hj⟩,ho2⟩;have hs2:=HS1.out.drew.ext ho2.heap;have HST2:=hQ (HST1.out.drew.trans ho2.st);have TW:=hQ (two_any x v k (.slice ar roots.length cr) lv s roots ls HOK.out i j (HI.out.imp (fun h=>h.1) id) (hj.imp (fun h=>h.1) id) _ w2 (pl_pack hs2));clear c1;have c1:=hs2.facts;simp only [CellsAt,Nat.reduceAdd,and_true] at c1;clear hs2 ho2 hj R2 HS1 HST1 HI
 go_wp2;refine onN_mk ?_;refine wpQ_nil ⟨?_,?_⟩
 · exact cQ
 refine wpRest_act rfl ?_;go_wp2_with fail
 refine TW.out.mono ?_;rintro e w3 ⟨rfl,st3,hd⟩;have HD:=hQ hd;have HST3:=hQ (HST2.out.trans st3);clear hd st3;go_wp2;refine onN_mk ?_;refine wpQ_all _ rfl rfl ?_;simp only [pick,pQ];iterate 1 (go_big_quiet_step (fail))
 refine wpQuiet_nil ⟨?_,?_⟩
 · exact cQ
 refine wpRest_nil ?_;go_wp2;go_ret;exact⟨rfl,HST3.out,Go.Proofs.YtpfafhklppondaaGreat.plMem.PlDone.sub HD.out⟩
end Go.Proofs.YtpfafhklppondaaGreat.Hx
namespace Go.Proofs.YtpfafhklppondaaGreat.Kx
open ChangeShapes WideShapes ChangeAt RowKit Sl Cop P3 Q2 X2 J4 L4 D5 P4 X5 S6 Dx Z2 F7 Vy Yy Tz Hx Uz Vz Wz Xz Cx
theorem step_any(x v k:Nat)(hp:Hp)(F:Pr)(w:World)(hd:PlDone x v (k+2) F w)(o:OpP)(vi vd:Value)(hb:OpPB hp o (vi,vd)):
 Calls Tryz.prog 8 #[.pointer (some ⟨x,0,none⟩),.agg #[.int .i64 o.kind,.int .i64 o.n,.int .i64 o.k,.int .i64 o.g.kind,.int .i64 o.g.level,vi,vd,.int .i64 o.g.next]] w fun e w'=>e= .returned (.bool true)∧Stays w w'∧PlDone x v k F w':=by
 obtain⟨rv,lv,s,roots,ls,ok,hs⟩:=hd;obtain⟨ai,ci,rfl,_,_⟩:=items_rd hb.1;obtain⟨ad,cd,rfl⟩:=bytes_shape hb.2;by_cases h0:o.kind.tmod 7=0
 · exact step0 x v k rv lv s roots ls ok _ _ _ _ _ _ _ _ _ _ _ _ h0 F w hs
 by_cases h1:o.kind.tmod 7=1
 · exact step1 x v k rv lv s roots ls ok _ _ _ _ _ _ _ _ _ _ _ _ h1 F w hs
 by_cases h2:o.kind.tmod 7=2
 · exact step2 x v k rv lv s roots ls ok _ _ _ _ _ _ _ _ _ _ _ _ h2 F w hs
 by_cases h3:o.kind.tmod 7=3
 · exact step3 x v k rv lv s roots ls ok _ _ _ _ _ _ _ _ _ _ _ _ h3 F w hs
 by_cases h4:o.kind.tmod 7=4
 · exact step4 x v k rv lv s roots ls ok _ _ _ _ _ _ _ _ _ _ _ _ h4 F w hs
 by_cases h5:o.kind.tmod 7=5
 · exact step5 x v k rv lv s roots ls ok _ _ _ _ _ _ _ _ _ _ _ _ h5 F w hs
 exact step6 x v k rv lv s roots ls ok _ _ _ _ _ _ _ _ _ _ _ _ h0 h1 h2 h3 h4 h5 F w hs
theorem right_done(x v k:Nat)(F:Pr)(w:World)(hd:PlDone x v k F w):
 Calls Tryz.prog 9 #[.pointer (some ⟨x,0,none⟩)] w fun e w'=>e= .returned (.bool true)∧Stays w w'∧PlDone x v k F w':=by
 obtain⟨rv,lv,s,roots,ls,ok,hs⟩:=hd;refine(right_any x v k rv lv s roots ls ok F w hs).mono ?_;rintro e w' ⟨he,st,hs'⟩;exact⟨he,st,rv,lv,s,roots,ls,ok,hs'⟩
theorem pl_frame {x v k:Nat}{F:Pr}{w:World}(hd:PlDone x v k F w):Sat F w:=by
 obtain⟨rv,lv,s,roots,ls,ok,hs⟩:=hd;exact hs.end1
theorem counts_walk(pages:Int)(vo:Value)(ops:List OpP)(w:World)(ho:OpsP (heapOf w) vo ops):
 Calls Tryz.prog 3 #[.int .i64 pages,vo] w fun e w'=>e= .returned (.bool true)∧Sat (Pr.own (heapOf w)) w'∧Stays w w':=by
 obtain⟨ao,co,rfl,hoc,hom,rd⟩:=opsP_rd ho;obtain⟨n,hn⟩:∃n:Nat,n=min ops.length 60:=⟨_,rfl⟩;have hmin:min (ops.length:Int) 60=(n:Int):=by omega
 have hnc:n≤co:=by omega
 have hn2:n≤60:=by omega
 have hn3:n≤ops.length:=by omega
 have X:=hQ (lives_any ((Pr.own (heapOf w)).star Pr.emp) w ((sat_heap w).perm (Pr.star_emp _).symm));have RD:=hQ rd;clear ho hoc hom hn rd;by_cases hp1:pages<1
 · go_enter Tryz.func3,Tryz.ntmps3
   go_wp2_with (first | refine wpList_min rfl _ _ rfl rfl (ops.length:Int) 60 (n:Int) hmin.symm rfl rfl ?_ | refine wpList_slice_to rfl 22 39 _ _ rfl Tryz.underlying22 8 (fun w=>by go_simp) ao ops.length co n hnc rfl rfl ?_)
   refine X.out.mono ?_;rintro e w1 ⟨rfl,st1,hs1⟩;have HST:=hQ st1;have HS1:=hQ hs1;clear X st1 hs1;go_wp2;go_ret;exact⟨rfl,HS1.out.left,HST.out⟩
 by_cases hp2:200<pages
 · go_enter Tryz.func3,Tryz.ntmps3
   go_wp2_with (first | refine wpList_min rfl _ _ rfl rfl (ops.length:Int) 60 (n:Int) hmin.symm rfl rfl ?_ | refine wpList_slice_to rfl 22 39 _ _ rfl Tryz.underlying22 8 (fun w=>by go_simp) ao ops.length co n hnc rfl rfl ?_)
   refine X.out.mono ?_;rintro e w1 ⟨rfl,st1,hs1⟩;have HST:=hQ st1;have HS1:=hQ hs1;clear X st1 hs1;go_wp2;go_ret;exact⟨rfl,HS1.out.left,HST.out⟩
 obtain⟨pg,rfl⟩:∃pg:Nat,pages=pg:=⟨pages.toNat,by omega⟩;have hpg:1≤pg∧pg≤200:=by omega
 have B:=hQ (fun(wx:World) hF=>vnew_any pg 65535 (by omega) ((Pr.own (heapOf w)).star Pr.emp) wx hF);go_enter Tryz.func3,Tryz.ntmps3
 go_wp2_with (first | refine wpList_min rfl _ _ rfl rfl (ops.length:Int) 60 (n:Int) hmin.symm rfl rfl ?_ | refine wpList_slice_to rfl 22 39 _ _ rfl Tryz.underlying22 8 (fun w=>by go_simp) ao ops.length co n hnc rfl rfl ?_)
 refine X.out.mono ?_;rintro e w1 ⟨rfl,st1,hs1⟩;have B1:=hQ (B.out w1 hs1);have HST:=hQ st1;clear X st1 hs1 B;go_wp2_with fail
 refine B1.out.mono ?_;rintro e w2 ⟨st2,v,rfl,hs2⟩;have hs3:=(OwnL.in1 (A1:=VaultA v (newV 65535 pg)) (F:=(Pr.own (heapOf w)).star Pr.emp) hs2).alloc (placesC v (.slice none 0 0) (.slice none 0 0));have hs4:=(OwnL.of1 (numsRow_start hs3.ints0.sat)).to (M:=plL w2.heap.size v (.slice none 0 0) (.slice none 0 0) (newV 65535 pg) [] [] [(Pr.own (heapOf w)).star Pr.emp])
 have HD:=hQ (show PlDone w2.heap.size v 120 ((Pr.own (heapOf w)).star Pr.emp) _ from⟨_,_,_,_,_,pl_new hpg,hs4⟩);have HST2:=hQ ((HST.out.trans st2).alloc (placesC v (.slice none 0 0) (.slice none 0 0)));clear hs2 hs3 hs4 st2 B1 HST;go_wp2;generalize w2.alloc (placesC v (.slice none 0 0) (.slice none 0 0))=w3 at*;generalize w2.heap.size=x at*
 go_loopw [8] (fun i wr=> ∃k:Nat,k≤n∧i= .int .i64 k∧Stays w wr∧Hid (PlDone x v (120-2*k) ((Pr.own (heapOf w)).star Pr.emp) wr)) (fun i _=>n-(intOf i).toNat)
 case atStart=>exact⟨0,Nat.zero_le _,rfl,HST2.out,HD⟩
 case round=>
  obtain⟨i,hi,rfl,hst,hd⟩:=hrel;clear HD HST2;rcases Nat.lt_or_ge i n with hlt | hge
  · have hio:i<ops.length:=by omega
    obtain⟨b,off,ai,ad,ci,cd,rfl,ob,cells⟩:=RD.out i hio;have k8:=cells wr (pl_frame hd.out).own;have z0:=World.block_lt_of_cell? _ _ k8.1;have D:=hQ (step_any x v (120-2*i-2) (heapOf w) _ wr (by rw [show 120-2*i-2+2=120-2*i by omega];exact hd.out) ops[i] _ _ ob);have HST3:=hQ hst;clear cells ob hd hst;generalize ops[i]=O at*;go_wp2_with fail
    refine D.out.mono ?_;rintro e w4 ⟨rfl,st4,hd4⟩;have RT:=hQ (right_done x v (120-2*i-2) _ w4 hd4);have HST4:=hQ (HST3.out.trans st4);clear k8 z0 D HST3 hd4 st4;go_wp2_with fail
    refine RT.out.mono ?_;rintro e w5 ⟨rfl,st5,hd5⟩;have HD5:=hQ hd5;have HST5:=hQ (HST4.out.trans st5);clear RT HST4 hd5 st5;go_wp2;go_roundw
    case rel=>exact⟨i+1,by omega,congrArg (Value.int .i64) (by omega),HST5.out,by rw [show 120-2*(i+1)=120-2*i-2 by omega];exact HD5⟩
    case measure=>simp [intOf];omega
  · have hin:i=n:=by omega
    subst hin;have HD:=hQ (pl_frame hd.out);have HST3:=hQ hst;clear hd hst;go_wp2;go_ret;exact⟨rfl,HD.out.left,HST3.out⟩
end Go.Proofs.YtpfafhklppondaaGreat.Kx
