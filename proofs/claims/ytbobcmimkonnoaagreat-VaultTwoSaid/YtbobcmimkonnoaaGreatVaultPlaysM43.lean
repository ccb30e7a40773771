/- The law's do, kind by kind; the conditions stand as hypotheses. -/
import Derived.Test.YtbobcmimkonnoaaGreatVaultPlaysM38
import Derived.Test.YtbobcmimkonnoaaGreatVaultPlaysM29
import Derived.Test.YtbobcmimkonnoaaGreatVaultPlaysM15
import Derived.Test.YtbobcmimkonnoaaGreatVaultPlaysM39
import Derived.Test.YtbobcmimkonnoaaGreatVaultPlaysM40
import Derived.Test.YtbobcmimkonnoaaGreatVaultPlaysM41
import Derived.Test.YtbobcmimkonnoaaGreatVaultPlaysM42
import Derived.Test.YtbobcmimkonnoaaGreatVaultPlaysM01
set_option maxRecDepth 100000
set_option maxHeartbeats 16000000
namespace Go.Proofs.YtbobcmimkonnoaaGreat.Az
open ChangeShapes WideShapes ChangeAt RowKit Sl Cop D2 K3 N3 G2 M2 U3 Y3 J4 X3 Q8 X5 Y5 E6 F6 W6 Z6 K8 G4 N9 Dy Hy Ey Fy Gy U9 V9 Jy E9 L5 Qy
theorem infoKept:(Tryz.prog.info? 106).map (fun i=>(i.zero,i.size,i.bytes))=some (some (.agg #[.nilFunc,.slice none 0 0]),2,32):=by kernel_rfl
theorem do14_any(wb v r k:Nat)(z:LawS)(ok:LOK z (k+1))(kind N K pk pl nx:Int)(ai ad:Option Addr)(mi ci md cd:Nat)(hK: -9223372036854775808≤K∧K≤9223372036854775807)(hkd:kind=14)(F:Pr)(w:World)(hF:OwnL (lawL wb v r z [F]) w):
 Calls Tryz.prog 10 #[.pointer (some ⟨wb,0,none⟩),.agg #[.int .i64 kind,.int .i64 N,.int .i64 K,.int .i64 pk,.int .i64 pl,.slice ai mi ci,.slice ad md cd,.int .i64 nx]] w fun e w'=>e= .returned (.bool true)∧Stays w w'∧DoneH wb v r k F w':=by
 obtain⟨s,H,rs,gs,fl,l,kv,ws,h,tv,xv,bs⟩:=z
 obtain⟨j,ll,wl,bk,wk⟩:=ok
 dsimp only at j ll wl bk wk
 have okp:=(vault_ok (hF.pull1 (A1:=VaultA v s))).1
 have hs1:=hF.alloc (opC11 kind N K pk pl (.slice ai mi ci) (.slice ad md cd) nx)
 have HST:=hQ ((Stays.refl w).alloc (opC11 kind N K pk pl (.slice ai mi ci) (.slice ad md cd) nx))
 have c1:=hs1.facts
 simp only [CellsAt,Nat.reduceAdd,and_true] at c1
 have HOK:=hQ (And.intro ll (And.intro wl (And.intro bk wk)))
 have HK:=hQ hK
 clear hK
 have V:=hQ (vpages_any v s N j.now.tw.fit _ _ (hs1.drew.pull1 (A1:=VaultA v s)))
 have HL:=hQ (And.intro (nums_same j.now.tw N) (And.intro (nums_fit j.now.tw.fit (pagesIn s.pool N)) (show (numsOf s (pagesIn s.pool N)).length≤65536 by
  unfold numsOf
  rw [List.length_map]
  exact Nat.le_trans (pagesTo_len _ _ _) okp.n2)))
 have HJ:=hQ j
 obtain⟨L,hL⟩:∃L,numsOf s (pagesIn s.pool N)=L:=⟨_,rfl⟩
 rw [hL] at V HL
 obtain⟨nw,hnw⟩:∃nw,ws.length=nw:=⟨_,rfl⟩
 obtain⟨ak,ck,ekv⟩:=Row.shape (hs1.pull1 (A1:=WksRow kv ws))
 rw [hnw] at ekv
 subst ekv
 have HNW:=hQ hnw
 have hnw3:nw≤1048576:=by omega
 obtain⟨j0,hj,hy0,hy1,hy2⟩:=info_parts infoKept
 subst hkd
 clear hF hs1 j ll wl bk wk okp hL hnw
 go_enter Tryz.func10,Tryz.ntmps10
 go_wp2_with fail
 refine wp_region_staged (sz:=396) (by kernel_rfl) [0,1,2,3,4,5,6,7,8,9,10,12,13,14,15,16,17] [(11,[],[0,1,2,3,4,5,6,7,9,12,13,14,15,16,17]),(18,[19],[0,1,2,3,4,5,6,7,9,12,13,14,16]),(20,[],[0,1,2,3,4,5,6,7,9,12,13,14,16]),(21,[22,23],[0,1,2,3,5,6,7,9,12,13,14,16]),(24,[],[22])] rfl (by kernel_rfl) (by kernel_rfl) (by kernel_rfl) ?_
 refine wpQ_all _ rfl rfl ?_
 simp only [pick,pQ]
 iterate 17 (go_big_quiet_step (fail))
 refine wpQuiet_nil ?_
 refine wpRest_act rfl ?_
 go_wp2_with fail
 refine V.out.mono ?_
 rintro e w1 ⟨st1,h1,fv,rfl,hwk,hs2⟩
 obtain⟨lb,lv0,rfl,hwk1,hwk2⟩:=hwk
 have hs3:=OwnL.of2 hs2
 clear c1
 have c1:=hs3.facts
 simp only [CellsAt,Nat.reduceAdd,and_true] at c1
 have R:=hQ (rpagesH_any r rs gs fl l N _ _ (hs3.pull1 (A1:=RefH r rs gs fl l)))
 rw [← HL.out.1] at R
 have HWK:=hQ (show WalkIn h1 (.func (.func 117) #[] #[.pointer (some ⟨lb,0,none⟩)]) L from⟨lb,lv0,rfl,hwk1,hwk2⟩)
 have HST1:=hQ (HST.out.drew.trans st1)
 clear hs2 hs3 st1 V HST hwk1 hwk2
 go_wp2
 refine onN_mk ?_
 refine wpQ_nil ⟨?_,?_⟩
 · refine chk_all _ rfl rfl ?_
   simp only [pick,Same,pQ,and_true]
   repeat' (first | apply And.intro | (go_big_quiet_step (fail);exact wpQuiet_nil rfl))
 refine wpRest_act rfl ?_
 go_wp2_with fail
 refine R.out.mono ?_
 rintro e w2 ⟨st2,lv,h2,rfl,hwn,hs4⟩
 obtain⟨al,cl,rfl,_⟩:=nums_rd hwn
 have hs5:=OwnL.of2 hs4
 clear c1
 have c1:=hs5.facts
 simp only [CellsAt,Nat.reduceAdd,and_true] at c1
 obtain⟨hd1,hs6⟩:=(hs5.pull2 (A1:=Pr.own h) (A2:=Pr.own h1)).own_join
 obtain⟨hd2,hs7⟩:=((OwnL.of1 hs6).pull2 (A1:=Pr.own (h.un h1)) (A2:=Pr.own h2)).own_join
 have hsub:h.sub ((h.un h1).un h2):=(Hp.sub_un_left h h1).trans (Hp.sub_un_left (h.un h1) h2)
 have hwk2:=HWK.out.sub ((Hp.sub_un_right hd1).trans (Hp.sub_un_left (h.un h1) h2))
 obtain⟨xs2,y1,y2,y3⟩:=hwn
 have hwn2:NumsIn ((h.un h1).un h2) (.slice al L.length cl) L:=⟨xs2,y1,y2.sub (Hp.sub_un_right hd2),fun i hx hl=>⟨(y3 i hx hl).1.sub (Hp.sub_un_right hd2),(y3 i hx hl).2.sub (Hp.sub_un_right hd2)⟩⟩
 have HWE:=hQ (show WkOk ((h.un h1).un h2) ⟨.func (.func 117) #[] #[.pointer (some ⟨lb,0,none⟩)],.slice al L.length cl,L⟩ from⟨hwk2,hwn2,HL.out.2.1,HL.out.2.2⟩)
 have hs8:=OwnL.of1 hs7
 obtain⟨hs9,hn9⟩:=hs8.fresh [.func (.func 117) #[] #[.pointer (some ⟨lb,0,none⟩)],.slice al L.length cl] 106 w2.heap.size rfl
 have hs10:=hs9.to (M:= [WksRow (.slice ak nw ck) ws,Pr.own ((h.un h1).un h2),RefH r rs gs fl l,VaultA v s,workO wb v r (.slice ak nw ck) tv xv,BRest tv xv bs,F])
 dsimp only [WksRow] at hs10
 rw [HNW.out] at hs10
 have A1:=hQ hs10.sat
 have HNEW:=hQ hn9
 have HSUB:=hQ hsub
 have HST2:=hQ ((HST1.out.trans st2).alloc (.cells [Value.func (.func 117) #[] #[.pointer (some ⟨lb,0,none⟩)],.slice al L.length cl].toArray 106))
 clear hs4 hs5 hs6 hs7 hs8 hs9 hs10 hn9 hd1 hd2 hsub hwk2 hwn2 y1 y2 y3 st2 R HST1 HWK
 go_wp2
 refine onN_mk ?_
 refine wpQ_all _ rfl rfl ?_
 simp only [pick,pQ]
 iterate 1 (go_big_quiet_step (fail))
 refine wpQuiet_nil ⟨?_,?_⟩
 · refine chk_all _ rfl rfl ?_
   simp only [pick,Same,pQ,and_true]
   repeat' (first | apply And.intro | (go_big_quiet_step (fail);exact wpQuiet_nil rfl))
 refine wpRest_act rfl ?_
 go_wp2
 refine onN_mk ?_
 refine wpQ_nil ⟨?_,?_⟩
 · refine chk_all _ rfl rfl ?_
   simp only [pick,Same,pQ,and_true]
   repeat' (first | apply And.intro | (go_big_quiet_step (fail);exact wpQuiet_nil rfl))
 refine wpRest_act rfl ?_
 refine wpList_appN rfl _ _ _ rfl 106 j0 (.agg #[.nilFunc,.slice none 0 0]) 2 32 Tryz.underlying84 hj hy0 hy1 hy2 rfl _ _ _ rfl A1.out ⟨w2.heap.size,0,none⟩ 1 1 [.func (.func 117) #[] #[.pointer (some ⟨lb,0,none⟩)],.slice al L.length cl] rfl rfl HNEW.out (by simp [Value.oneCell']) (by simp only [maxLen];omega) (by omega) (fun v7 w7 hs11 hg11 K0 hK0=> ?_)
 obtain⟨a7,c7,e7,_,_⟩:=Row.read hs11
 subst e7
 go_simp
 refine hK0 _ ?_
 clear hK0 K0
 have hs12:=OwnL.of1 hs11
 have HS12:=hQ hs12
 have HST7:=hQ (HST2.out.of_grown hg11)
 clear c1
 have c1:=hs12.facts
 simp only [CellsAt,Nat.reduceAdd,and_true] at c1
 clear hs11 hs12 hg11 A1 HNEW HST2
 refine wpList_nil ?_
 refine onN_mk ?_
 refine wpQ_all _ rfl rfl ?_
 simp only [pick,pQ]
 iterate 2 (go_big_quiet_step (fail))
 refine wpQuiet_nil ⟨?_,?_⟩
 · refine chk_all _ rfl rfl ?_
   simp only [pick,Same,pQ,and_true]
   repeat' (first | apply And.intro | (go_big_quiet_step (fail);exact wpQuiet_nil rfl))
 refine wpRest_act rfl ?_
 go_wp2
 refine onN_mk ?_
 refine wpQ_nil ⟨?_,?_⟩
 · refine chk_all _ rfl rfl ?_
   simp only [pick,Same,pQ,and_true]
   repeat' (first | apply And.intro | (go_big_quiet_step (fail);exact wpQuiet_nil rfl))
 refine wpRest_nil ?_
 have hs13:=HS12.out.set wb 2 (.slice a7 (nw+1) c7)
 have HS13:=hQ hs13
 have HST8:=hQ (HST7.out.setCell ⟨wb,2,none⟩ (.slice a7 (nw+1) c7))
 clear hs13 c1 HS12 HST7
 go_wp2
 go_ret
 obtain⟨ll,wl,bk,wk⟩:=HOK.out
 have hnw2:=HNW.out
 refine⟨rfl,HST8.out,⟨s,H,rs,gs,fl,l,.slice a7 (nw+1) c7,ws++ [⟨.func (.func 117) #[] #[.pointer (some ⟨lb,0,none⟩)],.slice al L.length cl,L⟩],(h.un h1).un h2,tv,xv,bs⟩,⟨HJ.out.le (Nat.le_succ k),by show l.length+k≤ _;omega,by show (ws++ [_]).length+k≤ _;rw [List.length_append,List.length_singleton];omega,bk.sub HSUB.out,fun x hx=> ?_⟩,?_⟩
 · rcases List.mem_append.1 hx with hx | hx
   · exact(wk x hx).sub HSUB.out
   · rw [List.mem_singleton.1 hx];exact HWE.out
 · have h14:=HS13.out
   dsimp only [lawL,WksRow]
   rw [List.length_append,List.flatMap_append,List.length_singleton,HNW.out,List.flatMap_singleton]
   dsimp only [wkCells]
   exact h14.to
end Go.Proofs.YtbobcmimkonnoaaGreat.Az
namespace Go.Proofs.YtbobcmimkonnoaaGreat.Bz
open ChangeShapes WideShapes ChangeAt RowKit Sl Cop D2 K3 N3 G2 M2 U3 Y3 J4 X3 Q8 X5 Y5 E6 F6 W6 Z6 K8 G4 N9 Dy Hy Ey Fy Gy U9 V9 Jy E9 L5 Qy
theorem run_store_func {P:Program}{w:World}{a:Addr}{m:Mode}(f:Fn)(x y:Array Value):(store a (.func f x y) m).run P w=stored P w a (.func f x y) m:=run_store P w a _ m rfl
attribute [local go_sem] run_store_func
theorem do15_any(wb v r k:Nat)(z:LawS)(ok:LOK z k)(kind N K pk pl nx:Int)(ai ad:Option Addr)(mi ci md cd:Nat)(hK: -9223372036854775808≤K∧K≤9223372036854775807)(hkd:kind=15)(F:Pr)(w:World)(hF:OwnL (lawL wb v r z [F]) w):
 Calls Tryz.prog 10 #[.pointer (some ⟨wb,0,none⟩),.agg #[.int .i64 kind,.int .i64 N,.int .i64 K,.int .i64 pk,.int .i64 pl,.slice ai mi ci,.slice ad md cd,.int .i64 nx]] w fun e w'=>e= .returned (.bool true)∧Stays w w'∧DoneH wb v r k F w':=by
 obtain⟨s,H,rs,gs,fl,l,kv,ws,h,tv,xv,bs⟩:=z
 obtain⟨j,ll,wl,bk,wk⟩:=ok
 dsimp only at j ll wl bk wk
 have okp:=(vault_ok (hF.pull1 (A1:=VaultA v s))).1
 have hs1:=hF.alloc (opC11 kind N K pk pl (.slice ai mi ci) (.slice ad md cd) nx)
 have HST:=hQ ((Stays.refl w).alloc (opC11 kind N K pk pl (.slice ai mi ci) (.slice ad md cd) nx))
 have c1:=hs1.facts
 simp only [CellsAt,Nat.reduceAdd,and_true] at c1
 have HOK:=hQ (And.intro ll (And.intro wl (And.intro bk wk)))
 have HK:=hQ hK
 clear hK
 have HJ:=hQ j
 obtain⟨nw,hnw⟩:∃nw,ws.length=nw:=⟨_,rfl⟩
 obtain⟨ak,ck,ekv⟩:=Row.shape (hs1.pull1 (A1:=WksRow kv ws))
 rw [hnw] at ekv
 subst ekv
 have HNW:=hQ hnw
 have hnw3:(nw:Int)≤1048576:=by omega
 have HS1:=hQ hs1
 subst hkd
 by_cases h0:nw=0
 · subst h0
   clear hF hs1 j ll wl bk wk okp hnw
   go_enter Tryz.func10,Tryz.ntmps10
   go_wp2
   go_ret
   obtain⟨ll,wl,bk,wk⟩:=HOK.out
   exact⟨rfl,HST.out,⟨s,H,rs,gs,fl,l,.slice ak 0 ck,ws,h,tv,xv,bs⟩,⟨HJ.out,ll,wl,bk,wk⟩,HS1.out.to⟩
 · by_cases hk0:K<0
   · have hn0:((nw:Int) == 0)=false:=by rw [beq_eq_false_iff_ne];omega
     clear hF hs1 j ll wl bk wk okp hnw
     go_enter Tryz.func10,Tryz.ntmps10
     go_wp2
     go_ret
     obtain⟨ll,wl,bk,wk⟩:=HOK.out
     exact⟨rfl,HST.out,⟨s,H,rs,gs,fl,l,.slice ak nw ck,ws,h,tv,xv,bs⟩,⟨HJ.out,ll,wl,bk,wk⟩,HS1.out.to⟩
   · have hn0:((nw:Int) == 0)=false:=by rw [beq_eq_false_iff_ne];omega
     obtain⟨i,hq⟩:∃i:Nat,Int.tmod K nw=(i:Int):=⟨(Int.tmod K nw).toNat,(Int.toNat_of_nonneg (Int.tmod_nonneg _ (by omega))).symm⟩
     have hi:i<nw:=by
      have:=Int.tmod_lt_of_pos K (show (0:Int)<nw by omega)
      omega
     have hi3:(i:Int)<nw:=by omega
     have hiw:i<ws.length:=by omega
     obtain⟨E,hE⟩:∃E,ws[i]=E:=⟨_,rfl⟩
     have hwk:=wk ws[i] (List.getElem_mem hiw)
     rw [hE] at hwk
     have hrow:=hs1.pull1 (A1:=WksRow (.slice ak nw ck) ws)
     dsimp only [WksRow] at hrow
     rw [hnw] at hrow
     obtain⟨_,_,e3,_,hc⟩:=Row.read hrow
     cases e3
     obtain⟨b,rfl,hd⟩:=hc (by omega)
     have f0:=hd (i*2) (by omega)
     have f1:=hd (i*2+1) (by omega)
     have g0:=flat_at wkCells 2 (fun _=>rfl) ws i 0 hiw (by omega)
     have g1:=flat_at wkCells 2 (fun _=>rfl) ws i 1 hiw (by omega)
     rw [hE] at g0 g1
     rw [Nat.add_zero] at g0
     obtain⟨fv,wv,L⟩:=E
     obtain⟨⟨lb,lv0,e1,y1,y2⟩,hwn,hfit,hlen⟩:=hwk
     dsimp only at e1 y2 hwn hfit hlen
     subst e1
     obtain⟨al,cl,e2,_⟩:=nums_rd hwn
     subst e2
     have f2:=f0.1.trans g0
     have f3:=f1.1.trans g1
     simp only [wkCells,List.getElem?_cons_zero,List.getElem?_cons_succ] at f2 f3
     have zb:=World.block_lt_of_cell? _ _ f2
     have HWK:=hQ (And.intro y1 (And.intro y2 (And.intro hwn (And.intro hfit hlen))))
     have HBK0:=hQ bk
     clear hF hs1 j ll wl bk wk okp hnw hE hrow hc hd f0 f1 g0 g1 y1 y2 hwn hfit hlen
     go_enter Tryz.func10,Tryz.ntmps10
     go_wp2_with fail
     have T1:=HST.out
     have T2:=HS1.out
     clear HST HS1
     generalize hw0:w.alloc (opC11 15 N K pk pl (.slice ai mi ci) (.slice ad md cd) nx)=w0 at*
     generalize w.heap.size=I0 at*
     obtain⟨hs2,_⟩:=T2.freshD [.func (.func 117) #[] #[.pointer (some ⟨lb,0,none⟩)],.slice al L.length cl] 106 w0.heap.size rfl
     have hs3:=book_close (h:=h) (wb:=wb) (v:=v) (r:=r) (kv:= .slice (some ⟨b,0,none⟩) nw ck) (tv:=tv) (xv:=xv) (bs:=bs) HBK0.out hs2
     have GO:=hQ (fun kk:Int=>goes_any wb v r (.slice (some ⟨b,0,none⟩) nw ck) h _ (.slice al L.length cl) L ⟨lb,lv0,rfl,HWK.out.1,HWK.out.2.1⟩ HWK.out.2.2.1 HWK.out.2.2.2.1 HWK.out.2.2.2.2 kk _ _ (hs3.pull2 (A1:=BookE wb v r (.slice (some ⟨b,0,none⟩) nw ck) h) (A2:=Pr.own h)))
     have HST1:=hQ (T1.alloc (.cells [Value.func (.func 117) #[] #[.pointer (some ⟨lb,0,none⟩)],.slice al L.length cl].toArray 106)).drew
     clear T1 T2 hs2 hs3 hw0 HWK HBK0
     refine wp_region_staged (sz:=396) (by kernel_rfl) [0,1,2,3,4,5,6,7,8,9,10,11,12,13] [(14,[],[0,1,2,3,4,5,6,7,8,9,11,12,13,10]),(15,[],[])] rfl (by kernel_rfl) (by kernel_rfl) (by kernel_rfl) ?_
     refine wpQ_cut [0,1,2,3,4,5,6,7,8,9] [10,11,12,13] ?_
     refine wpQ_all _ rfl rfl ?_
     simp only [pick,pQ]
     iterate 10 (go_big_quiet_step (fail))
     refine wpQuiet_nil ?_
     refine wpQ_step rfl rfl (fun K hK=> ?_)
     go_simp
     refine hK _ ?_
     clear hK K
     refine wpQ_all _ rfl rfl ?_
     simp only [pick,pQ]
     iterate 3 (go_big_quiet_step (fail))
     refine wpQuiet_nil ?_
     refine wpRest_act rfl ?_
     go_wp2
     refine onN_mk ?_
     refine wpQ_nil ⟨?_,?_⟩
     · refine chk_cut [0,1,2,3,4,5,6,7,8,9,11,12,13] [10] ?_ (chk_cons (yieldF_of rfl rfl rfl rfl (by go_simp)) chk_nil)
       refine chk_all _ rfl rfl ?_
       simp only [pick,Same,pQ,and_true]
       repeat' (first | apply And.intro | (go_big_quiet_step (fail);exact wpQuiet_nil rfl))
     refine wpRest_act rfl ?_
     go_wp2
     refine onN_mk ?_
     refine wpQ_nil ⟨?_,?_⟩
     · exact chk_nil
     refine wpRest_nil ?_
     go_wp2_with fail
     refine(GO.out _).mono ?_
     rintro e w3 ⟨rfl,st3,hs9⟩
     obtain⟨tv2,xv2,bs2,bk2,hs10⟩:=book_open (wb:=wb) (v:=v) (r:=r) (kv:= .slice (some ⟨b,0,none⟩) nw ck) (h:=h) (OwnL.of2 hs9)
     have HS10:=hQ hs10
     have HST3:=hQ (HST1.out.trans st3)
     have HBK:=hQ bk2
     clear hs9 hs10 st3 bk2 GO HST1 c1
     go_wp2
     go_ret
     obtain⟨ll,wl,bk,wk⟩:=HOK.out
     exact⟨rfl,HST3.out,⟨s,H,rs,gs,fl,l,.slice (some ⟨b,0,none⟩) nw ck,ws,h,tv2,xv2,bs2⟩,⟨HJ.out,ll,wl,HBK.out,wk⟩,HS10.out.to⟩
end Go.Proofs.YtbobcmimkonnoaaGreat.Bz
namespace Go.Proofs.YtbobcmimkonnoaaGreat.Cz
open ChangeShapes WideShapes ChangeAt RowKit Sl Cop D2 K3 N3 G2 M2 U3 Y3 X3 Z6 N9 Fy U9 V9 Jy Z9 Py Ry Sy Ty Vy Wy Xy Yy Zy Az Bz
theorem do01_any(wb v r k:Nat)(z:LawS)(ok:LOK z (k+1))(kind N K:Int)(hkd:kind=0∨kind=1)(g:PageV)(vi vd:Value)(hp:Hp)(hpg:PageIn hp (pageV g.kind g.level vi vd g.next) g)(hz:SzP g)(hu:∀x∈g.items,U8 x.key)(F:Pr)(w:World)(hF:OwnL (lawL wb v r z [Pr.own hp,F]) w):
 Calls Tryz.prog 10 #[.pointer (some ⟨wb,0,none⟩),.agg #[.int .i64 kind,.int .i64 N,.int .i64 K,.int .i64 g.kind,.int .i64 g.level,vi,vd,.int .i64 g.next]] w fun e w'=>e= .returned (.bool true)∧Stays w w'∧DoneH wb v r k ((Pr.own hp).star F) w':=by
 obtain⟨vi2,vd2,epv,hi,hdd⟩:=id hpg
 simp only [pageV,Value.agg.injEq,Array.mk.injEq,List.cons.injEq,and_true,true_and] at epv
 obtain⟨rfl,rfl⟩:=epv
 obtain⟨ai,ci,rfl, -, -⟩:=items_rd hi
 obtain⟨ad,cd,rfl⟩:=bytes_shape hdd
 have hs1:=hF.alloc (opC11 kind N K g.kind g.level (.slice ai g.items.length ci) (.slice ad g.data.length cd) g.next)
 have HST:=hQ ((Stays.refl w).alloc (opC11 kind N K g.kind g.level (.slice ai g.items.length ci) (.slice ad g.data.length cd) g.next))
 have c1:=hs1.facts
 simp only [CellsAt,Nat.reduceAdd,and_true] at c1
 have hs2:=hs1.join2 (Pr.pts w.heap.size (opC11 kind N K g.kind g.level (.slice ai g.items.length ci) (.slice ad g.data.length cd) g.next)) F
 have WR:=hQ (write_any wb v r k z ok kind N K g _ _ hp hpg hz hu ((Pr.pts w.heap.size (opC11 kind N K g.kind g.level (.slice ai g.items.length ci) (.slice ad g.data.length cd) g.next)).star F) _ hs2.to)
 clear hF hs1 hs2 hi hdd hpg hz hu ok
 rcases hkd with rfl | rfl
 all_goals
  go_enter Tryz.func10,Tryz.ntmps10
  go_wp2_with fail
  refine WR.out.mono ?_
  rintro e w1 ⟨rfl,st1,hd⟩
  have HD:=hQ hd
  have HST1:=hQ (HST.out.trans st1)
  clear c1 hd st1 WR HST
  go_wp2
  go_ret
  obtain⟨z',ok',hs⟩:=HD.out
  have hs3:=hs.norm
  have hs4:=hs3.join2 (Pr.own hp) F
  exact⟨rfl,HST1.out,z',ok',hs4.to⟩
theorem do0_tell(wb v r k:Nat)(z:LawS)(ok:LOK z (k+1))(N K:Int)(g:PageV)(vi vd:Value)(hp:Hp)(hpg:PageIn hp (pageV g.kind g.level vi vd g.next) g)(hz:SzP g)(hu:∀x∈g.items,U8 x.key)(P:VaultS→Prop)(hP:∀a b s' H',QMake z.s z.H g a b s' H'→P s')(F:Pr)(w:World)(hF:OwnL (lawL wb v r z [Pr.own hp,F]) w):
 Calls Tryz.prog 10 #[.pointer (some ⟨wb,0,none⟩),.agg #[.int .i64 0,.int .i64 N,.int .i64 K,.int .i64 g.kind,.int .i64 g.level,vi,vd,.int .i64 g.next]] w fun e w'=>e= .returned (.bool true)∧Stays w w'∧DoneP wb v r k P ((Pr.own hp).star F) w':=by
 obtain⟨vi2,vd2,epv,hi,hdd⟩:=id hpg
 simp only [pageV,Value.agg.injEq,Array.mk.injEq,List.cons.injEq,and_true,true_and] at epv
 obtain⟨rfl,rfl⟩:=epv
 obtain⟨ai,ci,rfl, -, -⟩:=items_rd hi
 obtain⟨ad,cd,rfl⟩:=bytes_shape hdd
 have hs1:=hF.alloc (opC11 0 N K g.kind g.level (.slice ai g.items.length ci) (.slice ad g.data.length cd) g.next)
 have HST:=hQ ((Stays.refl w).alloc (opC11 0 N K g.kind g.level (.slice ai g.items.length ci) (.slice ad g.data.length cd) g.next))
 have c1:=hs1.facts
 simp only [CellsAt,Nat.reduceAdd,and_true] at c1
 have hs2:=hs1.join2 (Pr.pts w.heap.size (opC11 0 N K g.kind g.level (.slice ai g.items.length ci) (.slice ad g.data.length cd) g.next)) F
 have WR:=hQ (write_tell wb v r k z ok 0 N K g _ _ hp hpg hz hu P (fun _=>hP) (fun h=>absurd rfl h) ((Pr.pts w.heap.size (opC11 0 N K g.kind g.level (.slice ai g.items.length ci) (.slice ad g.data.length cd) g.next)).star F) _ hs2.to)
 clear hF hs1 hs2 hi hdd hpg hz hu ok hP
 go_enter Tryz.func10,Tryz.ntmps10
 go_wp2_with fail
 refine WR.out.mono ?_
 rintro e w1 ⟨rfl,st1,hd⟩
 have HD:=hQ hd
 have HST1:=hQ (HST.out.trans st1)
 clear c1 hd st1 WR HST
 go_wp2
 go_ret
 obtain⟨z',ok',hp',hs⟩:=HD.out
 have hs3:=hs.norm
 have hs4:=hs3.join2 (Pr.own hp) F
 exact⟨rfl,HST1.out,z',ok',hp',hs4.to⟩
theorem ldo_any(wb v r k:Nat)(z:LawS)(ok:LOK z (k+1))(kind N K:Int)(hK: -9223372036854775808≤K∧K≤9223372036854775807)(g:PageV)(vi vd:Value)(hp:Hp)(hpg:PageIn hp (pageV g.kind g.level vi vd g.next) g)(hz:SzP g)(hu:∀x∈g.items,U8 x.key)(F:Pr)(w:World)(hF:OwnL (lawL wb v r z [Pr.own hp,F]) w):
 Calls Tryz.prog 10 #[.pointer (some ⟨wb,0,none⟩),.agg #[.int .i64 kind,.int .i64 N,.int .i64 K,.int .i64 g.kind,.int .i64 g.level,vi,vd,.int .i64 g.next]] w fun e w'=>e= .returned (.bool true)∧Stays w w'∧DoneH wb v r k ((Pr.own hp).star F) w':=by
 by_cases h01:kind=0∨kind=1
 · exact do01_any wb v r k z ok kind N K h01 g vi vd hp hpg hz hu F w hF
 obtain⟨vi2,vd2,epv,hi,hdd⟩:=id hpg
 simp only [pageV,Value.agg.injEq,Array.mk.injEq,List.cons.injEq,and_true,true_and] at epv
 obtain⟨rfl,rfl⟩:=epv
 obtain⟨ai,ci,rfl, -, -⟩:=items_rd hi
 obtain⟨ad,cd,rfl⟩:=bytes_shape hdd
 have hs:OwnL (lawL wb v r z [(Pr.own hp).star F]) w:=(hF.join2 (Pr.own hp) F).to
 have okk:=ok.le (Nat.le_succ k)
 by_cases h2:kind=2
 · exact do2_any wb v r k z ok kind N K _ _ _ _ _ _ _ _ _ hK h2 _ w hs
 by_cases h3:kind=3
 · exact do3_any wb v r k z ok kind N K _ _ _ _ _ _ _ _ _ hK h3 _ w hs
 by_cases h4:kind=4
 · exact do4_any wb v r k z ok kind N K _ _ _ _ _ _ _ _ _ hK h4 _ w hs
 by_cases h5:kind=5
 · exact do5_any wb v r k z ok kind N K _ _ _ _ _ _ _ _ _ hK h5 _ w hs
 by_cases h6:kind=6
 · exact do6_any wb v r k z okk kind N K _ _ _ _ _ _ _ _ _ hK h6 _ w hs
 by_cases h7:kind=7
 · exact do7_any wb v r k z okk kind N K _ _ _ _ _ _ _ _ _ hK h7 _ w hs
 by_cases h8:kind=8
 · exact do8_any wb v r k z okk kind N K _ _ _ _ _ _ _ _ _ hK h8 _ w hs
 by_cases h9:kind=9
 · exact do9_any wb v r k z okk kind N K _ _ _ _ _ _ _ _ _ hK h9 _ w hs
 by_cases h10:kind=10
 · exact do10_any wb v r k z okk kind N K _ _ _ _ _ _ _ _ _ hK h10 _ w hs
 by_cases h11:kind=11
 · exact do11_any wb v r k z okk kind N K _ _ _ _ _ _ _ _ _ hK h11 _ w hs
 by_cases h12:kind=12
 · exact do12_any wb v r k z okk kind N K _ _ _ _ _ _ _ _ _ hK h12 _ w hs
 by_cases h13:kind=13
 · exact do13_any wb v r k z ok kind N K _ _ _ _ _ _ _ _ _ hK h13 _ w hs
 by_cases h14:kind=14
 · exact do14_any wb v r k z ok kind N K _ _ _ _ _ _ _ _ _ hK h14 _ w hs
 by_cases h15:kind=15
 · exact do15_any wb v r k z okk kind N K _ _ _ _ _ _ _ _ _ hK h15 _ w hs
 exact doX_any wb v r k z okk kind N K _ _ _ _ _ _ _ _ _ hK (by omega) _ w hs
end Go.Proofs.YtbobcmimkonnoaaGreat.Cz
