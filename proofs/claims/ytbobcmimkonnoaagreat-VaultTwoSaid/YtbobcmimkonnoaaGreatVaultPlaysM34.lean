/- A region that draws its order, where the first act is one of several (an allocation that may come early, say): each walked once. Plain lemmas over any program. -/
import Derived.Test.YtbobcmimkonnoaaGreatVaultPlaysM02
import Derived.Test.YtbobcmimkonnoaaGreatVaultPlaysM33
import Derived.Deep.CutRange
import Derived.Test.YtbobcmimkonnoaaGreatVaultPlaysM20
import Derived.OwnWalkIn
import Derived.Test.YtbobcmimkonnoaaGreatVaultPlaysM01
set_option maxRecDepth 100000
set_option maxHeartbeats 16000000
namespace Go.Sl
def forkOk(ops:Array Oper)(D Fd:List Nat)(alts:List (Nat × List Nat × List Nat × List (Nat × List Nat × List Nat))):Bool:=
 !alts.isEmpty && ((List.range ops.size).all fun i=>D.contains i || alts.any (fun s=>s.1 == i) || (match ops[i]? with
   | none=>true
   | some o=>o.after.any fun e=>Region.binds .any e && !D.contains e.on)) &&
 alts.all fun s=> !D.contains s.1 && decide (s.1<ops.size) &&
  (D.all fun i=>s.2.2.1.contains i || Fd.contains i || (ops[s.1]?).any fun o=>bindsOn o i) &&
  orderOk ops (D++ [s.1]) s.2.1 &&
  planOk ops (D++s.1 :: s.2.1) (Fd++s.1 :: D.filter fun i=>(ops[s.1]?).any fun o=>bindsOn o i) s.2.2.2
section
variable {P:Program}{ops:Array Oper}{sz:Nat}
theorem forked_any {Q:Exit→Act→World→Prop}(hs:slotsOk ops sz=true):∀(fuel:Nat) (L:Array Bool) (a:Act) (w:World) (D Fd:List Nat) (alts:List (Nat × List Nat × List Nat × List (Nat × List Nat × List Nat))) (f:Act),
 forkOk ops D Fd alts=true→L.size=ops.size→unl ops L=fuel→f.tmps.size=sz→Agree ops L a f→(∀i,i<ops.size→Lst L i→i∈D)→(∀i∈Fd,Lst L i)→
 (∀i∈D,¬Lst L i→YieldF P ops i f w)→(∀s∈alts,wpRest P ops Q ((s.1,s.2.1,s.2.2.1) :: s.2.2.2) f w)→wpAny P .any ops Q fuel L a w:=by
 intro fuel
 induction fuel with
 | zero=>
   intro L a w D Fd alts f hp hL hu hfs hA hsub hFd hY hc
   exfalso
   have hall:∀i,i<ops.size→Lst L i:=fun i hi=>by
    have h0:(List.range ops.size).filter (fun i=> !L.getD i true)= []:=List.eq_nil_of_length_eq_zero hu
    have:=List.filter_eq_nil_iff.1 h0 i (List.mem_range.2 hi)
    simpa [Lst] using this
   simp only [forkOk,Bool.and_eq_true] at hp
   obtain⟨⟨h1,_⟩,h3⟩:=hp
   cases alts with
   | nil=>simp at h1
   | cons s alts=>
     have h4:=List.all_eq_true.1 h3 s (by simp)
     simp only [Bool.and_eq_true] at h4
     obtain⟨⟨⟨⟨h5,h6⟩,_⟩,_⟩,_⟩:=h4
     have:=hsub s.1 (by simpa using h6) (hall s.1 (by simpa using h6))
     simp [this] at h5
 | succ fuel ih=>
   intro L a w D Fd alts f hp hL hu hfs hA hsub hFd hY hc
   refine⟨fun hnil=> ?_,fun i hi=> ?_⟩
   · exfalso
     have hne:(List.range ops.size).filter (fun i=> !L.getD i true)≠ []:=fun e=>by unfold unl at hu;rw [e] at hu;simp at hu
     obtain⟨j,hj⟩:=List.exists_mem_of_ne_nil _ hne
     rw [List.mem_filter,List.mem_range] at hj
     obtain⟨k,hk⟩:=unlisted_ready hs hL j j (Nat.le_refl _) hj.1 (by unfold Lst;simpa using hj.2)
     rw [hnil] at hk
     cases hk
   · obtain⟨hin,hul,o,ho,hdeps⟩:=ready_mem.1 hi
     obtain⟨hn,hlt,_,hdd⟩:=slots_at hs ho
     have hlook:∀t∈o.looksAt ops,a.tmps[t]? =f.tmps[t]? :=fun t ht=>hA.2.2 t fun j hj=>(dep_listed hdeps ((hdd j t hj).1 ht)).1
     obtain⟨he,hw⟩:=exec_same hn hlook
     have hL':(L.setIfInBounds i true).size=ops.size:=by simpa using hL
     have hu':unl ops (L.setIfInBounds i true)=fuel:=by have:=unl_set (L:=L) hin hul;omega
     have hdst:∀j t,dstOf ops j=some t→j<ops.size:=fun j t hj=>by
      unfold dstOf at hj
      cases hx:ops[j]? with
      | none=>simp [hx] at hj
      | some _=>exact(Array.getElem?_eq_some_iff.1 hx).1
     by_cases hD:i∈D
     ·
      have put:∀v,(∀d,o.dst=some d→f.tmps[d]? =some v)→wpAny P .any ops Q fuel (L.setIfInBounds i true) (a.put o.dst v) w:=by
       intro v hv
       refine ih _ _ w D Fd alts f hp hL' hu' hfs ⟨by rw [put_size];exact hA.1,by rw [put_defs];exact hA.2.1,fun t ht=> ?_⟩ (fun j hj hl=> ?_) (fun j hj=>lst_set.2 (.inr (hFd j hj))) (fun j hj hl=>hY j hj fun h=>hl (lst_set.2 (.inr h))) hc
       · by_cases hdt:o.dst=some t
         · rw [hdt,put_self (by rw [hA.1,hfs];exact hlt t hdt),hv t hdt]
         · rw [put_at hdt]
           refine hA.2.2 t fun j hj=> ?_
           rcases lst_set.1 (ht j hj) with rfl | h
           · rw [dstOf_at ho] at hj;exact absurd hj hdt
           · exact h
       · rcases lst_set.1 hl with rfl | h
         · exact hD
         · exact hsub j hj h
      have hy:=hY i hD hul
      simp only [YieldF,ho] at hy
      unfold wpOp
      simp only [ho]
      rcases hy with⟨hwt,v,hr,hv⟩ | ⟨hwf,hv⟩
      · rw [hw,hwt]
        simp only [if_true]
        refine .inl ?_
        unfold Oper.wp
        rw [he,hr]
        exact put v hv
      · rw [hw,hwf]
        simp only [Bool.false_eq_true,if_false]
        exact put undef hv
     ·
      simp only [forkOk,Bool.and_eq_true] at hp
      obtain⟨⟨_,g3⟩,g4⟩:=hp
      have hix:alts.any (fun s=>s.1 == i)=true:=by
       have:=List.all_eq_true.1 g3 i (List.mem_range.2 hin)
       simp only [Bool.or_eq_true,ho] at this
       rcases this with(t | t) | t
       · exact absurd (by simpa using t) hD
       · exact t
       · exfalso
         obtain⟨e,hem,heb⟩:=any_mem t
         simp only [Bool.and_eq_true] at heb
         obtain⟨hl,hlt2⟩:=lst_of_getD (hdeps e hem heb.1)
         have:=hsub e.on (by omega) hl
         simp [this] at heb
      obtain⟨⟨x,E,C,rest⟩,hsm,hx⟩:=List.any_eq_true.1 hix
      have hxi:x=i:=by simpa using hx
      subst hxi
      have g5:=List.all_eq_true.1 g4 _ hsm
      simp only [Bool.and_eq_true] at g5
      obtain⟨⟨⟨⟨h1,h2⟩,h4⟩,h5⟩,h6⟩:=g5
      have hc:=hc _ hsm
      have hnin:=order_nin _ _ h5
      have step:∀v ds w',wpQ P ops E (fun f2=>Chk P ops C f2 w'∧wpRest P ops Q rest f2 w') (({ f with defers:=ds }:Act).put o.dst v) w'→
       wpAny P .any ops Q fuel (L.setIfInBounds x true) (({ a with defers:=ds }:Act).put o.dst v) w':=by
       intro v ds w' hq
       obtain⟨f2,⟨hC,hcont⟩,hf2s,hf2d,hf2t,hf2y⟩:=wpQ_out hs E _ _ _ h5 (by rw [put_size];exact hfs) hq
       refine staged_any hs fuel _ _ w' (D++x :: E) _ rest f2 h6 hL' hu' hf2s ⟨by rw [put_size,hf2s];exact hA.1.trans hfs,by rw [put_defs,hf2d,put_defs],fun t ht=> ?_⟩ (fun j hj hl=> ?_) (fun j hj=> ?_) (fun j hj hl=> ?_) hcont
       · rw [hf2t t (fun j hj e=>by
          have hl:=ht j e
          obtain⟨hj1,hj2⟩:=hnin j hj
          rcases lst_set.1 hl with rfl | h
          · exact hj1 (by simp)
          · exact hj1 (List.mem_append_left _ (hsub j hj2 h)))]
         by_cases hdt:o.dst=some t
         · rw [hdt,put_self (by show t<a.tmps.size;rw [hA.1,hfs];exact hlt t hdt),put_self (by show t<f.tmps.size;rw [hfs];exact hlt t hdt)]
         · rw [put_at hdt,put_at hdt]
           refine hA.2.2 t fun j hj=> ?_
           rcases lst_set.1 (ht j hj) with rfl | h
           · rw [dstOf_at ho] at hj;exact absurd hj hdt
           · exact h
       · rcases lst_set.1 hl with rfl | h
         · simp
         · exact List.mem_append_left _ (hsub j hj h)
       · rcases List.mem_append.1 hj with h | h
         · exact lst_set.2 (.inr (hFd j h))
         · rcases List.mem_cons.1 h with rfl | h
           · exact lst_set.2 (.inl rfl)
           · rw [List.mem_filter] at h
             have hb:=h.2
             simp only [ho,Option.any_some] at hb
             exact lst_set.2 (.inr (dep_listed hdeps hb).1)
       · rcases List.mem_append.1 hj with h | h
         · have:=List.all_eq_true.1 h4 j h
           simp only [Bool.or_eq_true,ho,Option.any_some] at this
           rcases this with(t | t) | t
           · exact hC j (by simpa using t)
           · exact absurd (lst_set.2 (.inr (hFd j (by simpa using t)))) hl
           · exact absurd (lst_set.2 (.inr (dep_listed hdeps t).1)) hl
         · rcases List.mem_cons.1 h with rfl | h
           · exact absurd (lst_set.2 (.inl rfl)) hl
           · exact hf2y j h
      simp only [wpRest,ho,wpList] at hc
      unfold wpOp
      simp only [ho]
      rw [hw]
      split
      · rename_i hwt
        rw [if_pos hwt] at hc
        rcases hc with hc | ⟨_,_,_,hf⟩
        · exact .inl (oper_wp_rel he hA.2.1 (fun v ds w' h=>step v ds w' h) hc)
        · exact(hf:False).elim
      · rename_i hwf
        rw [if_neg hwf] at hc
        have:=step undef f.defers w hc
        rw [← hA.2.1] at this
        exact this
theorem wp_region_forked {Q:Exit→Act→World→Prop}{id:Nat}{a:Act}{w:World}(hm:P.follows .mixedOrders=true)(E0:List Nat)(alts:List (Nat × List Nat × List Nat × List (Nat × List Nat × List Nat)))
 (hsz:a.tmps.size=sz) (hs:slotsOk ops sz=true) (ho:orderOk ops [] E0=true) (hp:forkOk ops E0 [] alts=true)
 (h:wpQ P ops E0 (fun f=> ∀s∈alts,wpRest P ops Q ((s.1,s.2.1,s.2.2.1) :: s.2.2.2) f w.drew) a w.drew):(Code.region id ops true).wp P Q a w:=by
 refine wp_region_any hm ?_
 obtain⟨f,hc,hfs,hfd,hft,hfy⟩:=wpQ_out hs E0 _ _ _ ho hsz h
 have hno:∀i,i<ops.size→¬Lst (Array.replicate ops.size false) i:=fun i hi h=>by simp [Lst,hi,Array.getD_eq_getD_getElem?] at h
 refine forked_any hs _ _ _ _ E0 [] alts f hp (by simp) ?_ hfs ⟨hsz.trans hfs.symm,hfd.symm,fun t ht=>(hft t fun j hj e=> ?_).symm⟩ (fun i hi hl=>absurd hl (hno i hi)) (fun i hi=>by cases hi) (fun i hi _=>hfy i hi) hc
 · unfold unl
   rw [List.filter_eq_self.2]
   · simp
   · intro i hi
     have:=hno i (List.mem_range.1 hi)
     simpa [Lst] using this
 · have hj2:=(order_nin _ _ ho j hj).2
   exact hno j hj2 (ht j e)
end
end Go.Sl
namespace Go.Proofs.YtbobcmimkonnoaaGreat.Z9
open ChangeShapes WideShapes ChangeAt RowKit Sl Cop K3 Q3 G2 M2 N2 U3 Y3 X3 X5 Y5 X8 Y8 Y9
structure SzP(g:PageV):Prop where
 n:g.items.length≤2199023255488
 k:∀x∈g.items,x.key.length≤140737488351232∧x.value.length≤140737488351232
 d:g.data.length≤140737488351232
theorem zip_snoc {bs:List (Nat × Nat)}{its:List ItemV}{k:Nat}(hk:k<its.length)(hb:bs.length=k){p:Nat × Nat}:(bs++ [p]).zip its=bs.zip its++ [(p,its[k])]:=by
 subst hb
 refine List.ext_getElem (by simp;omega) fun i h1 h2=> ?_
 rcases Nat.lt_or_ge i bs.length with hlt | hge
 · rw [List.getElem_append_left (by simp;omega)]
   simp [List.getElem_append_left hlt]
 · have:i=bs.length:=by simp at h1;omega
   subst this
   rw [List.getElem_append_right (by simp;omega)]
   simp
theorem sparepage_any(h:Hp)(v:Value)(g:PageV)(hv:PageIn h v g)(hz:SzP g)(F:Pr)(w:World)(hF:Sat ((Pr.own h).star F) w):
 Calls Tryz.prog 26 #[v] w fun e w'=> ∃x:SpX,e= .returned (x.pv g)∧x.bs.length=g.items.length∧Stays w w'∧Sat ((SpRow x.ib x.bs g.items).star ((big wholeOf (x.bs.zip g.items)).star ((WholeRow x.db g.data).star ((Pr.own h).star F)))) w':=by
 obtain⟨vi,vd,rfl,hi,hdd⟩:=hv
 obtain⟨k0,l0,its,dat,nx⟩:=g
 obtain⟨hn,hb,hd⟩:=hz
 dsimp only at*
 obtain⟨ai,ci,rfl,hcm,rd⟩:=items_rd hi
 obtain⟨ad,cd,rfl⟩:=bytes_shape hdd
 obtain⟨i0,hi0,hz0,hz1,hz2⟩:=info_parts infoItem
 have hn0:(its.length:Int)≤2199023255488:=by omega
 have hd0:(dat.length:Int)≤140737488351232:=by omega
 have hmk:∀wx:World,(Instr.makeSlice 28 (.int .i64 ((its.length:Int)+2)) (.int .i64 ((its.length:Int)+2))).run Tryz.prog wx= .ok (.slice (some ⟨wx.heap.size,0,none⟩) (its.length+2) (its.length+2)) (wx.alloc (.cells (madeCells #[.slice none 0 0,.slice none 0 0,.int .i64 0,.int .i64 0] ((its.length+2)*4)) 58)):=by
  intro wx
  have:=run_make (P:=Tryz.prog) wx 28 58 i0 (.agg #[.slice none 0 0,.slice none 0 0,.int .i64 0,.int .i64 0]) Tryz.underlying28 hi0 hz0 .i64 .i64 ((its.length:Int)+2) ((its.length:Int)+2) (by omega) (by omega) (by rw [hz2];omega) (by omega)
  rw [hz1,show ((its.length:Int)+2).toNat=its.length+2 by omega] at this
  exact this
 have h1:=((OwnL.in1 hF).alloc (pageC k0 l0 (.slice ai its.length ci) (.slice ad dat.length cd) nx)).alloc (pageC 0 0 (.slice none 0 0) (.slice none 0 0) 0)
 rw [show (w.alloc (pageC k0 l0 (.slice ai its.length ci) (.slice ad dat.length cd) nx)).heap.size=w.heap.size+1 by simp] at h1
 have HS1:=hQ h1
 have HST:=hQ (((Stays.refl w).alloc (pageC k0 l0 (.slice ai its.length ci) (.slice ad dat.length cd) nx)).alloc (pageC 0 0 (.slice none 0 0) (.slice none 0 0) 0))
 have RD:=hQ rd
 have HD:=hQ hdd
 have HB:=hQ hb
 have HDN:=hQ hd
 clear h1 rd hdd hb hd hF hi hcm
 go_enter Tryz.func26,Tryz.ntmps26
 go_wp2_with fail
 have T1:=HST.out
 have T2:=HS1.out
 clear HST HS1
 generalize hw0:(w.alloc (pageC k0 l0 (.slice ai its.length ci) (.slice ad dat.length cd) nx)).alloc (pageC 0 0 (.slice none 0 0) (.slice none 0 0) 0)=w0 at*
 generalize w.heap.size+1=I1 at*
 generalize w.heap.size=I0 at*
 have HST0:=hQ T1
 have HT2:=hQ T2
 clear T1 T2 hw0
 go_cut [3] from 6 to 16 (fun t1 wx=> ∃(J db:Nat),t1= .pointer (some ⟨J,0,none⟩)∧Stays w wx∧
  OwnL [Pr.pts J (pageC k0 l0 (.slice none 0 0) (.slice (some ⟨db,0,none⟩) dat.length (dat.length+64)) nx),WholeRow db dat,Pr.pts I0 (pageC k0 l0 (.slice ai its.length ci) (.slice ad dat.length cd) nx),Pr.pts I1 (pageC 0 0 (.slice none 0 0) (.slice none 0 0) 0),Pr.own h,F] wx)
 case first=>
  have c1:=HT2.out.facts
  simp only [CellsAt,Nat.reduceAdd,and_true] at c1
  refine wp_region_forked (sz:=75) (by kernel_rfl) [0,1,2,3,4,5,7,8] [(6,[9],[0,1,2,3,4,7,8],[(10,[],[0,1,2,3,4,7,8,9]),(11,[],[])]),(10,[],[0,1,2,3,4,5,7,8],[(6,[9],[0,1,2,3,4,7,8]),(11,[],[])])] rfl (by kernel_rfl) (by kernel_rfl) (by kernel_rfl) ?_
  refine wpQ_all _ rfl rfl ?_
  simp only [pick,pQ]
  iterate 8 (go_big_quiet_step (fail))
  refine wpQuiet_nil ?_
  intro sx hsx
  rcases List.mem_cons.1 hsx with rfl | hsx
  · have V:=hQ (spare_any h _ dat _ _ (HT2.out.drew.pull1 (A1:=Pr.own h)) HD.out HDN.out)
    refine wpRest_act rfl ?_
    go_wp2_with fail
    refine V.out.mono ?_
    rintro e w5 ⟨db,rfl,hs9,st5⟩
    have hs10:=OwnL.of2 hs9
    clear c1
    have c1:=hs10.facts
    simp only [CellsAt,Nat.reduceAdd,and_true] at c1
    have hs11:=hs10.alloc (pageC k0 l0 (.slice none 0 0) (.slice (some ⟨db,0,none⟩) dat.length (dat.length+64)) nx)
    have HEND:=hQ (And.intro ((HST0.out.drew.trans st5).alloc (pageC k0 l0 (.slice none 0 0) (.slice (some ⟨db,0,none⟩) dat.length (dat.length+64)) nx)) hs11)
    clear hs9 hs10 hs11 st5 V
    go_wp2
    refine onN_mk ?_
    refine wpQ_all _ rfl rfl ?_
    simp only [pick,pQ]
    iterate 1 (go_big_quiet_step (fail))
    refine wpQuiet_nil ⟨?_,?_⟩
    · refine chk_all _ rfl rfl ?_
      simp only [pick,Same,pQ,and_true]
      repeat' (first | apply And.intro | (go_big_quiet_step (fail);exact wpQuiet_nil rfl))
    refine wpRest_act rfl ?_
    go_wp2
    refine onN_mk ?_
    refine wpQ_nil ⟨?_,?_⟩
    · refine chk_all _ rfl rfl ?_
      simp only [pick,Same,pQ,and_true]
      repeat' (first | apply And.intro | (go_big_quiet_step (fail);exact wpQuiet_nil rfl))
    refine wpRest_act rfl ?_
    go_wp2
    refine onN_mk ?_
    refine wpQ_nil ⟨?_,?_⟩
    · exact chk_nil
    refine wpRest_nil ?_
    go_wp2
    go_meet
    exact⟨_,db,rfl,HEND.out.1,HEND.out.2.to⟩
  · cases List.mem_singleton.1 hsx
    have hs8:=HT2.out.drew.alloc (pageC 0 0 (.slice none 0 0) (.slice none 0 0) 0)
    have V:=hQ (spare_any h _ dat _ _ (hs8.pull1 (A1:=Pr.own h)) HD.out HDN.out)
    have HSTA:=hQ (HST0.out.drew.alloc (pageC 0 0 (.slice none 0 0) (.slice none 0 0) 0))
    clear hs8
    refine wpRest_act rfl ?_
    go_wp2
    refine onN_mk ?_
    refine wpQ_nil ⟨?_,?_⟩
    · refine chk_all _ rfl rfl ?_
      simp only [pick,Same,pQ,and_true]
      repeat' (first | apply And.intro | (go_big_quiet_step (fail);exact wpQuiet_nil rfl))
    refine wpRest_act rfl ?_
    go_wp2_with fail
    refine V.out.mono ?_
    rintro e w5 ⟨db,rfl,hs9,st5⟩
    rw [show w0.drew.heap.size=w0.heap.size by simp] at hs9
    have hs10:=OwnL.of2 hs9
    clear c1
    have c1:=hs10.facts
    simp only [CellsAt,Nat.reduceAdd,and_true] at c1
    have hs12:=(((((hs10.set w0.heap.size 0 (.int .i64 k0)).set w0.heap.size 1 (.int .i64 l0)).set w0.heap.size 2 (.slice none 0 0)).set w0.heap.size 3 (.slice (some ⟨db,0,none⟩) dat.length (dat.length+64))).set w0.heap.size 4 (.int .i64 nx))
    have HEND:=hQ (And.intro ((((((HSTA.out.trans st5).setCell ⟨w0.heap.size,0,none⟩ (.int .i64 k0)).setCell ⟨w0.heap.size,1,none⟩ (.int .i64 l0)).setCell ⟨w0.heap.size,2,none⟩ (.slice none 0 0)).setCell ⟨w0.heap.size,3,none⟩ (.slice (some ⟨db,0,none⟩) dat.length (dat.length+64))).setCell ⟨w0.heap.size,4,none⟩ (.int .i64 nx)) hs12)
    clear hs9 hs10 hs12 st5 V HSTA
    go_wp2
    refine onN_mk ?_
    refine wpQ_all _ rfl rfl ?_
    simp only [pick,pQ]
    iterate 1 (go_big_quiet_step (fail))
    refine wpQuiet_nil ⟨?_,?_⟩
    · refine chk_all _ rfl rfl ?_
      simp only [pick,Same,pQ,and_true]
      repeat' (first | apply And.intro | (go_big_quiet_step (fail);exact wpQuiet_nil rfl))
    refine wpRest_act rfl ?_
    go_wp2
    refine onN_mk ?_
    refine wpQ_nil ⟨?_,?_⟩
    · exact chk_nil
    refine wpRest_nil ?_
    go_wp2
    go_meet
    exact⟨_,db,rfl,HEND.out.1,HEND.out.2.to⟩
 case rest=>
  obtain⟨J,db,rfl,st1,hs2⟩:=hcut
  have c1:=hs2.facts
  simp only [CellsAt,Nat.reduceAdd,and_true] at c1
  have hs3:=OwnL.of1 (z_made (its.length+2) (by simp only [maxLen];omega) hs2.sat)
  have HS3:=hQ hs3
  have HST1:=hQ (st1.alloc (.cells (madeCells #[.slice none 0 0,.slice none 0 0,.int .i64 0,.int .i64 0] ((its.length+2)*4)) 58))
  clear hs2 hs3 st1 HST0 HT2
  generalize madeCells #[.slice none 0 0,.slice none 0 0,.int .i64 0,.int .i64 0] ((its.length+2)*4)=MC at*
  go_wp2_with fail
  clear c1 hmk HD HDN
  generalize wc.heap.size=ib at*
  generalize wc.alloc (.cells MC 58)=wd at*
  clear hi0 hz0 hz1 hz2
  go_loopw [5] (fun i wr=> ∃(k:Nat) (bs:List (Nat × Nat)),k≤its.length+2∧i= .int .i64 k∧bs.length=min k its.length∧Stays w wr∧
   OwnL [ZRow ib (its.length+2) (its.length+2) (spL bs its k),big wholeOf (bs.zip its),Pr.pts J (pageC k0 l0 (.slice none 0 0) (.slice (some ⟨db,0,none⟩) dat.length (dat.length+64)) nx),WholeRow db dat,Pr.pts I0 (pageC k0 l0 (.slice ai its.length ci) (.slice ad dat.length cd) nx),Pr.pts I1 (pageC 0 0 (.slice none 0 0) (.slice none 0 0) 0),Pr.own h,F] wr) (fun i _=>its.length+2-(intOf i).toNat)
  case atStart=>
   refine⟨0,[],Nat.zero_le _,rfl,by simp,HST1.out,?_⟩
   rw [spL_zero,List.zip_nil_left,big_nil]
   exact(HS3.out.emp).to
  case round=>
   obtain⟨k,bs,hk,rfl,hbl,hst,hs⟩:=hrel
   have c1:=hs.facts
   simp only [CellsAt,Nat.reduceAdd,and_true] at c1
   rcases Nat.lt_or_ge k (its.length+2) with hlt | hge
   · rcases Nat.lt_or_ge k its.length with hl1 | hl1
     · have HBL:=hQ (show bs.length=k by omega)
       clear hbl
       obtain⟨b,off,ak,ck,av,cv,rfl,hb1,hb2,hcell⟩:=RD.out k hl1
       obtain⟨r0,r1,r2,r3⟩:=hcell wr (hs.pull1 (A1:=Pr.own h)).own
       have HC:=hQ hcell
       have HBK:=hQ (HB.out its[k] (List.getElem_mem hl1))
       have V:=hQ (spare_any h _ its[k].key _ _ (hs.drew.pull1 (A1:=Pr.own h)) hb1 HBK.out.1)
       have HB2:=hQ hb2
       have HSTR:=hQ hst
       clear hs hst hb1 hb2 hcell
       go_wp2_with fail
       refine wp_region_staged (sz:=75) (by kernel_rfl) [0,1,2,3,4,5,6,7,9,10,11,12,13,14,16,17,18,19,20,21,22,23,24,25,26,27] [(8,[],[0,1,2,3,4,5,6,9,10,11,12,13,14,16,17,18,19,20,21,22,23,24,25,26,27]),(15,[28,29],[0,1,2,3,4,5,6,9,10,11,12,13,16,17,18,19,20,21,22,23,24,25,26,27]),(30,[],[])] rfl (by kernel_rfl) (by kernel_rfl) (by kernel_rfl) ?_
       refine wpQ_all _ rfl rfl ?_
       simp only [pick,pQ]
       iterate 26 (go_big_quiet_step (fail))
       refine wpQuiet_nil ?_
       refine wpRest_act rfl ?_
       go_wp2_with fail
       refine V.out.mono ?_
       rintro e w1 ⟨b1,rfl,hs1,st1⟩
       have hs2:=OwnL.of2 hs1
       clear c1 r0 r1 r2 r3
       have c1:=hs2.facts
       simp only [CellsAt,Nat.reduceAdd,and_true] at c1
       obtain⟨r0,r1,r2,r3⟩:=HC.out w1 (hs2.pull1 (A1:=Pr.own h)).own
       have V2:=hQ (spare_any h _ its[k].value _ _ (hs2.pull1 (A1:=Pr.own h)) HB2.out HBK.out.2)
       have HST2:=hQ (HSTR.out.drew.trans st1)
       clear hs1 hs2 st1 V HSTR
       go_wp2
       refine onN_mk ?_
       refine wpQ_nil ⟨?_,?_⟩
       · refine chk_all _ rfl rfl ?_
         simp only [pick,Same,pQ,and_true]
         repeat' (first | apply And.intro | (go_big_quiet_step (fail);exact wpQuiet_nil rfl))
       refine wpRest_act rfl ?_
       go_wp2_with fail
       refine V2.out.mono ?_
       rintro e w2 ⟨b2,rfl,hs3,st2⟩
       have hs4:=OwnL.of2 hs3
       clear c1 r0 r1 r2 r3
       have c1:=hs4.facts
       simp only [CellsAt,Nat.reduceAdd,and_true] at c1
       obtain⟨r0,r1,r2,r3⟩:=HC.out w2 (hs4.pull1 (A1:=Pr.own h)).own
       have hs5:=hs4.pull1 (A1:=ZRow ib (its.length+2) (its.length+2) (spL bs its k))
       obtain⟨⟨s0,s1,s2,s3⟩,f0,f1,f2,f3⟩:=z_rd hs5 (spL_len _ _ _) (k:=k) (by rw [spL_len];omega)
       have hs6:=OwnL.of1 (z_put hs5 (k:=k) (by rw [spL_len];omega) (kvOf (b1,b2) its[k],its[k]))
       rw [spL_item hl1 HBL.out (b1,b2)] at hs6
       have HST3:=hQ (((((HST2.out.trans st2).setCell ⟨ib,k*4,none⟩ (kvOf (b1,b2) its[k]).1).setCell ⟨ib,k*4+1,none⟩ (kvOf (b1,b2) its[k]).2).setCell ⟨ib,k*4+2,none⟩ (.int .i64 its[k].child)).setCell ⟨ib,k*4+3,none⟩ (.int .i64 its[k].size))
       have HS6:=hQ hs6
       clear hs3 hs4 hs5 hs6 st2 V2 HST2
       go_wp2
       refine onN_mk ?_
       refine wpQ_all _ rfl rfl ?_
       simp only [pick,pQ]
       iterate 2 (go_big_quiet_step (fail))
       refine wpQuiet_nil ⟨?_,?_⟩
       · refine chk_all _ rfl rfl ?_
         simp only [pick,Same,pQ,and_true]
         repeat' (first | apply And.intro | (go_big_quiet_step (fail);exact wpQuiet_nil rfl))
       refine wpRest_act rfl ?_
       go_wp2
       refine onN_mk ?_
       refine wpQ_nil ⟨?_,?_⟩
       · exact chk_nil
       refine wpRest_nil ?_
       go_wp2
       refine⟨⟨k+1,bs++ [(b1,b2)],by omega,congrArg (Value.int .i64) (by omega),by have:=HBL.out;rw [List.length_append,List.length_singleton];omega,HST3.out,?_⟩,by simp [intOf];omega⟩
       have h9:OwnL (wholeOf ((b1,b2),its[k]) :: _) _:=HS6.out.join2 (WholeRow b1 its[k].key) (WholeRow b2 its[k].value)
       have h10:=h9.snoc wholeOf (bs.zip its) ((b1,b2),its[k])
       rw [← zip_snoc hl1 HBL.out] at h10
       exact h10.to
     · have HBL:=hQ (show bs.length=its.length by omega)
       clear hbl
       have hs5:=hs.pull1 (A1:=ZRow ib (its.length+2) (its.length+2) (spL bs its k))
       obtain⟨⟨s0,s1,s2,s3⟩,f0,f1,f2,f3⟩:=z_rd hs5 (spL_len _ _ _) (k:=k) (by rw [spL_len];omega)
       have hs6:=OwnL.of1 (z_put hs5 (k:=k) (by rw [spL_len];omega) (extZ k))
       rw [spL_ext hl1] at hs6
       have HST3:=hQ ((((hst.setCell ⟨ib,k*4,none⟩ (extZ k).1.1).setCell ⟨ib,k*4+1,none⟩ (extZ k).1.2).setCell ⟨ib,k*4+2,none⟩ (.int .i64 (extZ k).2.child)).setCell ⟨ib,k*4+3,none⟩ (.int .i64 (extZ k).2.size))
       have HS6:=hQ hs6
       clear hs hst hs5 hs6
       go_wp2
       refine⟨⟨k+1,bs,by omega,congrArg (Value.int .i64) (by omega),by have:=HBL.out;omega,HST3.out,?_⟩,by simp [intOf];omega⟩
       exact HS6.out.to
   · have hkl:k=its.length+2:=by omega
     subst hkl
     have HBL:=hQ (show bs.length=its.length by omega)
     have HS:=hQ hs
     have HSTR:=hQ hst
     clear hbl hs hst
     go_wp2
     have h5:=((((((HS.out.set J 2 (.slice (some ⟨ib,0,none⟩) its.length (its.length+2))).set I1 0 (.int .i64 k0)).set I1 1 (.int .i64 l0)).set I1 2 (.slice (some ⟨ib,0,none⟩) its.length (its.length+2))).set I1 3 (.slice (some ⟨db,0,none⟩) dat.length (dat.length+64))).set I1 4 (.int .i64 nx))
     refine bodyPost_ret (results_cell_row rfl _ _ I1 _ _ _ _ rfl (h5.pts I1).pts_heap Tryz.underlying31 rfl infoPage) rfl ?_
     refine⟨⟨ib,db,bs⟩,rfl,HBL.out,(((((HSTR.out.setCell _ _).setCell _ _).setCell _ _).setCell _ _).setCell _ _).setCell _ _,?_⟩
     exact h5.end5
end Go.Proofs.YtbobcmimkonnoaaGreat.Z9
namespace Go.Cop
open Go.Sl Go.Proofs.YtbobcmimkonnoaaGreat.U3 Go.Proofs.YtbobcmimkonnoaaGreat.F4 Go.Proofs.YtbobcmimkonnoaaGreat.Q3 Go.Proofs.YtbobcmimkonnoaaGreat.Z9
def leafG(c:Int):PageV:=⟨1,0,[⟨[c],[],0,0⟩],[],0⟩
def indexG:PageV:=⟨2,1,[⟨[],[],1,0⟩,⟨[109],[],2,0⟩],[],0⟩
theorem check_a:checkP (leafG 97)=0:=by decide+kernel
theorem check_p:checkP (leafG 112)=0:=by decide+kernel
theorem check_i:checkP indexG=0:=by decide+kernel
theorem kids_i:kidsOf indexG= [1,2]:=by decide+kernel
theorem sz_leaf(c:Int):SzP (leafG c):=⟨by simp [leafG],by simp [leafG],by simp [leafG]⟩
theorem sz_index:SzP indexG:=⟨by simp [indexG],by simp [indexG],by simp [indexG]⟩
theorem u8_a:∀x∈(leafG 97).items,U8 x.key:=by simp [leafG,U8]
theorem u8_p:∀x∈(leafG 112).items,U8 x.key:=by simp [leafG,U8]
theorem u8_i:∀x∈indexG.items,U8 x.key:=by simp [indexG,U8]
theorem live_zero:LiveS (newV 3 6) [0,0,0,0,0,0]:=⟨rfl,rfl,rfl,rfl⟩
end Go.Cop
namespace Go.Sl
open Go.RowKit
def Grew(T:TypeId)(v:Value)(n:Nat)(g:Value)(m:Nat)(ys:List Value):Pr:=fun h=>
 n≤m∧ys.length=m∧((∃b cap sp,v= .slice (some ⟨b,0,none⟩) n cap∧g= .slice (some ⟨b,0,none⟩) m cap∧ys.length+sp.length=cap∧cap≤maxLen∧Pr.pts b (.cells (ys++sp).toArray T (0,0)) h)∨
  ((Row T 1 v n (ys.take n)).star (Row T 1 g m ys)) h)
theorem Grew.mk_apart {T:TypeId}{v g:Value}{n m:Nat}{ys:List Value}{F:Pr}{w:World}(h:Sat (((Row T 1 v n (ys.take n)).star (Row T 1 g m ys)).star F) w)(hn:n≤m):Sat ((Grew T v n g m ys).star F) w:=by
 have hl:ys.length=m:=by
  obtain⟨_,_,_,h1,_⟩:=Row.read (h.perm (B:=(Row T 1 g m ys).star ((Row T 1 v n (ys.take n)).star F)) (by ac_rfl))
  omega
 exact h.mono fun x hx=>⟨hn,hl,.inr hx⟩
theorem Grew.mk_one {T:TypeId}{b cap n m:Nat}{ys sp:List Value}{F:Pr}{w:World}(h:Sat ((Pr.pts b (.cells (ys++sp).toArray T (0,0))).star F) w)(hl:ys.length=m)(hn:n≤m)(hc:ys.length+sp.length=cap)(hm:cap≤maxLen):
 Sat ((Grew T (.slice (some ⟨b,0,none⟩) n cap) n (.slice (some ⟨b,0,none⟩) m cap) m ys).star F) w:=
 h.mono fun _ hx=>⟨hn,hl,.inl ⟨b,cap,sp,rfl,rfl,hc,hm,hx⟩⟩
theorem Grew.open' {T:TypeId}{v g:Value}{n m:Nat}{ys:List Value}{F:Pr}{w:World}(h:Sat ((Grew T v n g m ys).star F) w):
 n≤m∧ys.length=m∧((∃b cap sp,v= .slice (some ⟨b,0,none⟩) n cap∧g= .slice (some ⟨b,0,none⟩) m cap∧ys.length+sp.length=cap∧cap≤maxLen∧Sat ((Pr.pts b (.cells (ys++sp).toArray T (0,0))).star F) w)∨
  Sat ((Row T 1 v n (ys.take n)).star ((Row T 1 g m ys).star F)) w):=by
 obtain⟨x,⟨a,f,⟨h1,h2,hc⟩,hf,hd,rfl⟩,hw⟩:=h
 refine⟨h1,h2,?_⟩
 rcases hc with⟨b,cap,sp,e1,e2,e3,e4,hp⟩ | hp
 · exact .inl ⟨b,cap,sp,e1,e2,e3,e4,_,⟨a,f,hp,hf,hd,rfl⟩,hw⟩
 · exact .inr ((show Sat (((Row T 1 v n (ys.take n)).star (Row T 1 g m ys)).star F) w from⟨_,⟨a,f,hp,hf,hd,rfl⟩,hw⟩).perm (Pr.star_assoc _ _ _))
theorem Grew.start {T:TypeId}{v:Value}{n:Nat}{ys:List Value}{F:Pr}{w:World}(h:Sat ((Row T 1 v n ys).star F) w):Sat ((Grew T v n v n ys).star F) w:=by
 obtain⟨hl,(⟨rfl,rfl,hF⟩ | ⟨b,cap,sp,rfl,h1,h2,h3,h4⟩)⟩:=Row.open' h
 · have e:ys= []:=List.eq_nil_of_length_eq_zero (by omega)
   subst e
   refine Grew.mk_apart ?_ (Nat.le_refl _)
   rw [show ([]:List Value).take 0= [] from rfl,Row.nil,Pr.emp_star,Pr.emp_star]
   exact hF
 · exact Grew.mk_one h4 (by omega) (Nat.le_refl _) (by omega) h3
theorem Grew.read {T:TypeId}{v g:Value}{n m:Nat}{ys:List Value}{F:Pr}{w:World}(h:Sat ((Grew T v n g m ys).star F) w):
 ∃a c a' c',v= .slice a n c∧g= .slice a' m c'∧n≤m∧ys.length=m∧
  (∀i,i<n→∃b,a=some ⟨b,0,none⟩∧w.cell? ⟨b,i,none⟩=ys[i]?)∧(∀i,i<m→∃b,a'=some ⟨b,0,none⟩∧w.cell? ⟨b,i,none⟩=ys[i]?):=by
 obtain⟨h1,h2,hc⟩:=Grew.open' h
 rcases hc with⟨b,cap,sp,rfl,rfl,h3,h4,hp⟩ | hp
 · have hcell:∀i,i<m→w.cell? ⟨b,i,none⟩=ys[i]? :=fun i hi=>by
    rw [cell_of_heap hp.pts_heap]
    simp [List.getElem?_append_left (show i<ys.length by omega)]
   exact⟨_,_,_,_,rfl,rfl,h1,h2,fun i hi=>⟨b,rfl,hcell i (by omega)⟩,fun i hi=>⟨b,rfl,hcell i hi⟩⟩
 · obtain⟨a,c,e1,_,g1⟩:=Row.read hp
   obtain⟨a',c',e2,_,g2⟩:=Row.read hp.right
   refine⟨a,c,a',c',e1,e2,h1,h2,fun i hi=> ?_,fun i hi=> ?_⟩
   · obtain⟨b,eb,hb⟩:=g1 (by omega)
     refine⟨b,eb,((hb i (by omega)).1).trans ?_⟩
     rw [List.getElem?_take,if_pos hi]
   · obtain⟨b,eb,hb⟩:=g2 (by omega)
     exact⟨b,eb,(hb i (by omega)).1⟩
section
variable {P:Program}{w:World}{F:Pr}
theorem run_append_grew(t ty e:TypeId)(i:TypeInfo)(z:Value)(bytes:Nat)(ht:P.underlying t=some (.slice e))(hi:P.info? e=some i)(hz:i.zero=some z)
 (hsize:i.size=1) (hby:i.bytes=bytes) (hzs:z.cells.size=1)
 (v g:Value) (n m:Nat) (ys:List Value) (hown:Sat ((Grew e v n g m ys).star F) w)
 (a:Addr) (c:Nat) (u:Value) (hu:w.cell? a=some u) (h1:u.oneCell'=true)
 (h63:m+1≤maxLen) (hbytes:(m+1)*bytes≤140737488355328):
 ∃g' w',(Builtin.append_ #[t,t] ty #[g,.slice (some a) 1 c]).run P w= .ok g' w'∧Sat ((Grew e v n g' (m+1) (ys++ [u])).star F) w'∧Stays w w':=by
 have hsmall:m+1≤9223372036854775807:=by simp only [maxLen] at h63;omega
 have hnews:∀j x,[u][j]? =some x→w.cell? (a.add j)=some x:=fun j x hx=>by
  cases j with
  | zero=>
    simp at hx
    subst hx
    have e0:a.add 0=a:=by unfold Addr.add;cases a;split<;>simp_all
    rw [e0];exact hu
  | succ j=>simp at hx
 have hone:∀x∈ [u],x.oneCell'=true:=fun x hx=>by cases List.mem_singleton.1 hx;exact h1
 obtain⟨hnm,hl,hc⟩:=Grew.open' hown
 rcases hc with⟨b,cap,sp,rfl,rfl,h3,h4,hp⟩ | hp
 · have hg:=hp.pts_heap
   by_cases hroom:m+1≤cap
   · have hsz:(ys++sp).toArray.size=cap:=by simp;omega
     have hr:=run_append_room (P:=P) w t ty e i ht hi b m cap _ hg a 1 c [u] (by simp [hsize]) hnews hone hroom (by rw [hsize,hsz];simpa using hroom)
     refine⟨_,_,hr,?_,⟨rfl,rfl,rfl,by simp⟩⟩
     have hp':=hp.put (w':=w.setRow b ((ys++sp).toArray.toList.take (m*i.size)++ [u]++(ys++sp).toArray.toList.drop (m*i.size+ [u].length)).toArray)
      (setRow_heap w b _ _ e _ hg) (fun k _ hk=>setRow_other w b k _ hk)
     have he:(ys++sp).toArray.toList.take (m*i.size)++ [u]++(ys++sp).toArray.toList.drop (m*i.size+ [u].length)=(ys++ [u])++sp.drop 1:=by
      show (ys++sp).take (m*i.size)++ [u]++(ys++sp).drop (m*i.size+1)=_
      rw [hsize,Nat.mul_one, ← hl,List.take_left,List.drop_append]
      simp
     rw [he] at hp' ⊢
     exact Grew.mk_one hp' (by simp [hl]) (by omega) (by simp only [List.length_append,List.length_drop,List.length_singleton];omega) h4
   · have hsp:sp= []:=List.eq_nil_of_length_eq_zero (by omega)
     subst hsp
     rw [List.append_nil] at hp hg
     have holds:∀j x,ys[j]? =some x→w.cell? ((⟨b,0,none⟩:Addr).add j)=some x:=by
      intro j x hx
      rw [add_cell,cell_of_heap hg]
      simpa using hx
     have hr:=run_append_grow (P:=P) w t ty e i z ht hi hz ⟨b,0,none⟩ m cap ys (by rw [hsize];omega) holds a 1 c [u] (by simp [hsize]) hnews (by omega) (by omega) (growslice_fits (by omega) (by rw [hby];exact hbytes))
     refine⟨_,_,hr,?_,⟨rfl,rfl,rfl,by simp⟩⟩
     have hold:Sat ((Row e 1 (.slice (some ⟨b,0,none⟩) n cap) n (ys.take n)).star F) w:=by
      refine Row.mk' (sp:=ys.drop n) (by simp;omega) (by simp only [List.length_take,List.length_drop,Nat.mul_one];simp at h3;omega) (by simp at h3;omega) h4 ?_
      rw [List.take_append_drop]
      exact hp
     have hnew:=row_fresh (e:=e) (size:=1) (n:=m+1) (cap:=grownCap w (m+1) cap e) (xs:=ys++ [u]) z.cells hold (by simp [hl]) hzs (grownCap_ge w (m+1) cap e) (grownCap_le_maxLen w (m+1) cap e h63)
     have hnew2:Sat ((Row e 1 (.slice (some ⟨w.heap.size,0,none⟩) (m+1) (grownCap w (m+1) cap e)) (m+1) (ys++ [u])).star ((Row e 1 (.slice (some ⟨b,0,none⟩) n cap) n (ys.take n)).star F)) (w.drew.alloc (.cells (ys.toArray++ #[u]++Builtin.zeroCells z.cells (grownCap w (m+1) cap e-(m+1))) e)):=by simpa using hnew
     refine Grew.mk_apart ?_ (by omega)
     rw [List.take_append_of_le_length (by omega)]
     exact hnew2.perm (by ac_rfl)
 · obtain⟨g',w',hr,h5,hg,_⟩:=run_append_sl (P:=P) t ty e i z 1 bytes ht hi hz hsize hby hzs g m ys (hp.perm (B:=(Row e 1 g m ys).star ((Row e 1 v n (ys.take n)).star F)) (by ac_rfl)) a 1 c [u] (by simp) hnews hone h63 hbytes
   refine⟨g',w',hr,Grew.mk_apart ?_ (by omega),⟨hg.os,hg.tape,hg.output,hg.size⟩⟩
   rw [List.take_append_of_le_length (by omega)]
   exact h5.perm (by ac_rfl)
theorem wp_append_grew {o:Oper}{a:Act}{K:Act→World→Prop}{Q:Exit→Act→World→Prop}(s x:Operand)(t:TypeId)
 (ho:o.op= .call { callee:= .builtin .append,args:= #[s,x],argTypes:= #[t,t] })
 (e:TypeId) (i:TypeInfo) (z:Value) (bytes:Nat) (ht:P.underlying t=some (.slice e)) (hi:P.info? e=some i) (hz:i.zero=some z)
 (hsize:i.size=1) (hby:i.bytes=bytes) (hzs:z.cells.size=1)
 (v g:Value) (n m:Nat) (ys:List Value) (hs:a.eval s=g) (hown:Sat ((Grew e v n g m ys).star F) w)
 (ad:Addr) (c:Nat) (u:Value) (hx:a.eval x= .slice (some ad) 1 c) (hu:w.cell? ad=some u) (h1:u.oneCell'=true)
 (h63:m+1≤maxLen) (hbytes:(m+1)*bytes≤140737488355328)
 (h:∀g' w',Sat ((Grew e v n g' (m+1) (ys++ [u])).star F) w'→Stays w w'→K (a.put o.dst g') w'):o.wp P a w K Q:=by
 obtain⟨g',w',hr,h2,h3⟩:=run_append_grew (P:=P) t o.type e i z bytes ht hi hz hsize hby hzs v g n m ys hown ad c u hu h1 h63 hbytes
 unfold Oper.wp execOp
 simp only [ho,resolve,invoke,builtin,Sem.run_bind,Sem.run_pure,Result.andThen_ok,List.map_toArray,List.map_cons,List.map_nil,hs,hx,hr]
 exact h g' w' h2 h3
theorem wpList_append_grew {ops:Array Oper}{rest:List Oper}{o:Oper}{a:Act}{Q:Exit→Act→World→Prop}(hgd:o.guard=none)(s x:Operand)(t:TypeId)
 (ho:o.op= .call { callee:= .builtin .append,args:= #[s,x],argTypes:= #[t,t] })
 (e:TypeId) (i:TypeInfo) (z:Value) (bytes:Nat) (ht:P.underlying t=some (.slice e)) (hi:P.info? e=some i) (hz:i.zero=some z)
 (hsize:i.size=1) (hby:i.bytes=bytes) (hzs:z.cells.size=1)
 (v g:Value) (n m:Nat) (ys:List Value) (hs:a.eval s=g) (hown:Sat ((Grew e v n g m ys).star F) w)
 (ad:Addr) (c:Nat) (u:Value) (hx:a.eval x= .slice (some ad) 1 c) (hu:w.cell? ad=some u) (h1:u.oneCell'=true)
 (h63:m+1≤maxLen) (hbytes:(m+1)*bytes≤140737488355328)
 (h:∀g' w',Sat ((Grew e v n g' (m+1) (ys++ [u])).star F) w'→Stays w w'→wpList P ops Q rest (a.put o.dst g') w'):wpList P ops Q (o :: rest) a w:=
 wpList_plain hgd fun _ hK=>wp_append_grew s x t ho e i z bytes ht hi hz hsize hby hzs v g n m ys hs hown ad c u hx hu h1 h63 hbytes fun g' w' h2 h3=>hK _ _ (h g' w' h2 h3)
end
end Go.Sl
