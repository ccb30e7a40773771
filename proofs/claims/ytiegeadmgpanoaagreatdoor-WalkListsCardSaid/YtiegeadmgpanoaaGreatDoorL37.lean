/- The program's Check; the conditions stand as hypotheses. -/
import Derived.Test.YtiegeadmgpanoaaGreatDoorL35
import Derived.Test.YtiegeadmgpanoaaGreatDoorL32
import Derived.LaidMore
import Derived.Stop.Joined
set_option maxRecDepth 100000
set_option maxHeartbeats 16000000
namespace Go.Proofs.YtiegeadmgpanoaaGreatDoor.M8
open ChangeShapes WideShapes ChangeAt RowKit Sl fB L3 D2 Z3 E4 X5
theorem DZ(v:Nat)(s:eC)(look:Int→Option dR)(hl:D2.Looks s look)(j6:iT look):∀lv,Hq v s look lv
 | 0=>JS v s look hl j6
 | lv+1=>Gj v s look hl j6 lv (DZ v s look hl j6 lv)
abbrev pJ(root dT items:Int):Value:= .agg #[.int .i64 root,.int .i64 dT,.int .i64 items]
abbrev eT(root dT items:Int):Obj:= .cells #[.int .i64 root,.int .i64 dT,.int .i64 items] 35
structure qj(hg:Hp):Prop where
 cells:∀w:World,hg.le w→w.cell? ⟨0,0,none⟩=some (.slice none 0 0)∧w.cell? ⟨0,1,none⟩=some (.slice none 0 0)∧w.cell? ⟨0,2,none⟩=some (.bool true)
theorem qj.range {hg:Hp}:gJ hg (.agg #[.slice none 0 0,.slice none 0 0,.bool true]) ju:=⟨_,_,rfl,gj.nil _ _,gj.nil _ _⟩
theorem Mq:(fun _=>none)=qg []:=by
 funext m
 unfold qg;simp
theorem Mr:U8 ([]:List Int):=fun z hz=>by cases hz
theorem Ms:wT ju:=⟨Mr,Mr⟩
theorem Ao:nN 24 ju:=⟨aG _,aG _⟩
theorem rR(v:Nat)(s:eC)(look:Int→Option dR)(hl:D2.Looks s look)(j6:iT look)(root dT items:Int)(hit:items≤9223372036854775807)(hg:Hp)(GE:qj hg)(F:Pr)(w:World)(hF:dS [dZ v s,Pr.own hg,F] w):
 Calls Tryz.prog 10 #[.pointer (some ⟨v,0,none⟩),pJ root dT items] w fun e w'=>dN w w'∧e= .returned (.int .i64 (iW look root dT items))∧dS [dZ v s,Pr.own hg,F] w':=by
 have hs0:=hF.alloc (eT root dT items);have eR:=hQ ((dN.refl w).alloc (eT root dT items));have jC:=hQ hs0;have c1:=hs0.fx;obtain⟨e0,e1,e2⟩:=GE.cells w (hF.le (a:=hg));have ez:=ay _ _ e0;simp only at ez;clear hF hs0;by_cases hz:root=0∧dT=0∧items=0
 · obtain⟨rfl,rfl,rfl⟩:=hz
   have HV:=hQ (show iW look 0 0 0=0 from by unfold iW;rw [if_pos ⟨rfl,rfl,rfl⟩]);have HE:=hQ (jC.af.to (M:= [dZ v s,Pr.own hg,F]));clear jC;go_enter Tryz.func10,Tryz.ntmps10
   go_wp2;go_ret;rw [HV.af];exact⟨eR.af,rfl,HE.af⟩
 · by_cases vj:root=0∨dT<1∨12<dT∨items<1
   · have HV:=hQ (show iW look root dT items=5 from by unfold iW;rw [if_neg hz,if_pos vj])
     have HE:=hQ (jC.af.to (M:= [dZ v s,Pr.own hg,F]));clear jC;go_enter Tryz.func10,Tryz.ntmps10
     go_wp2;all_goals (subst_vars;first | (exfalso;omega) | (go_ret;rw [HV.af];exact⟨eR.af,rfl,HE.af⟩))
   · obtain⟨lv,rfl⟩:∃lv:Nat,dT=(lv:Int)+1:=⟨(dT-1).toNat,by omega⟩
     obtain⟨m,hm⟩:∃m,min ((lv:Int)+1) 2=m:=⟨_,rfl⟩;have Yn:lv≤11:=by omega
     have hpk:8 ^ (lv+1)≤68719476736:=bK (dF (by decide) (by omega:lv+1≤12)) (by decide);have hkk:=qh (fun n g h=>(fU (j6.uH n g h)).n) lv root m ju ([],0)
     have yY:iW look root ((lv:Int)+1) items=if(fq look lv root m ju ([],0)).1≠0 then(fq look lv root m ju ([],0)).1 else if(fq look lv root m ju ([],0)).2.2≠items then 4 else 0:=by
      unfold iW;rw [if_neg hz,if_neg vj,hm,show ((lv:Int)+1-1).toNat=lv by omega]
     have hr0:(root == 0)=false:=by rw [beq_eq_false_iff_ne];omega
     have hb1:¬((lv:Int)+1)<1:=by omega
     have hb2:¬12<(lv:Int)+1:=by omega
     have yg:¬items<1:=by omega
     have hmk:=fun wx:World=>run_makeMap (P:=Tryz.prog) 99 wx
     have hs1:=dS.kS (Cg (P:=Tryz.prog) (k:=3) jC.af.sat);rw [Mq,show (w.alloc (eT root ((lv:Int)+1) items)).heap.size=w.heap.size+1 by simp] at hs1;have hs2:=hs1.alloc (Nm v (w.heap.size+1) 0);rw [show ((w.alloc (eT root ((lv:Int)+1) items)).alloc (.map #[] 0)).heap.size=w.heap.size+1+1 by simp] at hs2
     have PC:=hQ (DZ v s look hl j6 lv (w.heap.size+1+1) (w.heap.size+1) [] 0 root m ju hg _ (aY _) (by omega) qj.range Ms Ao _ _ (dS.SJ (hs2.Co (A1:=dZ v s) (A2:=Pr.pts (w.heap.size+1+1) (Nm v (w.heap.size+1) 0)) (A3:=fD Tryz.prog 3 (w.heap.size+1) (qg [])) (A4:=Pr.own hg))))
     have fa:=hQ ((eR.af.alloc (.map #[] 0)).alloc (Nm v (w.heap.size+1) 0));have Er:=hQ yY;have wb:=hQ hkk;clear hs1 hs2 jC eR yY hkk hl j6 vj hz hpk GE hit;generalize fq look lv root m ju ([],0)=RE at*;go_enter Tryz.func10,Tryz.ntmps10
     go_wp2_with (refine kZ rfl _ _ rfl rfl ((lv:Int)+1) 2 m hm.symm rfl rfl ?_)
     refine PC.af.mono ?_;rintro e w5 ⟨iL,rfl,gu⟩;have gQ:=gu.flat;have iM:=hQ (fa.af.trans iL);clear c1 e0 e1 e2 ez;have c1:=gQ.fx;have HE:=hQ (gQ.to (M:= [dZ v s,Pr.own hg,F]));clear gu gQ iL PC fa;generalize w.heap.size+1+1=BK at*;generalize w.heap.size=BT at*;by_cases h1:RE.1≠0
     · have HV:=hQ (Er.af.trans (if_pos h1))
       have zu:(RE.1 != 0)=true:=bne_iff_ne.2 h1;clear h1 Er wb;go_wp2;go_ret;rw [HV.af];exact⟨iM.af,rfl,HE.af⟩
     · have h0:=Er.af.trans (if_neg h1)
       have zu:(RE.1 != 0)=false:=by rw [bne_eq_false_iff_eq];omega
       by_cases h2:RE.2.2≠items
       · have HV:=hQ (h0.trans (if_pos h2))
         have Uj:(RE.2.2 != items)=true:=bne_iff_ne.2 h2;clear h1 h2 h0 Er wb;go_wp2;go_quiet (fail)
         go_wp2;go_ret;rw [HV.af];exact⟨iM.af.drewN _,rfl,HE.af.drewN _⟩
       · have HV:=hQ (h0.trans (if_neg h2))
         have Uj:(RE.2.2 != items)=false:=by rw [bne_eq_false_iff_eq];omega
         clear h1 h2 h0 Er wb;go_wp2;go_quiet (fail)
         go_wp2;go_ret;rw [HV.af];exact⟨iM.af.drewN _,rfl,HE.af.drewN _⟩
end Go.Proofs.YtiegeadmgpanoaaGreatDoor.M8
namespace Go.fB
structure ri where
 root:Int
 dT:Int
 items:Int
end Go.fB
namespace Go.Proofs.YtiegeadmgpanoaaGreatDoor.D2
open ChangeShapes WideShapes ChangeAt RowKit Sl fB E4
def ky(t:ri):List Value:= [.int .i64 t.root,.int .i64 t.dT,.int .i64 t.items]
abbrev oY(h:Hp)(v:Value)(l:List ri):Prop:=gj h 3 v l.length (l.flatMap ky)
theorem yw {h:Hp}{v:Value}{l:List ri}(hr:oY h v l):∃a c,v= .slice a l.length c∧∀i (hl:i<l.length),∃b off,a=some ⟨b,off,none⟩∧∀w,h.le w→w.cell? ⟨b,off+i*3,none⟩=some (.int .i64 l[i].root)∧w.cell? ⟨b,off+i*3+1,none⟩=some (.int .i64 l[i].dT)∧w.cell? ⟨b,off+i*3+2,none⟩=some (.int .i64 l[i].items):=by
 obtain⟨_,a,c,e,_,_,hc⟩:=hr;refine⟨a,c,e,fun i hl=> ?_⟩;obtain⟨b,off,ea,hcell⟩:=hc (by omega);refine⟨b,off,ea,fun w hw=> ?_⟩
 have at':∀j,j<3→∀v,(ky l[i])[j]? =some v→w.cell? ⟨b,off+i*3+j,none⟩=some v:=by
  intro j hj v hv;have h3:=hcell (i*3+j) (by omega);have h4:=nL ky 3 (fun _=>rfl) l i j hl hj;rw [hv] at h4;rw [cN];exact Hp.kG hw (h3.trans h4)
 exact⟨at' 0 (by omega) _ rfl,at' 1 (by omega) _ rfl,at' 2 (by omega) _ rfl⟩
end Go.Proofs.YtiegeadmgpanoaaGreatDoor.D2
namespace Go.fB
theorem JW {look:Int→Option dR}{key:List Int}{lv:Nat}{n:Int}{g:dR}(h:look n=some g):oz look key (lv+1) n=n :: oz look key lv (d5 g.items (ku g.items key)).child:=by
 show n :: (match look n with | some g=>_ | none=>_)=_
 rw [h]
end Go.fB
namespace Go.Proofs.YtiegeadmgpanoaaGreatDoor.D2
open ChangeShapes WideShapes ChangeAt RowKit Sl fB L3 Z3 E4 X5 M8
theorem Mt(v:Nat)(s:eC)(look:Int→Option dR)(hl:D2.Looks s look)(j6:iT look)(hb:Hp)(kv:Value)(key:List Int)(hk:Bytes hb kv key)(uk:U8 key)(root:Int)(lv:Nat)(items:Int)(hlv:lv≤11)(q:fw)(L:List en)(hT:yS look lv root q L)(F:Pr)(w:World)(hF:dS [dZ v s,Pr.own hb,F] w):
 Calls Tryz.prog 22 #[.pointer (some ⟨v,0,none⟩),pJ root ((lv:Int)+1) items,kv] w fun e w'=>dN w w'∧∃o,e= .returned (.tuple #[o,.int .i64 0])∧dS [dX o (oz look key lv root),dZ v s,Pr.own hb,F] w':=by
 obtain⟨XQ,XR,rfl⟩:=eB hk;obtain⟨i0,lk,hz0,hz1,jg⟩:=info_parts mA;have hs0:=hF.alloc (eT root ((lv:Int)+1) items);have eR:=hQ ((dN.refl w).alloc (eT root ((lv:Int)+1) items));have c1:=hs0.fx;have jC:=hQ hs0;have HH:=hQ (And.intro hl (And.intro j6 (And.intro hk uk)));have HT:=hQ hT;clear hF hs0 hl j6 hk uk hT
 go_enter Tryz.func22,Tryz.ntmps22
 go_wp2;generalize w.heap.size=BT at*;clear c1
 go_loopw [8,9,10] (fun o n left wr=> ∃(k:Nat) (m:Int) (q:fw) (L:List en) (pre:List Int),k≤lv∧n= .int .i64 m∧left= .int .i64 ((k:Int)+1)∧pre.length+k=lv∧Hid (oz look key lv root=pre++oz look key k m)∧Hid (yS look k m q L)∧dN w wr∧dS [dX o pre,Pr.pts BT (eT root ((lv:Int)+1) items),dZ v s,Pr.own hb,F] wr) (fun _ _ left _=>(intOf left).toNat)
 case atStart=>
  refine⟨lv,root,q,L,[],aD _,rfl,rfl,by simp,hQ rfl,HT,eR.af,?_⟩;have h1:=jC.af.emp;rw [← Row.nil 3 1] at h1;exact h1.to (M:= [Row 3 1 (.slice none 0 0) 0 [],Pr.pts BT (eT root ((lv:Int)+1) items),dZ v s,Pr.own hb,F])
 case round=>
  obtain⟨k,m,q,L,pre,hk2,rfl,rfl,hpl,heq,hT,hst,hs⟩:=hrel;clear eR jC HT;have hA:=hs.alloc (.cells #[.int .i64 m] 3);obtain⟨ao,co,rfl⟩:=Row.shape (hs.ej (A1:=dX u8 pre));have H1:=hQ (hA.ej (A1:=dX (.slice ao pre.length co) pre));have HC:=hQ (eW wr [.int .i64 m] 3 _ rfl);have eR:=hQ hst;have aay:pre.length≤11:=by omega
  have c1:=hs.fx;clear hs hA hst;cases k with
  | zero=>
    have HQ:=hQ (heq.af.trans (show pre++oz look key 0 m=pre++ [m] from rfl));clear heq hT
    go_wp2_with (at_builtin;refine eu rfl _ _ _ rfl 3 i0 (.int .i64 0) 1 8 Tryz.underlying22 lk hz0 hz1 jg rfl _ _ _ rfl H1.af ⟨wr.heap.size,0,none⟩ 1 1 [.int .i64 m] rfl rfl HC.af (by simp [Value.oneCell']) (by simp only [maxLen];omega) (by omega) ?_;intro v7 w4 fp mD _;obtain⟨a7,c7,e7,_,_⟩:=Row.read fp;subst e7;have lZ:=hQ fp;have qx:=hQ ((eR.af.alloc _).eH mD);clear fp mD)
    go_ret2;refine⟨qx.af,_,rfl,?_⟩;rw [HQ.af];have h1:=dS.kS lZ.af;unfold dX;rw [aI,au];exact h1.to (M:= [Row 3 1 (.slice a7 (pre.length+1) c7) (pre.length+1) (pre.map (Value.int .i64)++ [.int .i64 m]),dZ v s,Pr.own hb,F])
  | succ j=>
    obtain⟨g,LL,hlm,hkg,hlen,hch⟩:∃(g:dR) (LL:List (List en)),look m=some g∧g.kind=2∧LL.length=g.items.length∧∀i (hi:i<LL.length),yS look j (d5 g.items i).child (gW q (gG g.items i)) LL[i]:=by
     have h1:=hT.af;cases h1 with
     | index _ _ _ g LL a1 a2 a3 a4 a5=>exact⟨g,LL,a1,a2,a4,a5⟩
    have hfit:=fU (HH.af.2.1.uH m g hlm);have Q5:=((je (HH.af.2.1.uH m g hlm)).index hkg).2.2;obtain⟨WJ,_,_⟩:=xW key (l:=g.items) (fun e=>by rw [e] at Q5;simp at Q5);have Hf:=hfit.n;have HQ:=hQ (heq.af.trans (by rw [JW hlm,List.append_cons]))
    obtain⟨q2,L2,Lg⟩:∃q2 L2,yS look j (d5 g.items (ku g.items key)).child q2 L2:=⟨_,_,hch (ku g.items key) (by omega)⟩;have r7:=hQ Lg;have HG:=hQ (And.intro hfit (HH.af.2.1.u8 m g hlm));have VR:=hQ (fun(G:Pr) (wx:World) hG=>rT v s look HH.af.1 m G wx hG);rw [hlm] at VR;simp only [reduceCtorEq,if_false,Option.getD_some] at VR;have hj2:(j:Int)+1+1≠1:=by omega
    have HJ:=hQ (And.intro hk2 hpl);clear heq hT hlm hch Lg hfit Q5 hpl;obtain⟨rt,Q6⟩:∃rt,ku g.items key=rt:=⟨_,rfl⟩;rw [Q6] at r7 HQ WJ;have HRT:=hQ Q6;clear Q6
    go_wp2_with (at_builtin;refine eu rfl _ _ _ rfl 3 i0 (.int .i64 0) 1 8 Tryz.underlying22 lk hz0 hz1 jg rfl _ _ _ rfl H1.af ⟨wr.heap.size,0,none⟩ 1 1 [.int .i64 m] rfl rfl HC.af (by simp [Value.oneCell']) (by simp only [maxLen];omega) (by omega) ?_;intro v7 w4 fp mD _;obtain⟨a7,c7,e7,_,_⟩:=Row.read fp;subst e7;have lZ:=hQ (dS.kS fp);have qx:=hQ ((eR.af.alloc _).eH mD);clear fp mD c1)
    have fp:=lZ.af;have V1:=hQ (VR.af _ _ (fp.ej (A1:=dZ v s)));refine V1.af.mono ?_;rintro e w5 ⟨iL,pv,rfl,h',hp,gu⟩;obtain⟨iG,iE,gX,iF,rfl⟩:=rU hp;have gQ:=(dS.mH gu).alloc (dV g.kind g.level (.slice iG g.items.length gX) (.slice iE g.data.length iF) g.next);have mY:=hQ gQ;have HP:=hQ hp
    have iM:=hQ ((qx.af.trans iL).alloc (dV g.kind g.level (.slice iG g.items.length gX) (.slice iE g.data.length iF) g.next));clear fp gu gQ hp iL V1 VR lZ qx H1 HC eR;dsimp only [fX];rw [hkg];rw [hkg] at iM mY;go_wp2_with fail
    have gQ:=mY.af;have iL:=iM.af;clear mY iM;generalize w5.alloc (dV 2 g.level (.slice iG g.items.length gX) (.slice iE g.data.length iF) g.next)=w6 at*;generalize w5.heap.size=PB at*;have c1:=gQ.fx;have hp:=HP.af;rw [hkg] at hp
    have RT:=hQ (Jn h' hb _ _ g hp HG.af.1 HG.af.2 key HH.af.2.2.1 HH.af.2.2.2 w6.drew (gQ.drew.le (a:=h')) (gQ.drew.le (a:=hb)));rw [HRT.af] at RT;have mY:=hQ gQ.drew;have l9:=hQ iL.drew;clear gQ iL hp;refine wS 48 [0,1,2,3] [(4,[5,6,7,8],[0,1])] ?_;refine dY _ rfl rfl ?_;simp only [pick,pQ];iterate 4 (go_big_quiet_step (fail))
    refine wpQuiet_nil ?_;refine dK rfl ?_;go_wp2_with fail
    refine RT.af.mono ?_;rintro e w7 ⟨rfl,ho⟩;have gZ:=mY.af.ext ho.heap;clear c1;have c1:=gZ.fx;obtain⟨_,_,hpe,L9,_⟩:=HP.af;cases hpe;obtain⟨_,_,Yo,_,rd⟩:=fL L9;cases Yo;obtain⟨b,off,ak,ck,av,cv,rfl,_,_,hc⟩:=rd rt WJ;obtain⟨_,_,d2,_⟩:=hc w7 (gZ.le (a:=h'));have zb:=ay _ _ d2;rw [← gn WJ] at d2
    simp only at zb;have aaz:(rt:Int)<(g.items.length:Int):=by omega
    have rQ:=hQ gZ;have iN:=hQ (l9.af.trans ho.st);clear gZ ho hc rd L9 RT mY l9 HP;go_wp2;refine dQ ?_;refine dY _ rfl rfl ?_;simp only [pick,pQ];iterate 4 (go_big_quiet_step (fail))
    refine wpQuiet_nil ⟨?_,?_⟩
    · exact cQ
    refine dW ?_;go_wp2;go_roundw
    case rel=>
     rw [gn WJ] at HQ r7;refine⟨j,_,_,_,pre++ [m],by have:=HJ.af;omega,rfl,congrArg (Value.int .i64) (by omega),by have:=HJ.af;rw [au];simp;omega,HQ,r7,iN.af,?_⟩;have h1:=rQ.af.to (M:= [Row 3 1 (.slice a7 (pre.length+1) c7) (pre.length+1) (pre.map (Value.int .i64)++ [.int .i64 m]),Pr.pts BT (eT root ((lv:Int)+1) items),dZ v s,Pr.own hb,F]);unfold dX
     rw [aI,au];exact h1
    case measure=>simp [intOf];omega
end Go.Proofs.YtiegeadmgpanoaaGreatDoor.D2
namespace Go.Proofs.YtiegeadmgpanoaaGreatDoor.Q8
open ChangeShapes WideShapes ChangeAt RowKit Sl fB Deep D2 V5 M8
theorem own:ownKnob Tryz.prog.godebug=none:=by kernel_rfl
theorem D1:Tryz.prog.cellsOf 26=4:=by kernel_rfl
theorem yx:Tryz.prog.cellsOf 35=3:=by kernel_rfl
theorem rj:Tryz.prog.cellsOf 64=3:=by kernel_rfl
theorem Q7:Tryz.prog.globalNamed "coppice/walk.everything" =some 0:=by kernel_rfl
theorem Q9:(Tryz.prog.globals[0]?).map (·.type)=some 64:=by kernel_rfl
abbrev D4:List (String × DataW Unit):= [("coppice/walk.everything",Rows.laid_coppice_walk_everything)]
theorem Mv(os:Os)(args:Array Value):laidMetH Tryz.prog D4 ((World.doorLaid Tryz.prog 400 os).forCall (fun _ _=>0) ⟨#[],args,[]⟩).memory:=
 laidMetH_of_parts3 (fuel:=8) (laidMet_of_run' 8 (by kernel_rfl) (by kernel_rfl)) (by kernel_rfl) (by kernel_rfl)
section
variable {H:Type}{enc:TypeId × Value→H}
theorem OY {W:World}{base n:Nat}{cs:List Value}{x:DataW H × List MemPlace}(h:DataW.trod enc Tryz.prog W base (fun _=>true) true n 35 cs=some x):
 ∃t:ri,cs=ky t∧t.items≤9223372036854775807:=by
 obtain⟨xs,m,rfl,rfl,hl,hlen,hf⟩:=DataW.trod_struct Tryz.underlying35 h;rw [yx] at hl;match cs,hl with
 | [c0,c1,c2],_=>
   match xs,hlen with
   | [x0,x1,x2],_=>
     have f0:=hf 0 _ rfl;have f1:=hf 1 _ rfl;have f2:=hf 2 _ rfl;simp only [List.getElem?_cons_zero,List.getElem?_cons_succ] at f0 f1 f2;obtain⟨a,rfl,_⟩:=o8 f0;obtain⟨b,rfl,_⟩:=o8 f1;obtain⟨c,rfl,_,hc⟩:=o8 f2;exact⟨⟨a,b,c⟩,rfl,hc⟩
instance:Inhabited ri:=⟨⟨0,0,0⟩⟩
theorem Mw {W:World}{base n:Nat}{v:Value}{x:DataW H × List MemPlace}(h:DataW.trod enc Tryz.prog W base (fun _=>true) true n 24 [v]=some x):
 ∃l:List ri,oY (ik W) v l∧∀t∈l,t.items≤9223372036854775807:=by
 obtain⟨len,n',C,D,Pl,hC,hr,_⟩:=wV Tryz.underlying24 yx (by omega) h;obtain⟨Y,hY⟩:=choose_lt (α:=ri) (n:=len) (p:=fun i y=>C i=ky y∧y.items≤9223372036854775807) (fun i hi=>OY (hC i hi).2);refine⟨(List.range len).map Y,?_,fun t ht=> ?_⟩
 · have e1:(List.range len).flatMap C=((List.range len).map Y).flatMap ky:=by
    rw [List.flatMap_map];exact flatMap_congr_range fun i hi=>(hY i hi).1
   unfold oY;rw [← e1];simpa using hr
 · obtain⟨i,hi,rfl⟩:=bH.1 ht
   exact(hY i (aP.1 hi)).2
theorem Gl {W:World}{base:Nat}{v:Value}{d:DataW H}{p:List MemPlace}(hval:Value.okWide Tryz.prog W .any base 26 v)(h:DataW.Trod enc Tryz.prog W 0 (fun _=>true) true 26 v d p):
 ∃refs vc vl vt cs l ts,v=OP refs vc vl vt∧r_ (ik W) vc cs∧o6 (ik W) vl l∧oY (ik W) vt ts∧(∀y∈l,qZ y.page)∧∀t∈ts,t.items≤9223372036854775807:=by
 obtain⟨a,rfl,_⟩:=okWide_struct Tryz.underlying26 hval;obtain⟨n,hn⟩:=h;obtain⟨xs,m,rfl,_,hl,hlen,hf⟩:=DataW.trod_struct Tryz.underlying26 hn;rw [D1] at hl;obtain⟨cs⟩:=a;simp only [Value.cells] at hl hf;match cs,hl with
 | [c0,c1,c2,c3],_=>
   match xs,hlen with
   | [x0,x1,x2,x3],_=>
     have f0:=hf 0 _ rfl;have f1:=hf 1 _ rfl;have f2:=hf 2 _ rfl;have f3:=hf 3 _ rfl;obtain⟨r,rfl,_⟩:=o8 f0;obtain⟨cs,h1,_,_⟩:=Oj f1;obtain⟨l,h2,h3,_⟩:=On f2;obtain⟨ts,h4,h5⟩:=Mw f3;exact⟨r,c1,c2,c3,cs,l,ts,rfl,h1,h2,h4,h3,h5⟩
end
theorem Gm {h:Hp}{v:Value}{l:List mG}(hl:o6 h v l):l.length≤9223372036854775807:=by
 obtain⟨_,_,⟨_,_,_,_,h1,h2,_⟩,_⟩:=hl;simp only [maxLen] at h2;omega
theorem Mx {W:World}(h:laidMetH Tryz.prog D4 W):qj (ik W):=by
 rw [MakeChecks.laidMetH_plain _ _ _ (by kernel_rfl)] at h;obtain⟨ps,⟨g0,t0,cs0,f0,p0,q0,Yp,WL,WG,hd0,_,_⟩,_,_⟩:=h;obtain rfl:=Option.some.inj (Q7.symm.trans Yp);obtain rfl:=Option.some.inj (Q9.symm.trans WL);obtain⟨xs,m,_,hx,hl,hlen,hf⟩:=DataW.trod_struct Tryz.underlying64 hd0;rw [rj] at hl;obtain⟨cs⟩:=cs0;simp only at hl hf WG;match cs,hl with
 | [c0,c1,c2],_=>
   match xs,hlen with
   | [x0,x1,x2],_=>
     simp only [Rows.laid_coppice_walk_everything,Prod.mk.injEq,DataW.agg.injEq,aT,aZ,List.cons.injEq,and_true] at hx;obtain⟨⟨e0,e1,e2⟩,_⟩:=hx;have f0:=hf 0 _ rfl;have f1:=hf 1 _ rfl;have f2:=hf 2 _ rfl;simp only [List.getElem?_cons_zero,List.getElem?_cons_succ] at f0 f1 f2
     have k0:c0= .slice none 0 0:=by
      rcases open_slice (cs:= [c0]) Tryz.underlying42 f0 with⟨e,_⟩ | ⟨_,_,_,_,_,_,_,_,_,_,_,_,e,_⟩
      · simpa using e
      · rw [e] at e0;cases e0
     have k1:c1= .slice none 0 0:=by
      rcases open_slice (cs:= [c1]) Tryz.underlying42 f1 with⟨e,_⟩ | ⟨_,_,_,_,_,_,_,_,_,_,_,_,e,_⟩
      · simpa using e
      · rw [e] at e1;cases e1
     have k2:c2= .bool true:=by
      obtain⟨b,e,e3⟩:=DataW.trod_bool (cs:= [c2]) Tryz.underlying4 f2;rw [e3] at e2;cases e2;simpa using e
     subst k0 k1 k2;have hv:=fun j=>World.var?_cell Yp WG j
     have up:∀(w:World),(ik W).le w→∀i v,W.cell? ⟨0,i,none⟩=some v→w.cell? ⟨0,i,none⟩=some v:=fun w hw i v e=>Hp.kG hw (show (ik W).cell 0 i=some v from e)
     exact⟨fun w hw=>⟨up w hw 0 _ (hv 0),up w hw 1 _ (hv 1),up w hw 2 _ (hv 2)⟩⟩
end Go.Proofs.YtiegeadmgpanoaaGreatDoor.Q8
namespace Go.Proofs.YtiegeadmgpanoaaGreatDoor.T8
open ChangeShapes WideShapes ChangeAt RowKit Sl fB Deep D2 V5
instance:Inhabited (Value × List Int):=⟨(.slice none 0 0,[])⟩
section
variable {H:Type}{enc:TypeId × Value→H}
end
end Go.Proofs.YtiegeadmgpanoaaGreatDoor.T8
namespace Go.fB
def kK(look:Int→Option dR)(root dT items:Int)(L:List en):Prop:=(root=0∧dT=0∧items=0∧L= [])∨(root≠0∧items=(L.length:Int)∧∃lv:Nat,dT=(lv:Int)+1∧lv≤11∧yS look lv root ju L)
theorem oH {look:Int→Option dR}(ok:iT look){root dT items:Int}(h:iW look root dT items=0):∃L,kK look root dT items L:=by
 rcases sg ok h with⟨rfl,rfl,rfl⟩ | ⟨h0,h1,h2,L,hT,hL⟩
 · exact⟨[],.inl ⟨rfl,rfl,rfl,rfl⟩⟩
 · exact⟨L,.inr ⟨h0,hL,(dT-1).toNat,by omega,by omega,hT⟩⟩
def D5(look:Int→Option dR)(root dT:Int)(key:List Int):List Int:=if dT=0 then [] else oz look key (dT-1).toNat root
def nq(look:Int→Option dR)(x:en):List Int:=(iI look x.size x.child x.value).1
def D6(look:Int→Option dR)(L:List en)(key:List Int):List Int:=if oM key then(match vI key L with | some x=>nq look x | none=> []) else []
def D7(L:List en)(key:List Int):Bool:=oM key && (vI key L).isSome
def D8(key:List Int):Int:=if oM key then 0 else 7
theorem OZ(look:Int→Option dR)(L:List en){key:List Int}(h:oM key=false):D6 look L key= []∧D7 L key=false∧D8 key=7:=by
 unfold D6 D7 D8;rw [h];exact⟨rfl,rfl,rfl⟩
theorem get_none(look:Int→Option dR){L:List en}{key:List Int}(h:oM key=true)(hf:vI key L=none):D6 look L key= []∧D7 L key=false∧D8 key=0:=by
 unfold D6 D7 D8;rw [h,hf];exact⟨rfl,rfl,rfl⟩
theorem get_some(look:Int→Option dR){L:List en}{key:List Int}{x:en}(h:oM key=true)(hf:vI key L=some x):D6 look L key=nq look x∧D7 L key=true∧D8 key=0:=by
 unfold D6 D7 D8;rw [h,hf];exact⟨rfl,rfl,rfl⟩
end Go.fB
namespace Go.Proofs.YtiegeadmgpanoaaGreatDoor.D2
open ChangeShapes WideShapes ChangeAt RowKit Sl fB L3 Z3 E4 X5 M8
theorem O0(v:Nat)(s:eC)(look:Int→Option dR)(hl:D2.Looks s look)(j6:iT look)(hb:Hp)(kv:Value)(key:List Int)(hk:Bytes hb kv key)(uk:U8 key)(root dT items:Int)(L:List en)(hT:kK look root dT items L)(F:Pr)(w:World)(hF:dS [dZ v s,Pr.own hb,F] w):
 Calls Tryz.prog 22 #[.pointer (some ⟨v,0,none⟩),pJ root dT items,kv] w fun e w'=>dN w w'∧∃o,e= .returned (.tuple #[o,.int .i64 0])∧dS [dX o (D5 look root dT key),dZ v s,Pr.own hb,F] w':=by
 rcases hT with⟨rfl,rfl,rfl,rfl⟩ | ⟨h0,_,lv,rfl,hlv,hT⟩
 · have eR:=hQ ((dN.refl w).alloc (eT 0 0 0))
   have jC:=hQ (hF.alloc (eT 0 0 0)).emp;clear hF;go_enter Tryz.func22,Tryz.ntmps22
   go_wp2;go_loopw [8,9,10] (fun o n left wr=>o= .slice none 0 0∧n= .int .i64 0∧left= .int .i64 0∧dN w wr∧dS [Pr.emp,dZ v s,Pr.own hb,F] wr) (fun _ _ _ _=>0)
   case atStart=>exact⟨rfl,rfl,rfl,eR.af,jC.af.to⟩
   case round=>
    obtain⟨rfl,rfl,rfl,hst,hs⟩:=hrel;have fa:=hQ hst;have lK:=hQ hs;clear hst hs eR jC;go_wp2;go_ret2;refine⟨fa.af,.slice none 0 0,rfl,?_⟩;have h1:=lK.af;rw [← Row.nil 3 1] at h1;exact h1
 · have e:D5 look root ((lv:Int)+1) key=oz look key lv root:=by
    unfold D5;rw [if_neg (by omega),show ((lv:Int)+1-1).toNat=lv by omega]
   rw [e];exact Mt v s look hl j6 hb kv key hk uk root lv items hlv ju L hT F w hF
theorem O1(v:Nat)(s:eC)(look:Int→Option dR)(hl:D2.Looks s look)(j6:iT look)(hb:Hp)(kv:Value)(key:List Int)(hk:Bytes hb kv key)(uk:U8 key)(nk:key.length≤140737488355328)(root dT items:Int)(L:List en)(hT:kK look root dT items L)(F:Pr)(w:World)(hF:dS [dZ v s,Pr.own hb,F] w):
 Calls Tryz.prog 14 #[.pointer (some ⟨v,0,none⟩),pJ root dT items,kv] w fun e w'=>dN w w'∧∃o,e= .returned (.tuple #[o,.bool (D7 L key),.int .i64 (D8 key)])∧dS [dM o (D6 look L key),dZ v s,Pr.own hb,F] w':=by
 obtain⟨XQ,XR,rfl⟩:=eB hk;have hs0:=hF.alloc (eT root dT items);have eR:=hQ ((dN.refl w).alloc (eT root dT items));have c1:=hs0.fx;have aaA:(key.length:Int)≤140737488355328:=by omega
 by_cases Ni:oM key=true
 · have Yq:=hQ Ni
   have O2:1≤key.length∧key.length≤24:=of_decide_eq_true Ni;have hk1:¬(key.length:Int)<1:=by omega
   have hk2:¬24<(key.length:Int):=by omega
   have WA:=hQ (O0 v s look hl j6 hb _ key hk uk root dT items L hT _ _ (dS.xp (hs0.iQ (A1:=dZ v s) (A2:=Pr.own hb))));have HH:=hQ (And.intro hl (And.intro j6 (And.intro hk uk)));have HT:=hQ hT;clear hF hs0 hl j6 hk uk hT Ni O2;go_enter Tryz.func14,Tryz.ntmps14
   go_wp2_with fail
   refine WA.af.mono ?_;rintro e w1 ⟨fN,o,rfl,hs1⟩;have hs2:=hs1.flat;obtain⟨ao,co,rfl⟩:=Row.shape (hs2.ej (A1:=dX o (D5 look root dT key)));have eQ:=hQ (eR.af.trans fN);clear c1;have c1:=hs2.fx;rcases HT.af with⟨_,rfl,_,rfl⟩ | ⟨_,_,lv,rfl,hlv,WM⟩
   · have hw0:(D5 look root 0 key)= []:=by unfold D5;rw [if_pos rfl]
     rw [hw0];have h1:=(hs2.to (M:= [dZ v s,Pr.own hb,F])).emp;rw [← Row.nil 5 1] at h1;have HE:=hQ h1;clear hs1 hs2 fN hw0 h1;go_wp2;go_ret3
     obtain⟨e1,e2,e3⟩:=get_none look (L:= []) Yq.af (show vI key []=none from rfl);rw [e1,e2,e3];exact⟨eQ.af,.slice none 0 0,rfl,HE.af⟩
   · have Kd:D5 look root ((lv:Int)+1) key=oz look key lv root:=by
      unfold D5;rw [if_neg (by omega),show ((lv:Int)+1-1).toNat=lv by omega]
     rw [Kd] at hs2 ⊢;obtain⟨⟨p1,p2,p3⟩,g,Uk,p4,p5,p6⟩:=Hb HH.af.2.1 key WM;clear p3 p4 p5 p6;obtain⟨f1,f2⟩:=Oc HH.af.2.1 key WM Uk;obtain⟨P,hP⟩:∃P,oz look key lv root=P:=⟨_,rfl⟩;rw [hP] at hs2 p1 p2 ⊢;obtain⟨b,u,rfl,hu,d0,_,zb⟩:=Row.sF (hs2.ej (A1:=dX (.slice ao P.length co) P)) lv (by omega);rw [aO,p2] at hu
     obtain rfl:u= .int .i64 (xX look key lv root):=(Option.some.inj hu).symm;generalize xX look key lv root=nl at*;have hval:∀x∈L,(iI look x.size x.child x.value).2=0:=fun x hx=>(sN WM x hx).2
     have hfit:=fU (HH.af.2.1.uH _ g Uk);have wC:=HH.af.2.1.u8 _ g Uk;have hsp:=(qX key (oU (HH.af.2.1.uH _ g Uk))).1;have VR:=rT v s look HH.af.1 nl _ _ (hs2.ej (A1:=dZ v s));rw [Uk] at VR;simp only [reduceCtorEq,if_false,Option.getD_some] at VR;have VRH:=hQ VR;have Gn:=hQ (And.intro f1 (And.intro f2 (And.intro hval (And.intro hfit wC))))
     have hpl:P.length=lv+1:=p1;rw [hpl];have Hf:=hfit.n;clear hs1 hs2 fN VR f1 f2 hval hfit wC WM Kd p1 p2 hP hu hpl;go_wp2_with fail
     refine VRH.af.mono ?_;rintro e w2 ⟨kU,pv,rfl,h',hp,fP⟩;obtain⟨iG,iE,gX,iF,rfl⟩:=rU hp;dsimp only [fX];have fp:=(dS.mH fP).alloc (dV g.kind g.level (.slice iG g.items.length gX) (.slice iE g.data.length iF) g.next);have SE:=hQ (F_ h' hb _ _ g hp Gn.af.2.2.2.1 Gn.af.2.2.2.2 key HH.af.2.2.1 HH.af.2.2.2 _ (fp.le (a:=h')) (fp.le (a:=hb)))
     have lZ:=hQ fp;have HP:=hQ hp;have fa:=hQ ((eQ.af.trans kU).alloc (dV g.kind g.level (.slice iG g.items.length gX) (.slice iE g.data.length iF) g.next));clear fP fp kU hp VRH eQ c1 d0 zb;go_wp2_with fail
     refine SE.af.mono ?_;rintro e w3 ⟨rfl,ho⟩;have gu:=lZ.af.ext ho.heap;have gg:=hQ (fa.af.trans ho.st);have c1:=gu.fx;have pN:=hQ gu;clear gu ho SE lZ fa;generalize w2.heap.size=PB at*;obtain⟨sk,hsk⟩:∃sk,i_ key g.items=sk:=⟨_,rfl⟩;have QN:=Gn.af.1;have Ng:=Gn.af.2.1;rw [hsk] at QN Ng hsp ⊢;obtain⟨at',th⟩:=sk
     dsimp only at QN Ng hsp;cases th with
     | false=>
       have Sr:=hQ (get_none look Yq.af (Ng rfl));have h1:=(pN.af.to (M:= [dZ v s,Pr.own hb,F])).emp;rw [← Row.nil 5 1] at h1;have HE:=hQ h1;clear h1 QN Ng hsk Gn;go_wp2;go_ret3
       obtain⟨e1,e2,e3⟩:=Sr.af;rw [e1,e2,e3];exact⟨gg.af,.slice none 0 0,rfl,HE.af⟩
     | true=>
       obtain⟨hat,AB⟩:=QN rfl;have Sr:=hQ (get_some look Yq.af AB);obtain⟨_,_,hpe,L9,_⟩:=HP.af;cases hpe;obtain⟨_,_,Yo,_,rd⟩:=fL L9;cases Yo;obtain⟨b2,off,ak,ck,av,cv,rfl,sd,Bu,hc⟩:=rd at' hat;obtain⟨d0,d1,d2,d3⟩:=hc w3 (pN.af.le (a:=h'));have zb2:=ay _ _ d0;simp only at zb2;rw [← gn hat] at d0 d1 d2 d3 sd Bu
       have h0:=Gn.af.2.2.1 _ (List.mem_of_find?_eq_some AB);generalize d5 g.items at'=x at*;have BL:=Ah v s look HH.af.1 x h' _ ⟨_,_,rfl,sd,Bu⟩ _ _ (pN.af.iQ (A1:=dZ v s) (A2:=Pr.own h'));rw [h0] at BL;have JE:=hQ BL;have aaB:(at':Int)<(g.items.length:Int):=by omega
       clear BL h0 sd Bu hc rd L9 AB QN Ng hsk Gn HP hsp;go_wp2_with fail
       refine JE.af.mono ?_;rintro e w4 ⟨nz,o,rfl,gQ⟩;have gZ:=dS.Wb gQ;have HE:=hQ (gZ.to (M:= [dM o (iI look x.size x.child x.value).1,dZ v s,Pr.own hb,F]));have ij:=hQ (gg.af.trans nz);clear gQ gZ nz JE gg c1 d0 d1 d2 d3 pN;go_wp2;go_ret3
       obtain⟨e1,e2,e3⟩:=Sr.af;rw [e1,e2,e3];exact⟨ij.af,o,rfl,HE.af⟩
 · have Q_:oM key=false:=by simpa using Ni
   have Sr:=hQ (OZ look L Q_);have O2:¬(1≤key.length∧key.length≤24):=of_decide_eq_false Q_;have h1:=(hs0.to (M:= [dZ v s,Pr.own hb,F])).emp;rw [← Row.nil 5 1] at h1;have HE:=hQ h1;clear hF hs0 hl j6 hk uk hT h1 Ni Q_;by_cases hk1:(key.length:Int)<1
   · clear O2
     go_enter Tryz.func14,Tryz.ntmps14
     go_wp2;go_ret3
     obtain⟨e1,e2,e3⟩:=Sr.af;rw [e1,e2,e3];exact⟨eR.af,.slice none 0 0,rfl,HE.af⟩
   · have hk2:24<(key.length:Int):=by omega
     clear O2;go_enter Tryz.func14,Tryz.ntmps14
     go_wp2;go_ret3
     obtain⟨e1,e2,e3⟩:=Sr.af;rw [e1,e2,e3];exact⟨eR.af,.slice none 0 0,rfl,HE.af⟩
end Go.Proofs.YtiegeadmgpanoaaGreatDoor.D2
