/- The program's Check; the conditions stand as hypotheses. -/
import Derived.Test.YtiegeadmgpanoaaGreatDoorWalkChecksM27
import Derived.Test.YtiegeadmgpanoaaGreatDoorWalkChecksM23
import Derived.Test.YtiegeadmgpanoaaGreatDoorWalkChecksM17
import Derived.Test.YtiegeadmgpanoaaGreatDoorWalkChecksM14
import Derived.Test.YtiegeadmgpanoaaGreatDoorRows
import Derived.WalkKit
import Derived.ProofKit
import Derived.LaidMore
import Derived.OpenShut
import Derived.Stop.Joined
import Derived.Test.YtiegeadmgpanoaaGreatDoorWalkChecksM22
import Derived.Test.YtiegeadmgpanoaaGreatDoorWalkChecksM01
set_option maxRecDepth 100000
set_option maxHeartbeats 16000000
namespace Go.Proofs.YtiegeadmgpanoaaGreatDoor.V7
open ChangeShapes WideShapes ChangeAt RowKit Sl Cop F3 G2 J2 Q3 V3 G4 X3 M5 N2 L6 N5 S5 M2 K7 N7 P7
theorem page_any(v:Nat)(s:VaultS)(look:Int→Option PageV)(hl:L6.Looks s look)(okp:PgsOk look):∀lv,PageC v s look lv
 | 0=>page_leaf v s look hl okp
 | lv+1=>page_index v s look hl okp lv (page_any v s look hl okp lv)
abbrev treeV(root height items:Int):Value:= .agg #[.int .i64 root,.int .i64 height,.int .i64 items]
abbrev treeC(root height items:Int):Obj:= .cells #[.int .i64 root,.int .i64 height,.int .i64 items] 35
structure EveryIn(hg:Hp):Prop where
 cells:∀w:World,hg.le w→w.cell? ⟨0,0,none⟩=some (.slice none 0 0)∧w.cell? ⟨0,1,none⟩=some (.slice none 0 0)∧w.cell? ⟨0,2,none⟩=some (.bool true)
theorem EveryIn.range {hg:Hp}:RangeIn hg (.agg #[.slice none 0 0,.slice none 0 0,.bool true]) everyR:=⟨_,_,rfl,RowIn.nil _ _,RowIn.nil _ _⟩
theorem metF_nil:(fun _=>none)=metF []:=by
 funext m
 unfold metF;simp
theorem nil_u8:U8 ([]:List Int):=fun z hz=>by cases hz
theorem every_u8:RU8 everyR:=⟨nil_u8,nil_u8⟩
theorem every_len:RLen 24 everyR:=⟨Nat.zero_le _,Nat.zero_le _⟩
theorem check_any(v:Nat)(s:VaultS)(look:Int→Option PageV)(hl:L6.Looks s look)(okp:PgsOk look)(root height items:Int)(hit:items≤9223372036854775807)(hg:Hp)(GE:EveryIn hg)(F:Pr)(w:World)(hF:OwnL [VaultA v s,Pr.own hg,F] w):
 Calls Tryz.prog 10 #[.pointer (some ⟨v,0,none⟩),treeV root height items] w fun e w'=>Stays w w'∧e= .returned (.int .i64 (checkK look root height items))∧OwnL [VaultA v s,Pr.own hg,F] w':=by
 have hs0:=hF.alloc (treeC root height items);have HST:=hQ ((Stays.refl w).alloc (treeC root height items));have HS0:=hQ hs0;have c1:=hs0.facts;simp only [CellsAt,Nat.reduceAdd,and_true] at c1;obtain⟨e0,e1,e2⟩:=GE.cells w (hF.le (a:=hg));have ez:=World.block_lt_of_cell? _ _ e0;simp only at ez;clear hF hs0;by_cases hz:root=0∧height=0∧items=0
 · obtain⟨rfl,rfl,rfl⟩:=hz
   have HV:=hQ (show checkK look 0 0 0=0 from by unfold checkK;rw [if_pos ⟨rfl,rfl,rfl⟩]);have HE:=hQ (HS0.out.to (M:= [VaultA v s,Pr.own hg,F]));clear HS0;go_enter Tryz.func10,Tryz.ntmps10
   go_wp2;go_ret;rw [HV.out];exact⟨HST.out,rfl,HE.out⟩
 · by_cases hbad:root=0∨height<1∨12<height∨items<1
   · have HV:=hQ (show checkK look root height items=5 from by unfold checkK;rw [if_neg hz,if_pos hbad])
     have HE:=hQ (HS0.out.to (M:= [VaultA v s,Pr.own hg,F]));clear HS0;go_enter Tryz.func10,Tryz.ntmps10
     go_wp2;all_goals (subst_vars;first | (exfalso;omega) | (go_ret;rw [HV.out];exact⟨HST.out,rfl,HE.out⟩))
   · obtain⟨lv,rfl⟩:∃lv:Nat,height=(lv:Int)+1:=⟨(height-1).toNat,by omega⟩
     obtain⟨m,hm⟩:∃m,min ((lv:Int)+1) 2=m:=⟨_,rfl⟩;have hlv2:lv≤11:=by omega
     have hpk:8 ^ (lv+1)≤68719476736:=Nat.le_trans (Nat.pow_le_pow_right (by decide) (by omega:lv+1≤12)) (by decide);have hkk:=pageK_keys (fun n g h=>(fit_of_check (okp.chk n g h)).n) lv root m everyR ([],0)
     have hck:checkK look root ((lv:Int)+1) items=if(pageK look lv root m everyR ([],0)).1≠0 then(pageK look lv root m everyR ([],0)).1 else if(pageK look lv root m everyR ([],0)).2.2≠items then 4 else 0:=by
      unfold checkK;rw [if_neg hz,if_neg hbad,hm,show ((lv:Int)+1-1).toNat=lv by omega]
     have hr0:(root == 0)=false:=by rw [beq_eq_false_iff_ne];omega
     have hb1:¬((lv:Int)+1)<1:=by omega
     have hb2:¬12<(lv:Int)+1:=by omega
     have hb3:¬items<1:=by omega
     have hmk:=fun wx:World=>run_makeMap (P:=Tryz.prog) 99 wx
     have hs1:=OwnL.of1 (map_made (P:=Tryz.prog) (k:=3) HS0.out.sat);rw [metF_nil,show (w.alloc (treeC root ((lv:Int)+1) items)).heap.size=w.heap.size+1 by simp] at hs1;have hs2:=hs1.alloc (ckC v (w.heap.size+1) 0);rw [show ((w.alloc (treeC root ((lv:Int)+1) items)).alloc (.map #[] 0)).heap.size=w.heap.size+1+1 by simp] at hs2
     have PC:=hQ (page_any v s look hl okp lv (w.heap.size+1+1) (w.heap.size+1) [] 0 root m everyR hg _ (Int.le_refl _) (by omega) EveryIn.range every_u8 every_len _ _ (OwnL.in4 (hs2.pull4 (A1:=VaultA v s) (A2:=Pr.pts (w.heap.size+1+1) (ckC v (w.heap.size+1) 0)) (A3:=MapA Tryz.prog 3 (w.heap.size+1) (metF [])) (A4:=Pr.own hg))))
     have HST2:=hQ ((HST.out.alloc (.map #[] 0)).alloc (ckC v (w.heap.size+1) 0));have HCK:=hQ hck;have HKK:=hQ hkk;clear hs1 hs2 HS0 HST hck hkk hl okp hbad hz hpk GE hit;generalize pageK look lv root m everyR ([],0)=RE at*;go_enter Tryz.func10,Tryz.ntmps10
     go_wp2_with (refine wpList_min rfl _ _ rfl rfl ((lv:Int)+1) 2 m hm.symm rfl rfl ?_)
     refine PC.out.mono ?_;rintro e w5 ⟨st5,rfl,hs5⟩;have hs6:=hs5.flat;have HST5:=hQ (HST2.out.trans st5);clear c1 e0 e1 e2 ez;have c1:=hs6.facts;simp only [CellsAt,Nat.reduceAdd,and_true] at c1;have HE:=hQ (hs6.to (M:= [VaultA v s,Pr.own hg,F]));clear hs5 hs6 st5 PC HST2;generalize w.heap.size+1+1=BK at*;generalize w.heap.size=BT at*;by_cases h1:RE.1≠0
     · have HV:=hQ (HCK.out.trans (if_pos h1))
       have hb4:(RE.1 != 0)=true:=bne_iff_ne.2 h1;clear h1 HCK HKK;go_wp2;go_ret;rw [HV.out];exact⟨HST5.out,rfl,HE.out⟩
     · have h0:=HCK.out.trans (if_neg h1)
       have hb4:(RE.1 != 0)=false:=by rw [bne_eq_false_iff_eq];omega
       by_cases h2:RE.2.2≠items
       · have HV:=hQ (h0.trans (if_pos h2))
         have hb5:(RE.2.2 != items)=true:=bne_iff_ne.2 h2;clear h1 h2 h0 HCK HKK;go_wp2;go_quiet (fail)
         go_wp2;go_ret;rw [HV.out];exact⟨HST5.out.drewN _,rfl,HE.out.drewN _⟩
       · have HV:=hQ (h0.trans (if_neg h2))
         have hb5:(RE.2.2 != items)=false:=by rw [bne_eq_false_iff_eq];omega
         clear h1 h2 h0 HCK HKK;go_wp2;go_quiet (fail)
         go_wp2;go_ret;rw [HV.out];exact⟨HST5.out.drewN _,rfl,HE.out.drewN _⟩
end Go.Proofs.YtiegeadmgpanoaaGreatDoor.V7
namespace Go.Cop
structure TreeV where
 root:Int
 height:Int
 items:Int
end Go.Cop
namespace Go.Proofs.YtiegeadmgpanoaaGreatDoor.W7
open ChangeShapes WideShapes ChangeAt RowKit Sl Cop G2 J2 X3 M5
def treeCells(t:TreeV):List Value:= [.int .i64 t.root,.int .i64 t.height,.int .i64 t.items]
abbrev TreesIn(h:Hp)(v:Value)(l:List TreeV):Prop:=RowIn h 3 v l.length (l.flatMap treeCells)
theorem trees_rd {h:Hp}{v:Value}{l:List TreeV}(hr:TreesIn h v l):∃a c,v= .slice a l.length c∧∀i (hl:i<l.length),∃b off,a=some ⟨b,off,none⟩∧∀w,h.le w→w.cell? ⟨b,off+i*3,none⟩=some (.int .i64 l[i].root)∧w.cell? ⟨b,off+i*3+1,none⟩=some (.int .i64 l[i].height)∧w.cell? ⟨b,off+i*3+2,none⟩=some (.int .i64 l[i].items):=by
 obtain⟨_,a,c,e,_,_,hc⟩:=hr;refine⟨a,c,e,fun i hl=> ?_⟩;obtain⟨b,off,ea,hcell⟩:=hc (by omega);refine⟨b,off,ea,fun w hw=> ?_⟩
 have at':∀j,j<3→∀v,(treeCells l[i])[j]? =some v→w.cell? ⟨b,off+i*3+j,none⟩=some v:=by
  intro j hj v hv;have h3:=hcell (i*3+j) (by omega);have h4:=flat_at treeCells 3 (fun _=>rfl) l i j hl hj;rw [hv] at h4;rw [Nat.add_assoc];exact Hp.cell_le hw (h3.trans h4)
 exact⟨at' 0 (by omega) _ rfl,at' 1 (by omega) _ rfl,at' 2 (by omega) _ rfl⟩
end Go.Proofs.YtiegeadmgpanoaaGreatDoor.W7
namespace Go.Cop
theorem path_step {look:Int→Option PageV}{key:List Int}{lv:Nat}{n:Int}{g:PageV}(h:look n=some g):pathK look key (lv+1) n=n :: pathK look key lv (itemAt g.items (routeK g.items key)).child:=by
 show n :: (match look n with | some g=>_ | none=>_)=_
 rw [h]
end Go.Cop
namespace Go.Proofs.YtiegeadmgpanoaaGreatDoor.X7
open ChangeShapes WideShapes ChangeAt RowKit Sl Cop F3 G2 J2 Q3 V3 G4 X3 M5 N2 L6 J7 N5 S5 M2 K7 X5 V7
theorem path_any(v:Nat)(s:VaultS)(look:Int→Option PageV)(hl:L6.Looks s look)(okp:PgsOk look)(hb:Hp)(kv:Value)(key:List Int)(hk:Bytes hb kv key)(uk:U8 key)(root:Int)(lv:Nat)(items:Int)(hlv:lv≤11)(q:RangeV)(L:List ItemV)(hT:TrK look lv root q L)(F:Pr)(w:World)(hF:OwnL [VaultA v s,Pr.own hb,F] w):
 Calls Tryz.prog 22 #[.pointer (some ⟨v,0,none⟩),treeV root ((lv:Int)+1) items,kv] w fun e w'=>Stays w w'∧∃o,e= .returned (.tuple #[o,.int .i64 0])∧OwnL [IntsRow o (pathK look key lv root),VaultA v s,Pr.own hb,F] w':=by
 obtain⟨kak,kck,rfl⟩:=bytes_shape hk;obtain⟨i0,hi0,hz0,hz1,hz2⟩:=info_parts infoInt;have hs0:=hF.alloc (treeC root ((lv:Int)+1) items);have HST:=hQ ((Stays.refl w).alloc (treeC root ((lv:Int)+1) items));have c1:=hs0.facts;simp only [CellsAt,Nat.reduceAdd,and_true] at c1;have HS0:=hQ hs0;have HH:=hQ (And.intro hl (And.intro okp (And.intro hk uk)));have HT:=hQ hT;clear hF hs0 hl okp hk uk hT
 go_enter Tryz.func22,Tryz.ntmps22
 go_wp2;generalize w.heap.size=BT at*;clear c1
 go_loopw [8,9,10] (fun o n left wr=> ∃(k:Nat) (m:Int) (q:RangeV) (L:List ItemV) (pre:List Int),k≤lv∧n= .int .i64 m∧left= .int .i64 ((k:Int)+1)∧pre.length+k=lv∧Hid (pathK look key lv root=pre++pathK look key k m)∧Hid (TrK look k m q L)∧Stays w wr∧OwnL [IntsRow o pre,Pr.pts BT (treeC root ((lv:Int)+1) items),VaultA v s,Pr.own hb,F] wr) (fun _ _ left _=>(intOf left).toNat)
 case atStart=>
  refine⟨lv,root,q,L,[],Nat.le_refl _,rfl,rfl,by simp,hQ rfl,HT,HST.out,?_⟩;have h1:=HS0.out.emp;rw [← Row.nil 3 1] at h1;exact h1.to (M:= [Row 3 1 (.slice none 0 0) 0 [],Pr.pts BT (treeC root ((lv:Int)+1) items),VaultA v s,Pr.own hb,F])
 case round=>
  obtain⟨k,m,q,L,pre,hk2,rfl,rfl,hpl,heq,hT,hst,hs⟩:=hrel;clear HST HS0 HT;have hA:=hs.alloc (.cells #[.int .i64 m] 3);obtain⟨ao,co,rfl⟩:=Row.shape (hs.pull1 (A1:=IntsRow u8 pre));have H1:=hQ (hA.pull1 (A1:=IntsRow (.slice ao pre.length co) pre));have HC:=hQ (new_cells wr [.int .i64 m] 3 _ rfl);have HST:=hQ hst;have hp11:pre.length≤11:=by omega
  have c1:=hs.facts;simp only [CellsAt,Nat.reduceAdd,and_true] at c1;clear hs hA hst;cases k with
  | zero=>
    have HQ:=hQ (heq.out.trans (show pre++pathK look key 0 m=pre++ [m] from rfl));clear heq hT
    go_wp2_with (at_builtin;refine wpList_append_sl rfl _ _ _ rfl 3 i0 (.int .i64 0) 1 8 Tryz.underlying22 hi0 hz0 hz1 hz2 rfl _ _ _ rfl H1.out ⟨wr.heap.size,0,none⟩ 1 1 [.int .i64 m] rfl rfl HC.out (by simp [Value.oneCell']) (by simp only [maxLen];omega) (by omega) ?_;intro v7 w4 hs4 hg4 _;obtain⟨a7,c7,e7,_,_⟩:=Row.read hs4;subst e7;have HS4:=hQ hs4;have HG4:=hQ ((HST.out.alloc _).of_grown hg4);clear hs4 hg4)
    go_ret2;refine⟨HG4.out,_,rfl,?_⟩;rw [HQ.out];have h1:=OwnL.of1 HS4.out;unfold IntsRow;rw [List.map_append,List.length_append];exact h1.to (M:= [Row 3 1 (.slice a7 (pre.length+1) c7) (pre.length+1) (pre.map (Value.int .i64)++ [.int .i64 m]),VaultA v s,Pr.own hb,F])
  | succ j=>
    obtain⟨g,LL,hlm,hkg,hlen,hch⟩:∃(g:PageV) (LL:List (List ItemV)),look m=some g∧g.kind=2∧LL.length=g.items.length∧∀i (hi:i<LL.length),TrK look j (itemAt g.items i).child (meetR q (ownR g.items i)) LL[i]:=by
     have h1:=hT.out;cases h1 with
     | index _ _ _ g LL a1 a2 a3 a4 a5=>exact⟨g,LL,a1,a2,a4,a5⟩
    have hfit:=fit_of_check (HH.out.2.1.chk m g hlm);have hit2:=((form_of_check (HH.out.2.1.chk m g hlm)).index hkg).2.2;obtain⟨hrt,_,_⟩:=route_spec key (l:=g.items) (fun e=>by rw [e] at hit2;simp at hit2);have hn8:=hfit.n;have HQ:=hQ (heq.out.trans (by rw [path_step hlm,List.append_cons]))
    obtain⟨q2,L2,hch2⟩:∃q2 L2,TrK look j (itemAt g.items (routeK g.items key)).child q2 L2:=⟨_,_,hch (routeK g.items key) (by omega)⟩;have HCH:=hQ hch2;have HG:=hQ (And.intro hfit (HH.out.2.1.u8 m g hlm));have VR:=hQ (fun(G:Pr) (wx:World) hG=>vread_any v s look HH.out.1 m G wx hG);rw [hlm] at VR;simp only [reduceCtorEq,if_false,Option.getD_some] at VR;have hj2:(j:Int)+1+1≠1:=by omega
    have HJ:=hQ (And.intro hk2 hpl);clear heq hT hlm hch hch2 hfit hit2 hpl;obtain⟨rt,hrt2⟩:∃rt,routeK g.items key=rt:=⟨_,rfl⟩;rw [hrt2] at HCH HQ hrt;have HRT:=hQ hrt2;clear hrt2
    go_wp2_with (at_builtin;refine wpList_append_sl rfl _ _ _ rfl 3 i0 (.int .i64 0) 1 8 Tryz.underlying22 hi0 hz0 hz1 hz2 rfl _ _ _ rfl H1.out ⟨wr.heap.size,0,none⟩ 1 1 [.int .i64 m] rfl rfl HC.out (by simp [Value.oneCell']) (by simp only [maxLen];omega) (by omega) ?_;intro v7 w4 hs4 hg4 _;obtain⟨a7,c7,e7,_,_⟩:=Row.read hs4;subst e7;have HS4:=hQ (OwnL.of1 hs4);have HG4:=hQ ((HST.out.alloc _).of_grown hg4);clear hs4 hg4 c1)
    have hs4:=HS4.out;have V1:=hQ (VR.out _ _ (hs4.pull1 (A1:=VaultA v s)));refine V1.out.mono ?_;rintro e w5 ⟨st5,pv,rfl,h',hp,hs5⟩;obtain⟨tai,tad,tci,tcd,rfl⟩:=page_sh hp;have hs6:=(OwnL.of2 hs5).alloc (pageC g.kind g.level (.slice tai g.items.length tci) (.slice tad g.data.length tcd) g.next);have HS6:=hQ hs6;have HP:=hQ hp
    have HST5:=hQ ((HG4.out.trans st5).alloc (pageC g.kind g.level (.slice tai g.items.length tci) (.slice tad g.data.length tcd) g.next));clear hs4 hs5 hs6 hp st5 V1 VR HS4 HG4 H1 HC HST;dsimp only [pageV];rw [hkg];rw [hkg] at HST5 HS6;go_wp2_with fail
    have hs6:=HS6.out;have st5:=HST5.out;clear HS6 HST5;generalize w5.alloc (pageC 2 g.level (.slice tai g.items.length tci) (.slice tad g.data.length tcd) g.next)=w6 at*;generalize w5.heap.size=PB at*;have c1:=hs6.facts;simp only [CellsAt,Nat.reduceAdd,and_true] at c1;have hp:=HP.out;rw [hkg] at hp
    have RT:=hQ (route_any h' hb _ _ g hp HG.out.1 HG.out.2 key HH.out.2.2.1 HH.out.2.2.2 w6.drew (hs6.drew.le (a:=h')) (hs6.drew.le (a:=hb)));rw [HRT.out] at RT;have HS6:=hQ hs6.drew;have HST6:=hQ st5.drew;clear hs6 st5 hp;refine wS 48 [0,1,2,3] [(4,[5,6,7,8],[0,1])] ?_;refine wpQ_all _ rfl rfl ?_;simp only [pick,pQ];iterate 4 (go_big_quiet_step (fail))
    refine wpQuiet_nil ?_;refine wpRest_act rfl ?_;go_wp2_with fail
    refine RT.out.mono ?_;rintro e w7 ⟨rfl,ho⟩;have hs7:=HS6.out.ext ho.heap;clear c1;have c1:=hs7.facts;simp only [CellsAt,Nat.reduceAdd,and_true] at c1;obtain⟨_,_,hpe,hpi,_⟩:=HP.out;cases hpe;obtain⟨_,_,epi,_,rd⟩:=items_rd hpi;cases epi;obtain⟨b,off,ak,ck,av,cv,rfl,_,_,hc⟩:=rd rt hrt;obtain⟨_,_,d2,_⟩:=hc w7 (hs7.le (a:=h'));have zb:=World.block_lt_of_cell? _ _ d2;rw [← itemAt_get hrt] at d2
    simp only at zb;have hrt3:(rt:Int)<(g.items.length:Int):=by omega
    have HS7:=hQ hs7;have HST7:=hQ (HST6.out.trans ho.st);clear hs7 ho hc rd hpi RT HS6 HST6 HP;go_wp2;refine onN_mk ?_;refine wpQ_all _ rfl rfl ?_;simp only [pick,pQ];iterate 4 (go_big_quiet_step (fail))
    refine wpQuiet_nil ⟨?_,?_⟩
    · exact cQ
    refine wpRest_nil ?_;go_wp2;go_roundw
    case rel=>
     rw [itemAt_get hrt] at HQ HCH;refine⟨j,_,_,_,pre++ [m],by have:=HJ.out;omega,rfl,congrArg (Value.int .i64) (by omega),by have:=HJ.out;rw [List.length_append];simp;omega,HQ,HCH,HST7.out,?_⟩;have h1:=HS7.out.to (M:= [Row 3 1 (.slice a7 (pre.length+1) c7) (pre.length+1) (pre.map (Value.int .i64)++ [.int .i64 m]),Pr.pts BT (treeC root ((lv:Int)+1) items),VaultA v s,Pr.own hb,F]);unfold IntsRow
     rw [List.map_append,List.length_append];exact h1
    case measure=>simp [intOf];omega
end Go.Proofs.YtiegeadmgpanoaaGreatDoor.X7
namespace Go.Proofs.YtiegeadmgpanoaaGreatDoor.Y7
open ChangeShapes WideShapes ChangeAt RowKit Sl Cop Deep G2 G5 X3 J4 Q4 S4 L5 S5 V6 V7 W7
theorem own:ownKnob Tryz.prog.godebug=none:=by kernel_rfl
theorem cells_image:Tryz.prog.cellsOf 26=4:=by kernel_rfl
theorem cells_tree:Tryz.prog.cellsOf 35=3:=by kernel_rfl
theorem cells_range:Tryz.prog.cellsOf 64=3:=by kernel_rfl
theorem gEvery:Tryz.prog.globalNamed "coppice/walk.everything" =some 0:=by kernel_rfl
theorem tEvery:(Tryz.prog.globals[0]?).map (·.type)=some 64:=by kernel_rfl
abbrev laidE:List (String × DataW Unit):= [("coppice/walk.everything",Rows.laid_coppice_walk_everything)]
theorem door_met(os:Os)(args:Array Value):laidMetH Tryz.prog laidE ((World.doorLaid Tryz.prog 400 os).forCall (fun _ _=>0) ⟨#[],args,[]⟩).memory:=
 laidMetH_of_parts3 (fuel:=8) (laidMet_of_run' 8 (by kernel_rfl) (by kernel_rfl)) (by kernel_rfl) (by kernel_rfl)
section
variable {H:Type}{enc:TypeId × Value→H}
theorem tree_of {W:World}{base n:Nat}{cs:List Value}{x:DataW H × List MemPlace}(h:DataW.trod enc Tryz.prog W base (fun _=>true) true n 35 cs=some x):
 ∃t:TreeV,cs=treeCells t∧t.items≤9223372036854775807:=by
 obtain⟨xs,m,rfl,rfl,hl,hlen,hf⟩:=DataW.trod_struct Tryz.underlying35 h;rw [cells_tree] at hl;match cs,hl with
 | [c0,c1,c2],_=>
   match xs,hlen with
   | [x0,x1,x2],_=>
     have f0:=hf 0 _ rfl;have f1:=hf 1 _ rfl;have f2:=hf 2 _ rfl;simp only [List.getElem?_cons_zero,List.getElem?_cons_succ] at f0 f1 f2;obtain⟨a,rfl,_⟩:=int_of f0;obtain⟨b,rfl,_⟩:=int_of f1;obtain⟨c,rfl,_,hc⟩:=int_of f2;exact⟨⟨a,b,c⟩,rfl,hc⟩
instance:Inhabited TreeV:=⟨⟨0,0,0⟩⟩
theorem trees_of {W:World}{base n:Nat}{v:Value}{x:DataW H × List MemPlace}(h:DataW.trod enc Tryz.prog W base (fun _=>true) true n 24 [v]=some x):
 ∃l:List TreeV,TreesIn (heapOf W) v l∧∀t∈l,t.items≤9223372036854775807:=by
 obtain⟨len,n',C,D,Pl,hC,hr,_⟩:=rows_of Tryz.underlying24 cells_tree (by omega) h;obtain⟨Y,hY⟩:=choose_lt (α:=TreeV) (n:=len) (p:=fun i y=>C i=treeCells y∧y.items≤9223372036854775807) (fun i hi=>tree_of (hC i hi).2);refine⟨(List.range len).map Y,?_,fun t ht=> ?_⟩
 · have e1:(List.range len).flatMap C=((List.range len).map Y).flatMap treeCells:=by
    rw [List.flatMap_map];exact flatMap_congr_range fun i hi=>(hY i hi).1
   unfold TreesIn;rw [← e1];simpa using hr
 · obtain⟨i,hi,rfl⟩:=List.mem_map.1 ht
   exact(hY i (List.mem_range.1 hi)).2
theorem open_image {W:World}{base:Nat}{v:Value}{d:DataW H}{p:List MemPlace}(hval:Value.okWide Tryz.prog W .any base 26 v)(h:DataW.Trod enc Tryz.prog W 0 (fun _=>true) true 26 v d p):
 ∃refs vc vl vt cs l ts,v=imgV refs vc vl vt∧Ints (heapOf W) vc cs∧NumsIn (heapOf W) vl l∧TreesIn (heapOf W) vt ts∧(∀y∈l,PageFits y.page)∧∀t∈ts,t.items≤9223372036854775807:=by
 obtain⟨a,rfl,_⟩:=okWide_struct Tryz.underlying26 hval;obtain⟨n,hn⟩:=h;obtain⟨xs,m,rfl,_,hl,hlen,hf⟩:=DataW.trod_struct Tryz.underlying26 hn;rw [cells_image] at hl;obtain⟨cs⟩:=a;simp only [Value.cells] at hl hf;match cs,hl with
 | [c0,c1,c2,c3],_=>
   match xs,hlen with
   | [x0,x1,x2,x3],_=>
     have f0:=hf 0 _ rfl;have f1:=hf 1 _ rfl;have f2:=hf 2 _ rfl;have f3:=hf 3 _ rfl;obtain⟨r,rfl,_⟩:=int_of f0;obtain⟨cs,h1,_,_⟩:=ints_sz f1;obtain⟨l,h2,h3,_⟩:=nums_of f2;obtain⟨ts,h4,h5⟩:=trees_of f3;exact⟨r,c1,c2,c3,cs,l,ts,rfl,h1,h2,h4,h3,h5⟩
end
theorem nums_bound {h:Hp}{v:Value}{l:List NumV}(hl:NumsIn h v l):l.length≤9223372036854775807:=by
 obtain⟨_,_,⟨_,_,_,_,h1,h2,_⟩,_⟩:=hl;simp only [maxLen] at h2;omega
theorem trees_bound {h:Hp}{v:Value}{l:List TreeV}(hl:TreesIn h v l):l.length≤9223372036854775807:=by
 obtain⟨_,_,_,_,h1,h2,_⟩:=hl;simp only [maxLen] at h2;omega
theorem every_of {W:World}(h:laidMetH Tryz.prog laidE W):EveryIn (heapOf W):=by
 rw [MakeChecks.laidMetH_plain _ _ _ (by kernel_rfl)] at h;obtain⟨ps,⟨g0,t0,cs0,f0,p0,q0,hg0,ht0,hv0,hd0,_,_⟩,_,_⟩:=h;obtain rfl:=Option.some.inj (gEvery.symm.trans hg0);obtain rfl:=Option.some.inj (tEvery.symm.trans ht0);obtain⟨xs,m,_,hx,hl,hlen,hf⟩:=DataW.trod_struct Tryz.underlying64 hd0;rw [cells_range] at hl;obtain⟨cs⟩:=cs0;simp only at hl hf hv0;match cs,hl with
 | [c0,c1,c2],_=>
   match xs,hlen with
   | [x0,x1,x2],_=>
     simp only [Rows.laid_coppice_walk_everything,Prod.mk.injEq,DataW.agg.injEq,List.map_cons,List.map_nil,List.cons.injEq,and_true] at hx;obtain⟨⟨e0,e1,e2⟩,_⟩:=hx;have f0:=hf 0 _ rfl;have f1:=hf 1 _ rfl;have f2:=hf 2 _ rfl;simp only [List.getElem?_cons_zero,List.getElem?_cons_succ] at f0 f1 f2
     have k0:c0= .slice none 0 0:=by
      rcases open_slice (cs:= [c0]) Tryz.underlying42 f0 with⟨e,_⟩ | ⟨_,_,_,_,_,_,_,_,_,_,_,_,e,_⟩
      · simpa using e
      · rw [e] at e0;cases e0
     have k1:c1= .slice none 0 0:=by
      rcases open_slice (cs:= [c1]) Tryz.underlying42 f1 with⟨e,_⟩ | ⟨_,_,_,_,_,_,_,_,_,_,_,_,e,_⟩
      · simpa using e
      · rw [e] at e1;cases e1
     have k2:c2= .bool true:=by
      obtain⟨b,e,e3⟩:=DataW.trod_bool (cs:= [c2]) Tryz.underlying4 f2;rw [e3] at e2;cases e2;simpa using e
     subst k0 k1 k2;have hv:=fun j=>World.var?_cell hg0 hv0 j
     have up:∀(w:World),(heapOf W).le w→∀i v,W.cell? ⟨0,i,none⟩=some v→w.cell? ⟨0,i,none⟩=some v:=fun w hw i v e=>Hp.cell_le hw (show (heapOf W).cell 0 i=some v from e)
     exact⟨fun w hw=>⟨up w hw 0 _ (hv 0),up w hw 1 _ (hv 1),up w hw 2 _ (hv 2)⟩⟩
end Go.Proofs.YtiegeadmgpanoaaGreatDoor.Y7
namespace Go.Cop
def StandT(look:Int→Option PageV)(root height items:Int)(L:List ItemV):Prop:=(root=0∧height=0∧items=0∧L= [])∨(root≠0∧items=(L.length:Int)∧∃lv:Nat,height=(lv:Int)+1∧lv≤11∧TrK look lv root everyR L)
def wayK(look:Int→Option PageV)(root height:Int)(key:List Int):List Int:=if height=0 then [] else pathK look key (height-1).toNat root
def valK(look:Int→Option PageV)(x:ItemV):List Int:=(valueL look x.size x.child x.value).1
def getV(look:Int→Option PageV)(L:List ItemV)(key:List Int):List Int:=if keyR key then(match findK key L with | some x=>valK look x | none=> []) else []
def getB(L:List ItemV)(key:List Int):Bool:=keyR key && (findK key L).isSome
def getE(key:List Int):Int:=if keyR key then 0 else 7
theorem get_bad(look:Int→Option PageV)(L:List ItemV){key:List Int}(h:keyR key=false):getV look L key= []∧getB L key=false∧getE key=7:=by
 unfold getV getB getE;rw [h];exact⟨rfl,rfl,rfl⟩
theorem get_none(look:Int→Option PageV){L:List ItemV}{key:List Int}(h:keyR key=true)(hf:findK key L=none):getV look L key= []∧getB L key=false∧getE key=0:=by
 unfold getV getB getE;rw [h,hf];exact⟨rfl,rfl,rfl⟩
theorem get_some(look:Int→Option PageV){L:List ItemV}{key:List Int}{x:ItemV}(h:keyR key=true)(hf:findK key L=some x):getV look L key=valK look x∧getB L key=true∧getE key=0:=by
 unfold getV getB getE;rw [h,hf];exact⟨rfl,rfl,rfl⟩
end Go.Cop
namespace Go.Proofs.YtiegeadmgpanoaaGreatDoor.Z7
open ChangeShapes WideShapes ChangeAt RowKit Sl Cop F3 G2 J2 Q3 V3 G4 X3 M5 N2 L6 S6 J7 N5 S5 M2 K7 X5 Y5 V7 X7
theorem way_any(v:Nat)(s:VaultS)(look:Int→Option PageV)(hl:L6.Looks s look)(okp:PgsOk look)(hb:Hp)(kv:Value)(key:List Int)(hk:Bytes hb kv key)(uk:U8 key)(root height items:Int)(L:List ItemV)(hT:StandT look root height items L)(F:Pr)(w:World)(hF:OwnL [VaultA v s,Pr.own hb,F] w):
 Calls Tryz.prog 22 #[.pointer (some ⟨v,0,none⟩),treeV root height items,kv] w fun e w'=>Stays w w'∧∃o,e= .returned (.tuple #[o,.int .i64 0])∧OwnL [IntsRow o (wayK look root height key),VaultA v s,Pr.own hb,F] w':=by
 rcases hT with⟨rfl,rfl,rfl,rfl⟩ | ⟨h0,_,lv,rfl,hlv,hT⟩
 · have HST:=hQ ((Stays.refl w).alloc (treeC 0 0 0))
   have HS0:=hQ (hF.alloc (treeC 0 0 0)).emp;clear hF;go_enter Tryz.func22,Tryz.ntmps22
   go_wp2;go_loopw [8,9,10] (fun o n left wr=>o= .slice none 0 0∧n= .int .i64 0∧left= .int .i64 0∧Stays w wr∧OwnL [Pr.emp,VaultA v s,Pr.own hb,F] wr) (fun _ _ _ _=>0)
   case atStart=>exact⟨rfl,rfl,rfl,HST.out,HS0.out.to⟩
   case round=>
    obtain⟨rfl,rfl,rfl,hst,hs⟩:=hrel;have HST2:=hQ hst;have HS2:=hQ hs;clear hst hs HST HS0;go_wp2;go_ret2;refine⟨HST2.out,.slice none 0 0,rfl,?_⟩;have h1:=HS2.out;rw [← Row.nil 3 1] at h1;exact h1
 · have e:wayK look root ((lv:Int)+1) key=pathK look key lv root:=by
    unfold wayK;rw [if_neg (by omega),show ((lv:Int)+1-1).toNat=lv by omega]
   rw [e];exact path_any v s look hl okp hb kv key hk uk root lv items hlv everyR L hT F w hF
theorem get_any(v:Nat)(s:VaultS)(look:Int→Option PageV)(hl:L6.Looks s look)(okp:PgsOk look)(hb:Hp)(kv:Value)(key:List Int)(hk:Bytes hb kv key)(uk:U8 key)(nk:key.length≤140737488355328)(root height items:Int)(L:List ItemV)(hT:StandT look root height items L)(F:Pr)(w:World)(hF:OwnL [VaultA v s,Pr.own hb,F] w):
 Calls Tryz.prog 14 #[.pointer (some ⟨v,0,none⟩),treeV root height items,kv] w fun e w'=>Stays w w'∧∃o,e= .returned (.tuple #[o,.bool (getB L key),.int .i64 (getE key)])∧OwnL [BytesRow o (getV look L key),VaultA v s,Pr.own hb,F] w':=by
 obtain⟨kak,kck,rfl⟩:=bytes_shape hk;have hs0:=hF.alloc (treeC root height items);have HST:=hQ ((Stays.refl w).alloc (treeC root height items));have c1:=hs0.facts;simp only [CellsAt,Nat.reduceAdd,and_true] at c1;have hk63:(key.length:Int)≤140737488355328:=by omega
 by_cases hkr:keyR key=true
 · have HKR:=hQ hkr
   have hkr2:1≤key.length∧key.length≤24:=of_decide_eq_true hkr;have hk1:¬(key.length:Int)<1:=by omega
   have hk2:¬24<(key.length:Int):=by omega
   have WA:=hQ (way_any v s look hl okp hb _ key hk uk root height items L hT _ _ (OwnL.in2 (hs0.pull2 (A1:=VaultA v s) (A2:=Pr.own hb))));have HH:=hQ (And.intro hl (And.intro okp (And.intro hk uk)));have HT:=hQ hT;clear hF hs0 hl okp hk uk hT hkr hkr2;go_enter Tryz.func14,Tryz.ntmps14
   go_wp2_with fail
   refine WA.out.mono ?_;rintro e w1 ⟨st1,o,rfl,hs1⟩;have hs2:=hs1.flat;obtain⟨ao,co,rfl⟩:=Row.shape (hs2.pull1 (A1:=IntsRow o (wayK look root height key)));have HST1:=hQ (HST.out.trans st1);clear c1;have c1:=hs2.facts;simp only [CellsAt,Nat.reduceAdd,and_true] at c1;rcases HT.out with⟨_,rfl,_,rfl⟩ | ⟨_,_,lv,rfl,hlv,hTr⟩
   · have hw0:(wayK look root 0 key)= []:=by unfold wayK;rw [if_pos rfl]
     rw [hw0];have h1:=(hs2.to (M:= [VaultA v s,Pr.own hb,F])).emp;rw [← Row.nil 5 1] at h1;have HE:=hQ h1;clear hs1 hs2 st1 hw0 h1;go_wp2;go_ret3
     obtain⟨e1,e2,e3⟩:=get_none look (L:= []) HKR.out (show findK key []=none from rfl);rw [e1,e2,e3];exact⟨HST1.out,.slice none 0 0,rfl,HE.out⟩
   · have hw1:wayK look root ((lv:Int)+1) key=pathK look key lv root:=by
      unfold wayK;rw [if_neg (by omega),show ((lv:Int)+1-1).toNat=lv by omega]
     rw [hw1] at hs2 ⊢;obtain⟨⟨p1,p2,p3⟩,g,hlg,p4,p5,p6⟩:=path_tr HH.out.2.1 key hTr;clear p3 p4 p5 p6;obtain⟨f1,f2⟩:=find_tr HH.out.2.1 key hTr hlg;obtain⟨P,hP⟩:∃P,pathK look key lv root=P:=⟨_,rfl⟩;rw [hP] at hs2 p1 p2 ⊢;obtain⟨b,u,rfl,hu,d0,_,zb⟩:=Row.at1 (hs2.pull1 (A1:=IntsRow (.slice ao P.length co) P)) lv (by omega);rw [List.getElem?_map,p2] at hu
     obtain rfl:u= .int .i64 (leafK look key lv root):=(Option.some.inj hu).symm;generalize leafK look key lv root=nl at*;have hval:∀x∈L,(valueL look x.size x.child x.value).2=0:=fun x hx=>(tr_has hTr x hx).2
     have hfit:=fit_of_check (HH.out.2.1.chk _ g hlg);have hu8:=HH.out.2.1.u8 _ g hlg;have hsp:=(search_spec key (page_sorted (HH.out.2.1.chk _ g hlg))).1;have VR:=vread_any v s look HH.out.1 nl _ _ (hs2.pull1 (A1:=VaultA v s));rw [hlg] at VR;simp only [reduceCtorEq,if_false,Option.getD_some] at VR;have VRH:=hQ VR;have HF12:=hQ (And.intro f1 (And.intro f2 (And.intro hval (And.intro hfit hu8))))
     have hpl:P.length=lv+1:=p1;rw [hpl];have hn8:=hfit.n;clear hs1 hs2 st1 VR f1 f2 hval hfit hu8 hTr hw1 p1 p2 hP hu hpl;go_wp2_with fail
     refine VRH.out.mono ?_;rintro e w2 ⟨st2,pv,rfl,h',hp,hs3⟩;obtain⟨tai,tad,tci,tcd,rfl⟩:=page_sh hp;dsimp only [pageV];have hs4:=(OwnL.of2 hs3).alloc (pageC g.kind g.level (.slice tai g.items.length tci) (.slice tad g.data.length tcd) g.next);have SE:=hQ (search_any h' hb _ _ g hp HF12.out.2.2.2.1 HF12.out.2.2.2.2 key HH.out.2.2.1 HH.out.2.2.2 _ (hs4.le (a:=h')) (hs4.le (a:=hb)))
     have HS4:=hQ hs4;have HP:=hQ hp;have HST2:=hQ ((HST1.out.trans st2).alloc (pageC g.kind g.level (.slice tai g.items.length tci) (.slice tad g.data.length tcd) g.next));clear hs3 hs4 st2 hp VRH HST1 c1 d0 zb;go_wp2_with fail
     refine SE.out.mono ?_;rintro e w3 ⟨rfl,ho⟩;have hs5:=HS4.out.ext ho.heap;have HST3:=hQ (HST2.out.trans ho.st);have c1:=hs5.facts;simp only [CellsAt,Nat.reduceAdd,and_true] at c1;have HS5:=hQ hs5;clear hs5 ho SE HS4 HST2;generalize w2.heap.size=PB at*;obtain⟨sk,hsk⟩:∃sk,searchK key g.items=sk:=⟨_,rfl⟩;have hf1:=HF12.out.1;have hf2:=HF12.out.2.1;rw [hsk] at hf1 hf2 hsp ⊢;obtain⟨at',th⟩:=sk
     dsimp only at hf1 hf2 hsp;cases th with
     | false=>
       have HFD:=hQ (get_none look HKR.out (hf2 rfl));have h1:=(HS5.out.to (M:= [VaultA v s,Pr.own hb,F])).emp;rw [← Row.nil 5 1] at h1;have HE:=hQ h1;clear h1 hf1 hf2 hsk HF12;go_wp2;go_ret3
       obtain⟨e1,e2,e3⟩:=HFD.out;rw [e1,e2,e3];exact⟨HST3.out,.slice none 0 0,rfl,HE.out⟩
     | true=>
       obtain⟨hat,hfd⟩:=hf1 rfl;have HFD:=hQ (get_some look HKR.out hfd);obtain⟨_,_,hpe,hpi,_⟩:=HP.out;cases hpe;obtain⟨_,_,epi,_,rd⟩:=items_rd hpi;cases epi;obtain⟨b2,off,ak,ck,av,cv,rfl,hbk2,hbv2,hc⟩:=rd at' hat;obtain⟨d0,d1,d2,d3⟩:=hc w3 (HS5.out.le (a:=h'));have zb2:=World.block_lt_of_cell? _ _ d0;simp only at zb2;rw [← itemAt_get hat] at d0 d1 d2 d3 hbk2 hbv2
       have h0:=HF12.out.2.2.1 _ (List.mem_of_find?_eq_some hfd);generalize itemAt g.items at'=x at*;have BL:=bload_any v s look HH.out.1 x h' _ ⟨_,_,rfl,hbk2,hbv2⟩ _ _ (HS5.out.pull2 (A1:=VaultA v s) (A2:=Pr.own h'));rw [h0] at BL;have HBL:=hQ BL;have hat3:(at':Int)<(g.items.length:Int):=by omega
       clear BL h0 hbk2 hbv2 hc rd hpi hfd hf1 hf2 hsk HF12 HP hsp;go_wp2_with fail
       refine HBL.out.mono ?_;rintro e w4 ⟨st4,o,rfl,hs6⟩;have hs7:=OwnL.of3 hs6;have HE:=hQ (hs7.to (M:= [BytesRow o (valueL look x.size x.child x.value).1,VaultA v s,Pr.own hb,F]));have HST4:=hQ (HST3.out.trans st4);clear hs6 hs7 st4 HBL HST3 c1 d0 d1 d2 d3 HS5;go_wp2;go_ret3
       obtain⟨e1,e2,e3⟩:=HFD.out;rw [e1,e2,e3];exact⟨HST4.out,o,rfl,HE.out⟩
 · have hkr1:keyR key=false:=by simpa using hkr
   have HFD:=hQ (get_bad look L hkr1);have hkr2:¬(1≤key.length∧key.length≤24):=of_decide_eq_false hkr1;have h1:=(hs0.to (M:= [VaultA v s,Pr.own hb,F])).emp;rw [← Row.nil 5 1] at h1;have HE:=hQ h1;clear hF hs0 hl okp hk uk hT h1 hkr hkr1;by_cases hk1:(key.length:Int)<1
   · clear hkr2
     go_enter Tryz.func14,Tryz.ntmps14
     go_wp2;go_ret3
     obtain⟨e1,e2,e3⟩:=HFD.out;rw [e1,e2,e3];exact⟨HST.out,.slice none 0 0,rfl,HE.out⟩
   · have hk2:24<(key.length:Int):=by omega
     clear hkr2;go_enter Tryz.func14,Tryz.ntmps14
     go_wp2;go_ret3
     obtain⟨e1,e2,e3⟩:=HFD.out;rw [e1,e2,e3];exact⟨HST.out,.slice none 0 0,rfl,HE.out⟩
end Go.Proofs.YtiegeadmgpanoaaGreatDoor.Z7
