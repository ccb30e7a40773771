/- The document's checker looks at a page and at all beneath it; the conditions stand as hypotheses. -/
import Derived.Test.YtiegeadmgpanoaaGreatDoorWalkChecksM27
import Derived.Test.YtiegeadmgpanoaaGreatDoorWalkChecksM26
import Derived.Test.YtiegeadmgpanoaaGreatDoorWalkChecksM01
set_option maxRecDepth 100000
set_option maxHeartbeats 16000000
namespace Go.Proofs.YtiegeadmgpanoaaGreatDoor.U7
open ChangeShapes WideShapes ChangeAt RowKit Sl Cop F3 G2 J2 Q3 V3 X3 M5 G6 J6 L6 T6 N2 N5 S5 B6 K7 N7 P7 M7 Q7 T7
def leastR(root:Bool)(lv:Nat):Int:=if root then(if lv=0 then 1 else 2) else 4
def RefR(r:Nat)(s:PoolS)(gs:List PageV)(hush:RTail)(x:RX):Pr:=
 (Pr.pts r (refC s.refs x.cv x.lv x.pv hush)).star ((IntsRow x.cv s.counts).star ((BoolsRow x.lv s.last).star (PgRow x.pv x.xs gs)))
theorem refAt_eq(r:Nat)(s:PoolS)(gs:List PageV)(hush:RTail)(x:RX):RefAt r s gs hush x=(RefR r s gs hush x).star (Pr.own x.h):=by
 unfold RefAt RefR;ac_rfl
theorem ref_join {c r b cap:Nat}{s:PoolS}{gs:List PageV}{hush:RTail}{x:RX}{M:List Int}{keys:Int}{h hu:Hp}{T:List Pr}{w:World}(HU:Pr.own hu=(Pr.own x.h).star (Pr.own h))(o:OwnL (ckRL c r b cap s gs hush x M keys (Pr.own h :: T)) w):
 OwnL (Pr.own hu :: RefR r s gs hush x :: Pr.pts c (ckR r b cap s.counts.length keys) :: MetA b cap s.counts.length M :: T) w:=
 ⟨o.sat.perm (by simp only [starL];rw [HU,refAt_eq];ac_rfl)⟩
theorem ref_part {c r b cap:Nat}{s:PoolS}{gs:List PageV}{hush:RTail}{x:RX}{M:List Int}{keys:Int}{h hu:Hp}{T:List Pr}{w:World}(HU:Pr.own hu=(Pr.own x.h).star (Pr.own h))(o:OwnL (Pr.own hu :: RefR r s gs hush x :: Pr.pts c (ckR r b cap s.counts.length keys) :: MetA b cap s.counts.length M :: T) w):
 OwnL (ckRL c r b cap s gs hush x M keys (Pr.own h :: T)) w:=
 ⟨o.sat.perm (by simp only [starL];rw [HU,refAt_eq];ac_rfl)⟩
theorem ref_un {c r b cap:Nat}{s:PoolS}{gs:List PageV}{hush:RTail}{x:RX}{M:List Int}{keys:Int}{h:Hp}{T:List Pr}{w:World}(o:OwnL (ckRL c r b cap s gs hush x M keys (Pr.own h :: T)) w):x.h.dis h:=by
 have h1:Sat ((Pr.own x.h).star ((Pr.own h).star ((RefR r s gs hush x).star ((Pr.pts c (ckR r b cap s.counts.length keys)).star ((MetA b cap s.counts.length M).star (starL T)))))) w:=o.sat.perm (by simp only [starL];rw [refAt_eq];ac_rfl);exact(Sat.own_join h1).1
def RPageC(r:Nat)(s:PoolS)(gs:List PageV)(hush:RTail)(x:RX)(look:Int→Option PageV)(lv:Nat):Prop:= ∀(c b cap:Nat) (M:List Int) (keys n:Int) (root:Bool) (rg:RangeV) (h:Hp) (rv:Value),0≤keys→keys+((8 ^ (lv+1):Nat):Int)≤4611686018427387904→RangeIn h rv rg→RLen 24 rg→∀(F:Pr) (w:World),OwnL (ckRL c r b cap s gs hush x M keys [Pr.own h,F]) w→
 Calls Tryz.prog 42 #[.pointer (some ⟨c,0,none⟩),.int .i64 n,.int .i64 lv,rv,.bool root] w fun e w'=>Stays w w'∧e= .returned (.int .i64 (pageK look lv n (leastR root lv) rg (M,keys)).1)∧OwnL (ckRL c r b cap s gs hush x (pageK look lv n (leastR root lv) rg (M,keys)).2.1 (pageK look lv n (leastR root lv) rg (M,keys)).2.2 [Pr.own h,F]) w'
theorem rpage_leaf(r:Nat)(s:PoolS)(gs:List PageV)(hush:RTail)(x:RX)(ok:ROk s gs x)(look:Int→Option PageV)(hl:RLooks s gs look)(okp:PgsOk look):RPageC r s gs hush x look 0:=by
 intro c b cap M keys n root rg h rv hk0 hk1 hr nr F w hF;obtain⟨lo,hi,rfl,hlo,hhi⟩:=id hr;obtain⟨rl,dl,rfl,_⟩:=bytes_rd hlo;obtain⟨rh,dh,rfl,_⟩:=bytes_rd hhi;obtain⟨hu,hhu⟩:∃hu,x.h.un h=hu:=⟨_,rfl⟩;have hd:=ref_un hF;have HU:=hQ (show Pr.own hu=(Pr.own x.h).star (Pr.own h) from hhu ▸ own_un hd)
 have HSB:=hQ (And.intro (show h.sub hu from hhu ▸ Hp.sub_un_right hd) (show x.h.sub hu from hhu ▸ Hp.sub_un_left x.h h));have hs0:=hF.alloc (rangeC (.slice rl rg.lo.length dl) (.slice rh rg.hi.length dh) rg.op)
 have EN:=hQ (renter_any c r b cap s gs hush x ok look hl M keys n _ _ (OwnL.in3 (hs0.pull3 (A1:=RefAt r s gs hush x) (A2:=Pr.pts c (ckR r b cap s.counts.length keys)) (A3:=MetA b cap s.counts.length M))));have HST:=hQ ((Stays.refl w).alloc (rangeC (.slice rl rg.lo.length dl) (.slice rh rg.hi.length dh) rg.op));have HR:=hQ (And.intro hr nr);have HL:=hQ (And.intro ok (And.intro hl okp))
 have HK:=hQ (And.intro hk0 hk1);have c1:=hs0.facts;simp only [CellsAt,Nat.reduceAdd,and_true] at c1;clear hF hs0 hlo hhi hr nr hl okp hk0 hk1 ok hd hhu;rw [show ((0:Nat):Int)=0 from rfl];go_enter Tryz.func42,Tryz.ntmps42
 go_wp2_with fail
 refine EN.out.mono ?_;rintro e w1 ⟨st1,(⟨hen,rfl,hs1⟩ | ⟨g,hen,rfl,hs1⟩)⟩
 · have HV:=hQ (show pageK look 0 n (leastR root 0) rg (M,keys)=(15,(M,keys)) from by
    conv=>lhs;unfold pageK
    simp only [hen])
   have hs2:=hs1.flat;have HST1:=hQ (HST.out.trans st1);have HE:=hQ (hs2.to (M:=ckRL c r b cap s gs hush x M keys [Pr.own h,F]));clear c1;have c1:=hs2.facts;simp only [CellsAt,Nat.reduceAdd,and_true] at c1;clear hs1 hs2 st1 EN hen HST;go_wp2;go_ret;rw [HV.out];exact⟨HST1.out,rfl,HE.out⟩
 · have hlk:look n=some g:=by
    unfold enterK at hen;split at hen
    · cases hen
    · exact hen
   have hcp:=HL.out.2.2.chk n g hlk;have hfm:=form_of_check hcp;have hfit:=fit_of_check hcp;have hs2:=hs1.flat;obtain⟨j,cp,bp,tai,tad,tci,tcd,rfl,hj,q3,y1,y2,hpg,d0,d1,d2,d3,d4⟩:=page_cells HL.out.1 HL.out.2.1 hlk (hs2.pull1 (A1:=RefAt r s gs hush x));have hj2:(j:Int)<(s.counts.length:Int):=by omega
   have hn2:=HL.out.1.n2;have hj3:(j:Int)≤65536:=by omega
   have hs3:=hs2.alloc (pageC g.kind g.level (.slice tai g.items.length tci) (.slice tad g.data.length tcd) g.next);have HST1:=hQ ((HST.out.trans st1).alloc (pageC g.kind g.level (.slice tai g.items.length tci) (.slice tad g.data.length tcd) g.next));clear c1;have c1:=hs2.facts;simp only [CellsAt,Nat.reduceAdd,and_true] at c1;have HPG:=hQ hpg;have HS3:=hQ hs3;have HCP:=hQ (And.intro hcp hfit)
   have hn8:g.items.length≤8:=hfit.n;have hn83:(g.items.length:Int)≤8:=by omega
   clear hs1 hs2 hs3 st1 EN HST hpg hcp hfit hlk;by_cases hkd:g.kind=1
   · by_cases hq:root=false∧(g.items.length:Int)<4
     · obtain⟨rfl,hq⟩:=hq
       have HV:=hQ (show pageK look 0 ((j:Int)+1) (leastR false 0) rg (M,keys)=(5,(((j:Int)+1) :: M,keys)) from by
        conv=>lhs;unfold pageK
        simp only [hen]
        rw [if_neg (show ¬(g.kind≠1) from fun h=>h hkd),if_pos (show (g.items.length:Int)<leastR false 0 from hq)])
       have HE:=hQ (HS3.out.to (M:=ckRL c r b cap s gs hush x (((j:Int)+1) :: M) keys [Pr.own h,F]));have bk1:(g.kind != 1)=false:=by rw [hkd];rfl
       clear hen HS3 hfm hkd;go_wp2;go_ret;rw [HV.out];exact⟨HST1.out,rfl,HE.out⟩
     · have HV:=hQ (show pageK look 0 ((j:Int)+1) (leastR root 0) rg (M,keys)=foldK (fun i s=>itemK look (itemAt g.items i) rg s) 0 g.items.length (((j:Int)+1) :: M,keys) from by
        conv=>lhs;unfold pageK
        simp only [hen]
        rw [if_neg (show ¬(g.kind≠1) from fun h=>h hkd),if_neg]
        unfold leastR
        cases root
        · intro h9
          exact hq ⟨rfl,h9⟩
        · have:=(hfm.leaf hkd).2
          simp only [if_true]
          omega)
       have bk1:(g.kind != 1)=false:=by rw [hkd];rfl
       have hne:=(hfm.leaf hkd).2;have HKD:=hQ hkd;clear hen hfm hkd;obtain⟨PK,hPK⟩:∃PK,pageK look 0 ((j:Int)+1) (leastR root 0) rg (M,keys)=PK:=⟨_,rfl⟩;have HPK:=hQ hPK;have HV0:=hQ (hPK.symm.trans HV.out);obtain⟨_,_,epv,hit,_⟩:=HPG.out.sub HSB.out.2;simp only [pageV,Value.agg.injEq,Array.mk.injEq,List.cons.injEq,and_true,true_and] at epv;obtain⟨rfl,rfl⟩:=epv;obtain⟨_,_,e9,_,rd⟩:=items_rd hit
       cases e9;have RD:=hQ rd;have HPU:=hQ (HPG.out.sub HSB.out.2);have HRU:=hQ (HR.out.1.sub HSB.out.1)
       have HS6:=hQ (HS3.out.to (M:=ckRL c r b cap s gs hush x (((j:Int)+1) :: M) keys [Pr.own h,Pr.pts w1.heap.size (pageC g.kind g.level (.slice tai g.items.length tci) (.slice tad g.data.length tcd) g.next),Pr.pts w.heap.size (rangeC (.slice rl rg.lo.length dl) (.slice rh rg.hi.length dh) rg.op),F]));have HQ4:=hQ hq;clear hPK HV hit rd HPG HS3 hq;rcases root with _ | _
       all_goals
        (try have hq3:¬(g.items.length:Int)<4:=fun h=>HQ4.out ⟨rfl,h⟩
         clear HQ4
         go_wp2
         clear c1 q3 y1 y2 d0 d1 d2 d3 d4
         generalize w1.heap.size=J at*
         generalize w.heap.size=BG at*
         generalize w1.alloc (pageC g.kind g.level (.slice tai g.items.length tci) (.slice tad g.data.length tcd) g.next)=w2 at*
         go_loopw [12] (fun t wr=> ∃(i:Nat) (Mi:List Int) (ki:Int),i≤g.items.length∧t= .int .i64 i∧Stays w wr∧Hid (PK=foldK (fun i s=>itemK look (itemAt g.items i) rg s) i (g.items.length-i) (Mi,ki))∧Hid (keys≤ki∧ki≤keys+((i*(1):Nat):Int))∧OwnL (ckRL c r b cap s gs hush x Mi ki [Pr.own h,Pr.pts J (pageC g.kind g.level (.slice tai g.items.length tci) (.slice tad g.data.length tcd) g.next),Pr.pts BG (rangeC (.slice rl rg.lo.length dl) (.slice rh rg.hi.length dh) rg.op),F]) wr) (fun t _=>g.items.length-(intOf t).toNat)
         case atStart=>exact⟨0,((j:Int)+1) :: M,keys,Nat.zero_le _,rfl,HST1.out,HV0,hQ ⟨Int.le_refl _,by simp⟩,HS6.out⟩
         case round=>
          obtain⟨i,Mi,ki,hi,rfl,hst,heq,hkb,hsr⟩:=hrel
          rename World=>wr
          clear HST1 HS6 HV0
          have HST:=hQ hst
          have HSR:=hQ hsr
          have c1:=hsr.facts
          simp only [CellsAt,Nat.reduceAdd,and_true] at c1
          rcases Nat.lt_or_ge i g.items.length with hlt | hge
          · obtain⟨b1,off,ak,ck,av,cv,rfl,hbk,hbv,hc⟩:=RD.out i hlt
            have hju:=ref_join HU.out hsr
            obtain⟨d0,d1,d2,d3⟩:=hc wr (hju.le (a:=hu))
            have zb:=World.block_lt_of_cell? _ _ d0
            rw [← itemAt_get hlt] at hbk hbv d0 d1 d2 d3
            obtain⟨hcp,hfit⟩:=HCP.out
            have hym:=getD_mem hlt
            have hy1:=hfit.k _ hym
            have hkb2:=hkb.out
            have hkbn:=(itemK_keys look (itemAt g.items i) rg (Mi,ki))
            have hpw:i*(1)+(1)≤8*(1):=by
             rw [← Nat.succ_mul]
             exact Nat.mul_le_mul_right _ (by omega)
            have hk9:=HK.out
            have HEQ:=hQ (heq.out.trans (show foldK (fun i s=>itemK look (itemAt g.items i) rg s) i (g.items.length-i) (Mi,ki)=if(itemK look (itemAt g.items i) rg (Mi,ki)).1≠0 then itemK look (itemAt g.items i) rg (Mi,ki) else foldK (fun i s=>itemK look (itemAt g.items i) rg s) (i+1) (g.items.length-(i+1)) (itemK look (itemAt g.items i) rg (Mi,ki)).2 from by
             rw [show g.items.length-i=(g.items.length-(i+1))+1 by omega]
             rfl))
            have HKN:=hQ (show keys≤(itemK look (itemAt g.items i) rg (Mi,ki)).2.2∧(itemK look (itemAt g.items i) rg (Mi,ki)).2.2≤keys+(((i+1)*(1):Nat):Int) from by
             obtain⟨z1,z2⟩:=hkbn
             rw [Nat.succ_mul]
             simp only at z1 z2
             omega)
            have hil:(i:Int)<(g.items.length:Int):=by omega
            have hv5:=items_val g.kind g.items 0 [] (items_of_check hcp) _ hym
            have hsz:(itemAt g.items i).size≤3840:=by
             unfold valOk at hv5
             rw [if_neg (by have:=HKD.out;omega)] at hv5
             split at hv5
             · omega
             · cases hv5
            have IC:=hQ (ritem_any c r b cap s gs hush x HL.out.1 look HL.out.2.1 Mi ki (by omega) (itemAt g.items i) rg hu _ _ ⟨_,_,rfl,hbk,hbv⟩ HRU.out (by omega) hsz _ _ (hju.drew.le (a:=hu)) (OwnL.in3 (hsr.drew.pull3 (A1:=RefAt r s gs hush x) (A2:=Pr.pts c (ckR r b cap s.counts.length ki)) (A3:=MetA b cap s.counts.length Mi))))
            clear hst heq hkb hsr hju hbk hbv hc hcp hfit hym hy1 hkb2 hkbn hpw hk9 hv5 hsz HSR
            generalize itemK look (itemAt g.items i) rg (Mi,ki)=RE at*
            generalize itemAt g.items i=y at*
            go_wp2
            refine wS 106 [0,1,2,3,4,5,6] [(7,[8],[1,2,3,4])] ?_
            refine wpQ_all _ rfl rfl ?_
            simp only [pick,pQ]
            iterate 7 (go_big_quiet_step (fail))
            refine wpQuiet_nil ?_
            refine wpRest_act rfl ?_
            go_wp2_with fail
            refine IC.out.mono ?_
            rintro e w5 ⟨st5,rfl,hs5⟩
            have hs6:=hs5.flat
            have HSZ:=hQ hs6
            have HSTZ:=hQ (HST.out.drew.trans st5)
            clear c1 d0 d1 d2 d3 zb
            have c1:=hs6.facts
            simp only [CellsAt,Nat.reduceAdd,and_true] at c1
            have HEQ2:=HEQ.out
            clear hs5 hs6 st5 IC HEQ
            by_cases he:RE.1=0
            · rw [he,if_neg (by simp)] at HEQ2
              have HEQ3:=hQ HEQ2
              have HE9:=hQ (HSZ.out.to (M:=ckRL c r b cap s gs hush x RE.2.1 RE.2.2 [Pr.own h,Pr.pts J (pageC g.kind g.level (.slice (some ⟨b1,off,none⟩) g.items.length tci) (.slice tad g.data.length tcd) g.next),Pr.pts BG (rangeC (.slice rl rg.lo.length dl) (.slice rh rg.hi.length dh) rg.op),F]))
              rw [he]
              clear HEQ2 he
              go_wp2
              refine onN_mk ?_
              refine wpQ_all _ rfl rfl ?_
              simp only [pick,pQ]
              iterate 1 (go_big_quiet_step (fail))
              refine wpQuiet_nil ⟨?_,?_⟩
              · exact cQ
              refine wpRest_nil ?_
              go_wp2
              go_roundw
              case rel=>exact⟨i+1,RE.2.1,RE.2.2,by omega,congrArg (Value.int .i64) (by omega),HSTZ.out,HEQ3,HKN,HE9.out⟩
              case measure=>simp [intOf];omega
            · rw [if_pos he] at HEQ2
              have HQ:=hQ HEQ2
              have hb1:(RE.1 != 0)=true:=bne_iff_ne.2 he
              have HE:=hQ (HSZ.out.to (M:=ckRL c r b cap s gs hush x RE.2.1 RE.2.2 [Pr.own h,F]))
              clear HEQ2 he HSZ
              go_wp2
              refine onN_mk ?_
              refine wpQ_all _ rfl rfl ?_
              simp only [pick,pQ]
              iterate 1 (go_big_quiet_step (fail))
              refine wpQuiet_nil ⟨?_,?_⟩
              · exact cQ
              refine wpRest_nil ?_
              go_wp2
              go_ret
              rw [HPK.out,HQ.out]
              exact⟨HSTZ.out,rfl,HE.out⟩
          · have hie:i=g.items.length:=by omega
            have h0:foldK (fun i s=>itemK look (itemAt g.items i) rg s) i (g.items.length-i) (Mi,ki)=(0,(Mi,ki)):=by
             rw [hie,Nat.sub_self]
             rfl
            have HQ:=hQ (heq.out.trans h0)
            have HE:=hQ (HSR.out.to (M:=ckRL c r b cap s gs hush x Mi ki [Pr.own h,F]))
            clear hst heq hkb hsr h0 HSR
            subst hie
            go_wp2
            go_ret
            rw [HPK.out,HQ.out]
            exact⟨HST.out,rfl,HE.out⟩)
   · have HV:=hQ (show pageK look 0 ((j:Int)+1) (leastR root 0) rg (M,keys)=(15,(((j:Int)+1) :: M,keys)) from by
      conv=>lhs;unfold pageK
      simp only [hen]
      rw [if_pos hkd])
     have HE:=hQ (HS3.out.to (M:=ckRL c r b cap s gs hush x (((j:Int)+1) :: M) keys [Pr.own h,F]));have bk1:(g.kind != 1)=true:=bne_iff_ne.2 hkd;clear hen HS3 hfm hkd;go_wp2;go_ret;rw [HV.out];exact⟨HST1.out,rfl,HE.out⟩
end Go.Proofs.YtiegeadmgpanoaaGreatDoor.U7
namespace Go.Proofs.YtiegeadmgpanoaaGreatDoor.U7
open ChangeShapes WideShapes ChangeAt RowKit Sl Cop F3 G2 J2 Q3 V3 X3 M5 G6 J6 L6 T6 N2 N5 S5 B6 K7 N7 P7 M7 Q7 T7
theorem rpage_index(r:Nat)(s:PoolS)(gs:List PageV)(hush:RTail)(x:RX)(ok:ROk s gs x)(look:Int→Option PageV)(hl:RLooks s gs look)(okp:PgsOk look)(lv:Nat)(ih:RPageC r s gs hush x look lv):RPageC r s gs hush x look (lv+1):=by
 intro c b cap M keys n root rg h rv hk0 hk1 hr nr F w hF;obtain⟨lo,hi,rfl,hlo,hhi⟩:=id hr;obtain⟨rl,dl,rfl,_⟩:=bytes_rd hlo;obtain⟨rh,dh,rfl,_⟩:=bytes_rd hhi;obtain⟨hu,hhu⟩:∃hu,x.h.un h=hu:=⟨_,rfl⟩;have hd:=ref_un hF;have HU:=hQ (show Pr.own hu=(Pr.own x.h).star (Pr.own h) from hhu ▸ own_un hd)
 have HSB:=hQ (And.intro (show h.sub hu from hhu ▸ Hp.sub_un_right hd) (show x.h.sub hu from hhu ▸ Hp.sub_un_left x.h h));have hs0:=hF.alloc (rangeC (.slice rl rg.lo.length dl) (.slice rh rg.hi.length dh) rg.op)
 have EN:=hQ (renter_any c r b cap s gs hush x ok look hl M keys n _ _ (OwnL.in3 (hs0.pull3 (A1:=RefAt r s gs hush x) (A2:=Pr.pts c (ckR r b cap s.counts.length keys)) (A3:=MetA b cap s.counts.length M))));have HST:=hQ ((Stays.refl w).alloc (rangeC (.slice rl rg.lo.length dl) (.slice rh rg.hi.length dh) rg.op));have HR:=hQ (And.intro hr nr);have HL:=hQ (And.intro ok (And.intro hl okp))
 have HK:=hQ (And.intro hk0 hk1);have c1:=hs0.facts;simp only [CellsAt,Nat.reduceAdd,and_true] at c1;clear hF hs0 hlo hhi hr nr hl okp hk0 hk1 ok hd hhu;have IH:=hQ ih;clear ih;rw [show ((lv+1:Nat):Int)=(lv:Int)+1 by omega];have hv0:((lv:Int)+1 == 0)=false:=by rw [beq_eq_false_iff_ne];omega
 have hv1:(0:Int)<(lv:Int)+1:=by omega
 go_enter Tryz.func42,Tryz.ntmps42
 go_wp2_with fail
 refine EN.out.mono ?_;rintro e w1 ⟨st1,(⟨hen,rfl,hs1⟩ | ⟨g,hen,rfl,hs1⟩)⟩
 · have HV:=hQ (show pageK look (lv+1) n (leastR root (lv+1)) rg (M,keys)=(15,(M,keys)) from by
    conv=>lhs;unfold pageK
    simp only [hen])
   have hs2:=hs1.flat;have HST1:=hQ (HST.out.trans st1);have HE:=hQ (hs2.to (M:=ckRL c r b cap s gs hush x M keys [Pr.own h,F]));clear c1;have c1:=hs2.facts;simp only [CellsAt,Nat.reduceAdd,and_true] at c1;clear hs1 hs2 st1 EN hen HST;go_wp2;go_ret;rw [HV.out];exact⟨HST1.out,rfl,HE.out⟩
 · have hlk:look n=some g:=by
    unfold enterK at hen;split at hen
    · cases hen
    · exact hen
   have hcp:=HL.out.2.2.chk n g hlk;have hfm:=form_of_check hcp;have hfit:=fit_of_check hcp;have hs2:=hs1.flat;obtain⟨j,cp,bp,tai,tad,tci,tcd,rfl,hj,q3,y1,y2,hpg,d0,d1,d2,d3,d4⟩:=page_cells HL.out.1 HL.out.2.1 hlk (hs2.pull1 (A1:=RefAt r s gs hush x));have hj2:(j:Int)<(s.counts.length:Int):=by omega
   have hn2:=HL.out.1.n2;have hj3:(j:Int)≤65536:=by omega
   have hs3:=hs2.alloc (pageC g.kind g.level (.slice tai g.items.length tci) (.slice tad g.data.length tcd) g.next);have HST1:=hQ ((HST.out.trans st1).alloc (pageC g.kind g.level (.slice tai g.items.length tci) (.slice tad g.data.length tcd) g.next));clear c1;have c1:=hs2.facts;simp only [CellsAt,Nat.reduceAdd,and_true] at c1;have HPG:=hQ hpg;have HS3:=hQ hs3;have HCP:=hQ (And.intro hcp hfit)
   have hn8:g.items.length≤8:=hfit.n;have hn83:(g.items.length:Int)≤8:=by omega
   clear hs1 hs2 hs3 st1 EN HST hpg hcp hfit hlk;by_cases hkd:g.kind=2∧g.level=(lv:Int)+1
   · by_cases hq:root=false∧(g.items.length:Int)<4
     · obtain⟨rfl,hq⟩:=hq
       have HV:=hQ (show pageK look (lv+1) ((j:Int)+1) (leastR false (lv+1)) rg (M,keys)=(5,(((j:Int)+1) :: M,keys)) from by
        conv=>lhs;unfold pageK
        simp only [hen]
        rw [if_neg (show ¬¬(g.kind=2∧g.level=(lv:Int)+1) from fun h=>h hkd),if_pos (show (g.items.length:Int)<leastR false (lv+1) from hq)])
       have HE:=hQ (HS3.out.to (M:=ckRL c r b cap s gs hush x (((j:Int)+1) :: M) keys [Pr.own h,F]));have bk1:(g.kind != 2)=false:=by rw [hkd.1];rfl
       have bk2:(g.level != (lv:Int)+1)=false:=by rw [hkd.2];simp
       clear hen HS3 hfm hkd;go_wp2;go_ret;rw [HV.out];exact⟨HST1.out,rfl,HE.out⟩
     · have HV:=hQ (show pageK look (lv+1) ((j:Int)+1) (leastR root (lv+1)) rg (M,keys)=foldK (fun i s=>pageK look lv (itemAt g.items i).child 4 (meetR rg (ownR g.items i)) s) 0 g.items.length (((j:Int)+1) :: M,keys) from by
        conv=>lhs;unfold pageK
        simp only [hen]
        rw [if_neg (show ¬¬(g.kind=2∧g.level=(lv:Int)+1) from fun h=>h hkd),if_neg]
        unfold leastR
        cases root
        · intro h9
          exact hq ⟨rfl,h9⟩
        · have:=(hfm.index hkd.1).2.2
          simp only [if_true,Nat.add_eq_zero_iff,Nat.one_ne_zero,and_false,if_false]
          omega)
       have bk1:(g.kind != 2)=false:=by rw [hkd.1];rfl
       have bk2:(g.level != (lv:Int)+1)=false:=by rw [hkd.2];simp
       have hne:¬(g.items.length:Int)<2:=by have:=(hfm.index hkd.1).2.2;omega
       have hlvb:(lv:Int)≤11:=by have:=(hfm.index hkd.1).2.1;omega
       have HKD:=hQ hkd;clear hen hfm hkd;obtain⟨PK,hPK⟩:∃PK,pageK look (lv+1) ((j:Int)+1) (leastR root (lv+1)) rg (M,keys)=PK:=⟨_,rfl⟩;have HPK:=hQ hPK;have HV0:=hQ (hPK.symm.trans HV.out);obtain⟨_,_,epv,hit,_⟩:=HPG.out.sub HSB.out.2;simp only [pageV,Value.agg.injEq,Array.mk.injEq,List.cons.injEq,and_true,true_and] at epv;obtain⟨rfl,rfl⟩:=epv;obtain⟨_,_,e9,_,rd⟩:=items_rd hit;cases e9
       have RD:=hQ rd;have HPU:=hQ (HPG.out.sub HSB.out.2);have HRU:=hQ (HR.out.1.sub HSB.out.1);have HS6:=hQ (HS3.out.to (M:=ckRL c r b cap s gs hush x (((j:Int)+1) :: M) keys [Pr.own h,Pr.pts w1.heap.size (pageC g.kind g.level (.slice tai g.items.length tci) (.slice tad g.data.length tcd) g.next),Pr.pts w.heap.size (rangeC (.slice rl rg.lo.length dl) (.slice rh rg.hi.length dh) rg.op),F]))
       have HQ4:=hQ hq;clear hPK HV hit rd HPG HS3 hq;rcases root with _ | _
       all_goals
        (try have hq3:¬(g.items.length:Int)<4:=fun h=>HQ4.out ⟨rfl,h⟩
         clear HQ4
         go_wp2
         clear c1 q3 y1 y2 d0 d1 d2 d3 d4
         generalize w1.heap.size=J at*
         generalize w.heap.size=BG at*
         generalize w1.alloc (pageC g.kind g.level (.slice tai g.items.length tci) (.slice tad g.data.length tcd) g.next)=w2 at*
         go_loopw [12] (fun t wr=> ∃(i:Nat) (Mi:List Int) (ki:Int),i≤g.items.length∧t= .int .i64 i∧Stays w wr∧Hid (PK=foldK (fun i s=>pageK look lv (itemAt g.items i).child 4 (meetR rg (ownR g.items i)) s) i (g.items.length-i) (Mi,ki))∧Hid (keys≤ki∧ki≤keys+((i*(8 ^ (lv+1)):Nat):Int))∧OwnL (ckRL c r b cap s gs hush x Mi ki [Pr.own h,Pr.pts J (pageC g.kind g.level (.slice tai g.items.length tci) (.slice tad g.data.length tcd) g.next),Pr.pts BG (rangeC (.slice rl rg.lo.length dl) (.slice rh rg.hi.length dh) rg.op),F]) wr) (fun t _=>g.items.length-(intOf t).toNat)
         case atStart=>exact⟨0,((j:Int)+1) :: M,keys,Nat.zero_le _,rfl,HST1.out,HV0,hQ ⟨Int.le_refl _,by simp⟩,HS6.out⟩
         case round=>
          obtain⟨i,Mi,ki,hi,rfl,hst,heq,hkb,hsr⟩:=hrel
          rename World=>wr
          clear HST1 HS6 HV0
          have HST:=hQ hst
          have HSR:=hQ hsr
          have c1:=hsr.facts
          simp only [CellsAt,Nat.reduceAdd,and_true] at c1
          rcases Nat.lt_or_ge i g.items.length with hlt | hge
          · obtain⟨b1,off,ak,ck,av,cv,rfl,hbk,hbv,hc⟩:=RD.out i hlt
            have hju:=ref_join HU.out hsr
            obtain⟨d0,d1,d2,d3⟩:=hc wr (hju.le (a:=hu))
            have zb:=World.block_lt_of_cell? _ _ d0
            rw [← itemAt_get hlt] at hbk hbv d0 d1 d2 d3
            obtain⟨hcp,hfit⟩:=HCP.out
            have hym:=getD_mem hlt
            have hy1:=hfit.k _ hym
            have hkb2:=hkb.out
            have hkbn:=(pageK_keys (fun n g h=>(fit_of_check (HL.out.2.2.chk n g h)).n) lv (itemAt g.items i).child 4 (meetR rg (ownR g.items i)) (Mi,ki))
            have hpw:i*(8 ^ (lv+1))+(8 ^ (lv+1))≤8*(8 ^ (lv+1)):=by
             rw [← Nat.succ_mul]
             exact Nat.mul_le_mul_right _ (by omega)
            have hk9:=HK.out
            have HEQ:=hQ (heq.out.trans (show foldK (fun i s=>pageK look lv (itemAt g.items i).child 4 (meetR rg (ownR g.items i)) s) i (g.items.length-i) (Mi,ki)=if(pageK look lv (itemAt g.items i).child 4 (meetR rg (ownR g.items i)) (Mi,ki)).1≠0 then pageK look lv (itemAt g.items i).child 4 (meetR rg (ownR g.items i)) (Mi,ki) else foldK (fun i s=>pageK look lv (itemAt g.items i).child 4 (meetR rg (ownR g.items i)) s) (i+1) (g.items.length-(i+1)) (pageK look lv (itemAt g.items i).child 4 (meetR rg (ownR g.items i)) (Mi,ki)).2 from by
             rw [show g.items.length-i=(g.items.length-(i+1))+1 by omega]
             rfl))
            have HKN:=hQ (show keys≤(pageK look lv (itemAt g.items i).child 4 (meetR rg (ownR g.items i)) (Mi,ki)).2.2∧(pageK look lv (itemAt g.items i).child 4 (meetR rg (ownR g.items i)) (Mi,ki)).2.2≤keys+(((i+1)*(8 ^ (lv+1)):Nat):Int) from by
             obtain⟨z1,z2⟩:=hkbn
             rw [Nat.succ_mul]
             simp only at z1 z2
             omega)
            have hil:(i:Int)<(g.items.length:Int):=by omega
            have hon:RLen 24 (ownR g.items i):=ownR_len (fun x hx=>(hfit.k x hx).1) i
            have HIA:=hQ (fun(h:Hp) (rv:Value) h3 (G:Pr) (wx:World) hF=>IH.out c b cap Mi ki (itemAt g.items i).child false (meetR rg (ownR g.items i)) h rv (by omega) (by omega) h3 (meetR_len HR.out.2 hon) G wx hF)
            have WC:=hQ (rwithin_any hu _ _ g HPU.out i hlt hfit rg HRU.out HR.out.2 _ _ (hju.drew.pull1 (A1:=Pr.own hu)))
            rw [show leastR false lv=4 from rfl] at HIA
            have HCC:=hQ (fun w hl=>by have:=hc w hl;rw [← itemAt_get hlt] at this;exact this:∀w,hu.le w→ _)
            clear hst heq hkb hsr hju hbk hbv hc hcp hfit hym hy1 hkb2 hkbn hpw hk9 HSR hon
            generalize pageK look lv (itemAt g.items i).child 4 (meetR rg (ownR g.items i)) (Mi,ki)=RE at*
            generalize itemAt g.items i=y at*
            go_wp2
            refine wS 106 [0,1,2,3,4,5,6,7,8,9,10,11] [(12,[],[0,1,2,3,4,5,6,7,8]),(13,[14],[1,2,3,4,5,7])] ?_
            refine wpQ_all _ rfl rfl ?_
            simp only [pick,pQ]
            iterate 12 (go_big_quiet_step (fail))
            refine wpQuiet_nil ?_
            refine wpRest_act rfl ?_
            go_wp2_with fail
            refine WC.out.mono ?_
            rintro e w5 ⟨st5,hm,rvm,rfl,hrm,hs5⟩
            have hs6:=ref_part HU.out ((OwnL.of2 hs5).to (M:=Pr.own hu :: RefR r s gs hush x :: Pr.pts c (ckR r b cap s.counts.length ki) :: MetA b cap s.counts.length Mi :: [Pr.own hm,Pr.pts J (pageC g.kind g.level (.slice (some ⟨b1,off,none⟩) g.items.length tci) (.slice tad g.data.length tcd) g.next),Pr.pts BG (rangeC (.slice rl rg.lo.length dl) (.slice rh rg.hi.length dh) rg.op),F]))
            have PC:=hQ (HIA.out hm rvm hrm _ _ (OwnL.in4 (hs6.pull4 (A1:=RefAt r s gs hush x) (A2:=Pr.pts c (ckR r b cap s.counts.length ki)) (A3:=MetA b cap s.counts.length Mi) (A4:=Pr.own hm))))
            have hju2:=ref_join HU.out hs6
            have HC2:=hQ (hju2.le (a:=hu))
            have HSTM:=hQ (HST.out.drew.trans st5)
            clear c1 d0 d1 d2 d3 zb WC
            obtain⟨d0,d1,d2,d3⟩:=HCC.out w5 HC2.out
            have c1:=hs6.facts
            simp only [CellsAt,Nat.reduceAdd,and_true] at c1
            clear hs5 hs6 st5 hrm hju2 HC2
            go_wp2
            refine onN_mk ?_
            refine wpQ_nil ⟨?_,?_⟩
            · exact cQ
            refine wpRest_act rfl ?_
            go_wp2_with fail
            refine PC.out.mono ?_
            rintro e w6 ⟨st6,rfl,hs7⟩
            have hs8:=hs7.flat
            have HSZ:=hQ hs8
            have HSTZ:=hQ (HSTM.out.trans st6)
            clear c1 d0 d1 d2 d3
            have c1:=hs8.facts
            simp only [CellsAt,Nat.reduceAdd,and_true] at c1
            have HEQ2:=HEQ.out
            clear hs7 hs8 st6 PC HSTM HEQ HIA
            by_cases he:RE.1=0
            · rw [he,if_neg (by simp)] at HEQ2
              have HEQ3:=hQ HEQ2
              have HE9:=hQ (HSZ.out.to (M:=ckRL c r b cap s gs hush x RE.2.1 RE.2.2 [Pr.own h,Pr.pts J (pageC g.kind g.level (.slice (some ⟨b1,off,none⟩) g.items.length tci) (.slice tad g.data.length tcd) g.next),Pr.pts BG (rangeC (.slice rl rg.lo.length dl) (.slice rh rg.hi.length dh) rg.op),F]))
              rw [he]
              clear HEQ2 he
              go_wp2
              refine onN_mk ?_
              refine wpQ_all _ rfl rfl ?_
              simp only [pick,pQ]
              iterate 1 (go_big_quiet_step (fail))
              refine wpQuiet_nil ⟨?_,?_⟩
              · exact cQ
              refine wpRest_nil ?_
              go_wp2
              go_roundw
              case rel=>exact⟨i+1,RE.2.1,RE.2.2,by omega,congrArg (Value.int .i64) (by omega),HSTZ.out,HEQ3,HKN,HE9.out⟩
              case measure=>simp [intOf];omega
            · rw [if_pos he] at HEQ2
              have HQ:=hQ HEQ2
              have hb1:(RE.1 != 0)=true:=bne_iff_ne.2 he
              have HE:=hQ (HSZ.out.to (M:=ckRL c r b cap s gs hush x RE.2.1 RE.2.2 [Pr.own h,F]))
              clear HEQ2 he HSZ
              go_wp2
              refine onN_mk ?_
              refine wpQ_all _ rfl rfl ?_
              simp only [pick,pQ]
              iterate 1 (go_big_quiet_step (fail))
              refine wpQuiet_nil ⟨?_,?_⟩
              · exact cQ
              refine wpRest_nil ?_
              go_wp2
              go_ret
              rw [HPK.out,HQ.out]
              exact⟨HSTZ.out,rfl,HE.out⟩
          · have hie:i=g.items.length:=by omega
            have h0:foldK (fun i s=>pageK look lv (itemAt g.items i).child 4 (meetR rg (ownR g.items i)) s) i (g.items.length-i) (Mi,ki)=(0,(Mi,ki)):=by
             rw [hie,Nat.sub_self]
             rfl
            have HQ:=hQ (heq.out.trans h0)
            have HE:=hQ (HSR.out.to (M:=ckRL c r b cap s gs hush x Mi ki [Pr.own h,F]))
            clear hst heq hkb hsr h0 HSR
            subst hie
            go_wp2
            go_ret
            rw [HPK.out,HQ.out]
            exact⟨HST.out,rfl,HE.out⟩)
   · have HV:=hQ (show pageK look (lv+1) ((j:Int)+1) (leastR root (lv+1)) rg (M,keys)=(15,(((j:Int)+1) :: M,keys)) from by
      conv=>lhs;unfold pageK
      simp only [hen]
      rw [if_pos hkd])
     have HE:=hQ (HS3.out.to (M:=ckRL c r b cap s gs hush x (((j:Int)+1) :: M) keys [Pr.own h,F]));by_cases hk2:g.kind=2
     · have bk1:(g.kind != 2)=false:=by rw [hk2];rfl
       have bk2:(g.level != (lv:Int)+1)=true:=bne_iff_ne.2 fun e=>hkd ⟨hk2,e⟩
       clear hen HS3 hfm hkd hk2;go_wp2;go_ret;rw [HV.out];exact⟨HST1.out,rfl,HE.out⟩
     · have bk1:(g.kind != 2)=true:=bne_iff_ne.2 hk2
       clear hen HS3 hfm hkd hk2;go_wp2;go_ret;rw [HV.out];exact⟨HST1.out,rfl,HE.out⟩
end Go.Proofs.YtiegeadmgpanoaaGreatDoor.U7
