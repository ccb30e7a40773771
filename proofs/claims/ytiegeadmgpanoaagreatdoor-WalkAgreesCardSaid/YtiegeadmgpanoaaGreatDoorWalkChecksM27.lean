/- The program's checker looks at a page and at all beneath it; the conditions stand as hypotheses. -/
import Derived.Test.YtiegeadmgpanoaaGreatDoorWalkChecksM25
import Derived.Test.YtiegeadmgpanoaaGreatDoorWalkChecksM19
import Derived.Test.YtiegeadmgpanoaaGreatDoorWalkChecksM01
set_option maxRecDepth 100000
set_option maxHeartbeats 16000000
namespace Go.Cop
theorem itemK_keys(look:Int→Option PageV)(x:ItemV)(r:RangeV)(s:MetS):s.2≤(itemK look x r s).2.2∧(itemK look x r s).2.2≤s.2+1:=by
 unfold itemK;split
 · exact⟨Int.le_refl _,by show s.2≤s.2+1;omega⟩
 · split
   · exact⟨by show s.2≤s.2+1;omega,Int.le_refl _⟩
   · exact⟨by show s.2≤s.2+1;omega,Int.le_refl _⟩
theorem foldK_keys {step:Nat→MetS→Int × MetS}(B:Nat)(hs:∀i s,s.2≤(step i s).2.2∧(step i s).2.2≤s.2+(B:Int)):∀(k i:Nat) (s:MetS),s.2≤(foldK step i k s).2.2∧(foldK step i k s).2.2≤s.2+((k*B:Nat):Int)
 | 0,i,s=>⟨Int.le_refl _,by simp [foldK]⟩
 | k+1,i,s=>by
   obtain⟨h1,h2⟩:=hs i s;have e:(((k+1)*B:Nat):Int)=((k*B:Nat):Int)+(B:Int):=by rw [Nat.add_mul,Nat.one_mul,Int.natCast_add]
   have e0:(0:Int)≤((k*B:Nat):Int):=by omega
   unfold foldK;split
   · exact⟨h1,by omega⟩
   · obtain⟨h3,h4⟩:=foldK_keys B hs k (i+1) (step i s).2
     exact⟨by omega,by omega⟩
theorem pageK_keys {look:Int→Option PageV}(hn:∀n g,look n=some g→g.items.length≤8):∀(lv:Nat) (n least:Int) (r:RangeV) (s:MetS),s.2≤(pageK look lv n least r s).2.2∧(pageK look lv n least r s).2.2≤s.2+((8 ^ (lv+1):Nat):Int)
 | 0,n,least,r,s=>by
   unfold pageK;cases he:enterK look s.1 n with
   | none=>exact⟨Int.le_refl _,by show s.2≤s.2+8;omega⟩
   | some g=>
     have hl:g.items.length≤8:=by
      unfold enterK at he;split at he
      · cases he
      · exact hn n g he
     simp only;split
     · exact⟨Int.le_refl _,by show s.2≤s.2+8;omega⟩
     · split
       · exact⟨Int.le_refl _,by show s.2≤s.2+8;omega⟩
       · obtain⟨h1,h2⟩:=foldK_keys (step:=fun i s=>itemK look (itemAt g.items i) r s) 1 (fun i s=>itemK_keys look _ r s) g.items.length 0 (n :: s.1,s.2)
         refine⟨h1,Int.le_trans h2 ?_⟩;show s.2+ _≤s.2+8
         omega
 | lv+1,n,least,r,s=>by
   have e8:(8 ^ (lv+1+1):Nat)=8*8 ^ (lv+1):=by rw [Nat.pow_succ,Nat.mul_comm]
   unfold pageK;cases he:enterK look s.1 n with
   | none=>exact⟨Int.le_refl _,by show s.2≤s.2+ _;omega⟩
   | some g=>
     have hl:g.items.length≤8:=by
      unfold enterK at he;split at he
      · cases he
      · exact hn n g he
     simp only;split
     · exact⟨Int.le_refl _,by show s.2≤s.2+ _;omega⟩
     · split
       · exact⟨Int.le_refl _,by show s.2≤s.2+ _;omega⟩
       · obtain⟨h1,h2⟩:=foldK_keys (step:=fun i s=>pageK look lv (itemAt g.items i).child 4 (meetR r (ownR g.items i)) s) (8 ^ (lv+1)) (fun i s=>pageK_keys hn lv _ _ _ s) g.items.length 0 (n :: s.1,s.2)
         refine⟨h1,Int.le_trans h2 ?_⟩;have:g.items.length*8 ^ (lv+1)≤8*8 ^ (lv+1):=Nat.mul_le_mul_right _ hl
         rw [e8];show s.2+ _≤s.2+ _
         omega
theorem itemAt_or(l:List ItemV)(i:Nat):itemAt l i∈l∨itemAt l i=zeroI:=by
 rcases Nat.lt_or_ge i l.length with h | h
 · exact .inl (getD_mem h)
 · right
   unfold itemAt;rw [List.getD_eq_getElem?_getD,List.getElem?_eq_none h];rfl
theorem itemAt_all {P:List Int→Prop}{l:List ItemV}(h:∀x∈l,P x.key)(h0:P [])(i:Nat):P (itemAt l i).key:=by
 rcases itemAt_or l i with e | e
 · exact h _ e
 · rw [e];exact h0
theorem ownR_u8 {l:List ItemV}(h:∀x∈l,U8 x.key)(i:Nat):RU8 (ownR l i):=by
 have h0:U8 []:=fun z hz=>by cases hz
 unfold ownR;split
 · exact⟨itemAt_all h h0 i,itemAt_all h h0 (i+1)⟩
 · exact⟨itemAt_all h h0 i,h0⟩
theorem ownR_len {n:Nat}{l:List ItemV}(h:∀x∈l,x.key.length≤n)(i:Nat):RLen n (ownR l i):=by
 have h0:([]:List Int).length≤n:=Nat.zero_le _;unfold ownR;split
 · exact⟨itemAt_all (P:=fun k=>k.length≤n) h h0 i,itemAt_all (P:=fun k=>k.length≤n) h h0 (i+1)⟩
 · exact⟨itemAt_all (P:=fun k=>k.length≤n) h h0 i,h0⟩
end Go.Cop
namespace Go.Proofs.YtiegeadmgpanoaaGreatDoor.P7
open ChangeShapes WideShapes ChangeAt RowKit Sl Cop F3 G2 J2 Q3 V3 G4 X3 M5 N2 L6 N5 S5 K7 N7
theorem own_un {a b:Hp}(hd:a.dis b):Pr.own (a.un b)=(Pr.own a).star (Pr.own b):=by
 funext x
 apply propext;exact⟨fun h=>⟨a,b,rfl,rfl,hd,h⟩,fun⟨_,_,ha,hb,_,hx⟩=>by rw [hx,show _=a from ha,show _=b from hb];rfl⟩
def PageC(v:Nat)(s:VaultS)(look:Int→Option PageV)(lv:Nat):Prop:= ∀(c mb:Nat) (M:List Int) (keys n least:Int) (r:RangeV) (h:Hp) (rv:Value),0≤keys→keys+((8 ^ (lv+1):Nat):Int)≤4611686018427387904→RangeIn h rv r→RU8 r→RLen 24 r→∀(F:Pr) (w:World),OwnL (ckL c v mb s M keys [Pr.own h,F]) w→
 Calls Tryz.prog 43 #[.pointer (some ⟨c,0,none⟩),.int .i64 n,.int .i64 lv,.int .i64 least,rv] w fun e w'=>Stays w w'∧e= .returned (.int .i64 (pageK look lv n least r (M,keys)).1)∧OwnL (ckL c v mb s (pageK look lv n least r (M,keys)).2.1 (pageK look lv n least r (M,keys)).2.2 [Pr.own h,F]) w'
theorem page_leaf(v:Nat)(s:VaultS)(look:Int→Option PageV)(hl:Looks s look)(okp:PgsOk look):PageC v s look 0:=by
 intro c mb M keys n least r h rv hk0 hk1 hr ur nr F w hF;obtain⟨lo,hi,rfl,hlo,hhi⟩:=id hr;obtain⟨rl,dl,rfl,_⟩:=bytes_rd hlo;obtain⟨rh,dh,rfl,_⟩:=bytes_rd hhi;have hs0:=hF.alloc (rangeC (.slice rl r.lo.length dl) (.slice rh r.hi.length dh) r.op)
 have EN:=hQ (enter_any c v mb s look hl M keys n _ _ (OwnL.in3 (hs0.pull3 (A1:=VaultA v s) (A2:=Pr.pts c (ckC v mb keys)) (A3:=MapA Tryz.prog 3 mb (metF M)))));have HST:=hQ ((Stays.refl w).alloc (rangeC (.slice rl r.lo.length dl) (.slice rh r.hi.length dh) r.op));have HR:=hQ (And.intro hr (And.intro ur nr));have HL:=hQ (And.intro hl okp);have HK:=hQ (And.intro hk0 hk1);have c1:=hs0.facts
 simp only [CellsAt,Nat.reduceAdd,and_true] at c1;clear hF hs0 hlo hhi hr ur nr hl okp hk0 hk1;rw [show ((0:Nat):Int)=0 from rfl];go_enter Tryz.func43,Tryz.ntmps43
 go_wp2_with fail
 refine EN.out.mono ?_;rintro e w1 ⟨st1,(⟨hen,rfl,hs1⟩ | ⟨g,hp,tai,tad,tci,tcd,hen,rfl,hpg,hs1⟩)⟩
 · have hv:pageK look 0 n least r (M,keys)=(15,(M,keys)):=by
    unfold pageK;simp only [hen]
   have HV:=hQ hv;have hs2:=hs1.flat;have HST1:=hQ ((HST.out.trans st1).alloc (pageC 0 0 (.slice none 0 0) (.slice none 0 0) 0));have HE:=hQ ((hs2.alloc (pageC 0 0 (.slice none 0 0) (.slice none 0 0) 0)).to (M:=ckL c v mb s M keys [Pr.own h,F]));clear c1;have c1:=hs2.facts;simp only [CellsAt,Nat.reduceAdd,and_true] at c1;clear hs1 hs2 st1 EN hen hv HST;go_wp2;go_ret;rw [HV.out]
   exact⟨HST1.out,rfl,HE.out⟩
 · have hlk:look n=some g:=by
    unfold enterK at hen;split at hen
    · cases hen
    · exact hen
   have hcp:=HL.out.2.chk n g hlk;have hfm:=form_of_check hcp;have hfit:=fit_of_check hcp;have hu8:=HL.out.2.u8 n g hlk;dsimp only [pageV];have hs2:=hs1.flat;have hs3:=hs2.alloc (pageC g.kind g.level (.slice tai g.items.length tci) (.slice tad g.data.length tcd) g.next)
   have HST1:=hQ ((HST.out.trans st1).alloc (pageC g.kind g.level (.slice tai g.items.length tci) (.slice tad g.data.length tcd) g.next));clear c1;have c1:=hs2.facts;simp only [CellsAt,Nat.reduceAdd,and_true] at c1;have HPG:=hQ hpg;have HS3:=hQ hs3;clear hs1 hs2 hs3 st1 EN HST hpg;by_cases hkd:g.kind=1
   · obtain⟨hlev,hne⟩:=hfm.leaf hkd
     have bk1:(g.level != 0)=false:=by rw [hlev];rfl
     have bk2:(g.kind == 1)=true:=by rw [hkd];rfl
     have bk3:(g.kind == 3)=false:=by rw [hkd];rfl
     clear hlev;by_cases hle:(g.items.length:Int)<least
     · have hv:pageK look 0 n least r (M,keys)=(5,(n :: M,keys)):=by
        unfold pageK;simp only [hen];rw [if_neg (show ¬(g.kind≠1) from fun h=>h hkd),if_pos hle]
       have HV:=hQ hv;have HE:=hQ (HS3.out.to (M:=ckL c v mb s (n :: M) keys [Pr.own h,F]));clear hv hen HS3 hfm hkd;skip
       go_wp2;go_ret;rw [HV.out];exact⟨HST1.out,rfl,HE.out⟩
     · have hv:pageK look 0 n least r (M,keys)=foldK (fun i s=>itemK look (itemAt g.items i) r s) 0 g.items.length (n :: M,keys):=by
        conv=>lhs;unfold pageK
        simp only [hen];rw [if_neg (show ¬(g.kind≠1) from fun h=>h hkd),if_neg hle]
       have HV:=hQ hv;have HKK:=hQ hkd;clear hv hen hfm hkd;go_wp2;obtain⟨hd,hs5⟩:=Sat.own_join (HS3.out.pull2 (A1:=Pr.own hp) (A2:=Pr.own h));obtain⟨hu,hhu⟩:∃hu,hp.un h=hu:=⟨_,rfl⟩;have HU:=hQ (show Pr.own hu=(Pr.own hp).star (Pr.own h) from hhu ▸ own_un hd);have hsubh:h.sub hu:=hhu ▸ Hp.sub_un_right hd;have hsubp:hp.sub hu:=hhu ▸ Hp.sub_un_left hp h;rw [hhu] at hs5;have hs6:=OwnL.of1 hs5
       obtain⟨_,_,epv,hit,_⟩:=HPG.out.sub hsubp;simp only [pageV,Value.agg.injEq,Array.mk.injEq,List.cons.injEq,and_true,true_and] at epv;obtain⟨rfl,rfl⟩:=epv;obtain⟨_,_,e9,_,rd⟩:=items_rd hit;cases e9;have RD:=hQ rd;have HRU:=hQ (And.intro (HR.out.1.sub hsubh) HR.out.2);have HIT:=hQ hit;have HPK:=hQ (And.intro hcp (And.intro hfit (And.intro hu8 HKK.out)));generalize w1.heap.size=J at*
       generalize w.heap.size=BG at*;generalize w1.alloc (pageC g.kind g.level (.slice tai g.items.length tci) (.slice tad g.data.length tcd) g.next)=w2 at*
       have HS6:=hQ (hs6.to (M:=ckL c v mb s (n :: M) keys [Pr.pts J (pageC g.kind g.level (.slice tai g.items.length tci) (.slice tad g.data.length tcd) g.next),Pr.pts BG (rangeC (.slice rl r.lo.length dl) (.slice rh r.hi.length dh) r.op),Pr.own hu,F]));have hn8:g.items.length≤8:=hfit.n;have hn83:(g.items.length:Int)≤8:=by omega
       clear HS3 hs5 hs6 hit rd hcp hfit hu8 hd hhu hsubh hsubp HPG HR HKK;clear c1
       go_loopw [54] (fun t wr=> ∃(i:Nat) (Mi:List Int) (ki:Int),i≤g.items.length∧t= .int .i64 i∧Stays w wr∧Hid (pageK look 0 n least r (M,keys)=foldK (fun i s=>itemK look (itemAt g.items i) r s) i (g.items.length-i) (Mi,ki))∧Hid (keys≤ki∧ki≤keys+((i*(1):Nat):Int))∧OwnL (ckL c v mb s Mi ki [Pr.pts J (pageC g.kind g.level (.slice tai g.items.length tci) (.slice tad g.data.length tcd) g.next),Pr.pts BG (rangeC (.slice rl r.lo.length dl) (.slice rh r.hi.length dh) r.op),Pr.own hu,F]) wr) (fun t _=>g.items.length-(intOf t).toNat)
       case atStart=>exact⟨0,n :: M,keys,Nat.zero_le _,rfl,HST1.out,HV,hQ ⟨Int.le_refl _,by simp⟩,HS6.out⟩
       case round=>
        obtain⟨i,Mi,ki,hi,rfl,hst,heq,hkb,hsr⟩:=hrel;rename World=>wr
        clear HST1 HS6 HV;have HST:=hQ hst;have HSR:=hQ hsr;have c1:=hsr.facts;simp only [CellsAt,Nat.reduceAdd,and_true] at c1;rcases Nat.lt_or_ge i g.items.length with hlt | hge
        · obtain⟨b,off,ak,ck,av,cv,rfl,hbk,hbv,hc⟩:=RD.out i hlt
          obtain⟨d0,d1,d2,d3⟩:=hc wr (hsr.le (a:=hu));have zb:=World.block_lt_of_cell? _ _ d0;rw [← itemAt_get hlt] at hbk hbv d0 d1 d2 d3;obtain⟨hcp,hfit,hu8,hkd⟩:=HPK.out;have hym:=getD_mem hlt;have hy1:=hfit.k _ hym;have hy2:=hu8 _ hym;have hkb2:=hkb.out;have hkbn:=(itemK_keys look (itemAt g.items i) r (Mi,ki))
          have hpw:i*(1)+(1)≤8*(1):=by
           rw [← Nat.succ_mul];exact Nat.mul_le_mul_right _ (by omega)
          have hk9:=HK.out;have hsi:=hsr.alloc (.cells #[.slice ak (itemAt g.items i).key.length ck,.slice av (itemAt g.items i).value.length cv,.int .i64 (itemAt g.items i).child,.int .i64 (itemAt g.items i).size] 89);have hv5:=items_val g.kind g.items 0 [] (items_of_check hcp) _ hym
          have hsz:(itemAt g.items i).size≤3840:=by
           unfold valOk at hv5;rw [if_neg (by omega)] at hv5;split at hv5
           · omega
           · cases hv5
          have IC:=hQ (item_any c v mb s look HL.out.1 Mi ki (by omega) (itemAt g.items i) r hu _ _ ⟨_,_,rfl,hbk,hbv⟩ HRU.out.1 hy2 HRU.out.2.1 (by omega) hsz _ _ (OwnL.in4 (hsi.pull4 (A1:=VaultA v s) (A2:=Pr.pts c (ckC v mb ki)) (A3:=MapA Tryz.prog 3 mb (metF Mi)) (A4:=Pr.own hu))))
          have HSTI:=hQ (HST.out.alloc (.cells #[.slice ak (itemAt g.items i).key.length ck,.slice av (itemAt g.items i).value.length cv,.int .i64 (itemAt g.items i).child,.int .i64 (itemAt g.items i).size] 89))
          have HEQ:=hQ (heq.out.trans (show foldK (fun i s=>itemK look (itemAt g.items i) r s) i (g.items.length-i) (Mi,ki)=if(itemK look (itemAt g.items i) r (Mi,ki)).1≠0 then itemK look (itemAt g.items i) r (Mi,ki) else foldK (fun i s=>itemK look (itemAt g.items i) r s) (i+1) (g.items.length-(i+1)) (itemK look (itemAt g.items i) r (Mi,ki)).2 from by
           rw [show g.items.length-i=(g.items.length-(i+1))+1 by omega]
           rfl))
          have HKN:=hQ (show keys≤(itemK look (itemAt g.items i) r (Mi,ki)).2.2∧(itemK look (itemAt g.items i) r (Mi,ki)).2.2≤keys+(((i+1)*(1):Nat):Int) from by
           obtain⟨z1,z2⟩:=hkbn
           rw [Nat.succ_mul]
           simp only at z1 z2
           omega)
          have hil:(i:Int)<(g.items.length:Int):=by omega
          clear hst heq hkb hsr hbk hbv hc hcp hfit hu8 hkd hym hy1 hy2 hkb2 hkbn hpw hk9 hsi hv5 hsz HSR;generalize itemK look (itemAt g.items i) r (Mi,ki)=RE at*;generalize itemAt g.items i=y at*;go_wp2_with fail
          refine IC.out.mono ?_;rintro e w5 ⟨st5,rfl,hs5⟩;have hs6:=hs5.flat;have HSZ:=hQ hs6;have HSTZ:=hQ (HSTI.out.trans st5);clear c1 d0 d1 d2 d3 zb;have c1:=hs6.facts;simp only [CellsAt,Nat.reduceAdd,and_true] at c1;have HEQ2:=HEQ.out;clear hs5 hs6 st5 IC HSTI HEQ;by_cases he:RE.1=0
          · rw [he,if_neg (by simp)] at HEQ2
            have HEQ3:=hQ HEQ2;have HE9:=hQ (HSZ.out.to (M:=ckL c v mb s RE.2.1 RE.2.2 [Pr.pts J (pageC g.kind g.level (.slice (some ⟨b,off,none⟩) g.items.length tci) (.slice tad g.data.length tcd) g.next),Pr.pts BG (rangeC (.slice rl r.lo.length dl) (.slice rh r.hi.length dh) r.op),Pr.own hu,F]));rw [he];clear HEQ2 he;go_wp2;go_roundw
            case rel=>exact⟨i+1,RE.2.1,RE.2.2,by omega,congrArg (Value.int .i64) (by omega),HSTZ.out,HEQ3,HKN,HE9.out⟩
            case measure=>simp [intOf];omega
          · rw [if_pos he] at HEQ2
            have HQ:=hQ HEQ2;have hb1:(RE.1 != 0)=true:=bne_iff_ne.2 he;have hs9:=HSZ.out;have hs10:=hs9.pull1 (A1:=Pr.own hu);rw [HU.out] at hs10;have HE:=hQ ((OwnL.of1 hs10).norm.to (M:=ckL c v mb s RE.2.1 RE.2.2 [Pr.own h,F]));clear HEQ2 he hs9 hs10 HSZ;go_wp2;go_ret;rw [HQ.out];exact⟨HSTZ.out,rfl,HE.out⟩
        · have hie:i=g.items.length:=by omega
          have h0:foldK (fun i s=>itemK look (itemAt g.items i) r s) i (g.items.length-i) (Mi,ki)=(0,(Mi,ki)):=by
           rw [hie,Nat.sub_self];rfl
          have HQ:=hQ (heq.out.trans h0);have hs9:=HSR.out;have hs10:=hs9.pull1 (A1:=Pr.own hu);rw [HU.out] at hs10;have HE:=hQ ((OwnL.of1 hs10).norm.to (M:=ckL c v mb s Mi ki [Pr.own h,F]));clear hst heq hkb hsr hs9 hs10 h0 HSR;subst hie;go_wp2;go_ret;rw [HQ.out];exact⟨HST.out,rfl,HE.out⟩
   · have hv:pageK look 0 n least r (M,keys)=(15,(n :: M,keys)):=by
      unfold pageK;simp only [hen];rw [if_pos hkd]
     have HV:=hQ hv;have HE:=hQ (HS3.out.to (M:=ckL c v mb s (n :: M) keys [Pr.own h,F]));clear hv hen HS3;rcases hfm.kind with h1 | h1 | h1
     · exact absurd h1 hkd
     · have h2:=(hfm.index h1).1
       have h3:(g.level != 0)=true:=by rw [bne_iff_ne];omega
       clear hfm hkd h1 h2;go_wp2;go_ret;rw [HV.out];exact⟨HST1.out,rfl,HE.out⟩
     · have h2:=(hfm.blob h1).1
       have bk1:(g.level != 0)=false:=by rw [h2];rfl
       have bk2:(g.kind == 1)=false:=by rw [h1];rfl
       have bk3:(g.kind == 3)=true:=by rw [h1];rfl
       clear hfm h1 h2 hkd;go_wp2;go_ret;rw [HV.out];exact⟨HST1.out,rfl,HE.out⟩
end Go.Proofs.YtiegeadmgpanoaaGreatDoor.P7
namespace Go.Proofs.YtiegeadmgpanoaaGreatDoor.P7
open ChangeShapes WideShapes ChangeAt RowKit Sl Cop F3 G2 J2 Q3 V3 G4 X3 M5 N2 L6 N5 S5 K7 N7
theorem page_index(v:Nat)(s:VaultS)(look:Int→Option PageV)(hl:Looks s look)(okp:PgsOk look)(lv:Nat)(ih:PageC v s look lv):PageC v s look (lv+1):=by
 intro c mb M keys n least r h rv hk0 hk1 hr ur nr F w hF;obtain⟨lo,hi,rfl,hlo,hhi⟩:=id hr;obtain⟨rl,dl,rfl,_⟩:=bytes_rd hlo;obtain⟨rh,dh,rfl,_⟩:=bytes_rd hhi;have hs0:=hF.alloc (rangeC (.slice rl r.lo.length dl) (.slice rh r.hi.length dh) r.op)
 have EN:=hQ (enter_any c v mb s look hl M keys n _ _ (OwnL.in3 (hs0.pull3 (A1:=VaultA v s) (A2:=Pr.pts c (ckC v mb keys)) (A3:=MapA Tryz.prog 3 mb (metF M)))));have HST:=hQ ((Stays.refl w).alloc (rangeC (.slice rl r.lo.length dl) (.slice rh r.hi.length dh) r.op));have HR:=hQ (And.intro hr (And.intro ur nr));have HL:=hQ (And.intro hl okp);have HK:=hQ (And.intro hk0 hk1);have c1:=hs0.facts
 simp only [CellsAt,Nat.reduceAdd,and_true] at c1;clear hF hs0 hlo hhi hr ur nr hl okp hk0 hk1;have IH:=hQ ih;clear ih;have hlvi:((lv+1:Nat):Int)=(lv:Int)+1:=by omega
 rw [hlvi];go_enter Tryz.func43,Tryz.ntmps43
 go_wp2_with fail
 refine EN.out.mono ?_;rintro e w1 ⟨st1,(⟨hen,rfl,hs1⟩ | ⟨g,hp,tai,tad,tci,tcd,hen,rfl,hpg,hs1⟩)⟩
 · have hv:pageK look (lv+1) n least r (M,keys)=(15,(M,keys)):=by
    unfold pageK;simp only [hen]
   have HV:=hQ hv;have hs2:=hs1.flat;have HST1:=hQ ((HST.out.trans st1).alloc (pageC 0 0 (.slice none 0 0) (.slice none 0 0) 0));have HE:=hQ ((hs2.alloc (pageC 0 0 (.slice none 0 0) (.slice none 0 0) 0)).to (M:=ckL c v mb s M keys [Pr.own h,F]));clear c1;have c1:=hs2.facts;simp only [CellsAt,Nat.reduceAdd,and_true] at c1;clear hs1 hs2 st1 EN hen hv HST;go_wp2;go_ret;rw [HV.out]
   exact⟨HST1.out,rfl,HE.out⟩
 · have hlk:look n=some g:=by
    unfold enterK at hen;split at hen
    · cases hen
    · exact hen
   have hcp:=HL.out.2.chk n g hlk;have hfm:=form_of_check hcp;have hfit:=fit_of_check hcp;have hu8:=HL.out.2.u8 n g hlk;dsimp only [pageV];have hs2:=hs1.flat;have hs3:=hs2.alloc (pageC g.kind g.level (.slice tai g.items.length tci) (.slice tad g.data.length tcd) g.next)
   have HST1:=hQ ((HST.out.trans st1).alloc (pageC g.kind g.level (.slice tai g.items.length tci) (.slice tad g.data.length tcd) g.next));clear c1;have c1:=hs2.facts;simp only [CellsAt,Nat.reduceAdd,and_true] at c1;have HPG:=hQ hpg;have HS3:=hQ hs3;clear hs1 hs2 hs3 st1 EN HST hpg;by_cases hkd:g.kind=2∧g.level=(lv:Int)+1
   · obtain⟨hk2,hlev⟩:=hkd
     have bk1:(g.level != (lv:Int)+1)=false:=by rw [hlev];simp
     have bk2:(g.kind == 1)=false:=by rw [hk2];rfl
     have bk3:(g.kind == 3)=false:=by rw [hk2];rfl
     have hv0:((lv:Int)+1 == 0)=false:=by rw [beq_eq_false_iff_ne];omega
     by_cases hle:(g.items.length:Int)<least
     · have hv:pageK look (lv+1) n least r (M,keys)=(5,(n :: M,keys)):=by
        unfold pageK;simp only [hen];rw [if_neg (show ¬¬(g.kind=2∧g.level=(lv:Int)+1) from fun h=>h ⟨hk2,hlev⟩),if_pos hle]
       have HV:=hQ hv;have HE:=hQ (HS3.out.to (M:=ckL c v mb s (n :: M) keys [Pr.own h,F]));clear hv hen HS3 hfm hk2 hlev;skip
       go_wp2;go_ret;rw [HV.out];exact⟨HST1.out,rfl,HE.out⟩
     · have hv:pageK look (lv+1) n least r (M,keys)=foldK (fun i s=>pageK look lv (itemAt g.items i).child 4 (meetR r (ownR g.items i)) s) 0 g.items.length (n :: M,keys):=by
        conv=>lhs;unfold pageK
        simp only [hen];rw [if_neg (show ¬¬(g.kind=2∧g.level=(lv:Int)+1) from fun h=>h ⟨hk2,hlev⟩),if_neg hle]
       have HV:=hQ hv;have HKK:=hQ (And.intro hk2 hlev);clear hv hen hfm hk2 hlev;go_wp2;obtain⟨hd,hs5⟩:=Sat.own_join (HS3.out.pull2 (A1:=Pr.own hp) (A2:=Pr.own h));obtain⟨hu,hhu⟩:∃hu,hp.un h=hu:=⟨_,rfl⟩;have HU:=hQ (show Pr.own hu=(Pr.own hp).star (Pr.own h) from hhu ▸ own_un hd);have hsubh:h.sub hu:=hhu ▸ Hp.sub_un_right hd;have hsubp:hp.sub hu:=hhu ▸ Hp.sub_un_left hp h;rw [hhu] at hs5
       have hs6:=OwnL.of1 hs5;obtain⟨_,_,epv,hit,_⟩:=HPG.out.sub hsubp;simp only [pageV,Value.agg.injEq,Array.mk.injEq,List.cons.injEq,and_true,true_and] at epv;obtain⟨rfl,rfl⟩:=epv;obtain⟨_,_,e9,_,rd⟩:=items_rd hit;cases e9;have RD:=hQ rd;have HRU:=hQ (And.intro (HR.out.1.sub hsubh) HR.out.2);have HIT:=hQ hit;have HPK:=hQ (And.intro hcp (And.intro hfit (And.intro hu8 HKK.out)))
       generalize w1.heap.size=J at*;generalize w.heap.size=BG at*;generalize w1.alloc (pageC g.kind g.level (.slice tai g.items.length tci) (.slice tad g.data.length tcd) g.next)=w2 at*
       have HS6:=hQ (hs6.to (M:=ckL c v mb s (n :: M) keys [Pr.pts J (pageC g.kind g.level (.slice tai g.items.length tci) (.slice tad g.data.length tcd) g.next),Pr.pts BG (rangeC (.slice rl r.lo.length dl) (.slice rh r.hi.length dh) r.op),Pr.own hu,F]));have hn8:g.items.length≤8:=hfit.n;have hn83:(g.items.length:Int)≤8:=by omega
       clear HS3 hs5 hs6 hit rd hcp hfit hu8 hd hhu hsubh hsubp HPG HR HKK;clear c1
       go_loopw [54] (fun t wr=> ∃(i:Nat) (Mi:List Int) (ki:Int),i≤g.items.length∧t= .int .i64 i∧Stays w wr∧Hid (pageK look (lv+1) n least r (M,keys)=foldK (fun i s=>pageK look lv (itemAt g.items i).child 4 (meetR r (ownR g.items i)) s) i (g.items.length-i) (Mi,ki))∧Hid (keys≤ki∧ki≤keys+((i*(8 ^ (lv+1)):Nat):Int))∧OwnL (ckL c v mb s Mi ki [Pr.pts J (pageC g.kind g.level (.slice tai g.items.length tci) (.slice tad g.data.length tcd) g.next),Pr.pts BG (rangeC (.slice rl r.lo.length dl) (.slice rh r.hi.length dh) r.op),Pr.own hu,F]) wr) (fun t _=>g.items.length-(intOf t).toNat)
       case atStart=>exact⟨0,n :: M,keys,Nat.zero_le _,rfl,HST1.out,HV,hQ ⟨Int.le_refl _,by simp⟩,HS6.out⟩
       case round=>
        obtain⟨i,Mi,ki,hi,rfl,hst,heq,hkb,hsr⟩:=hrel;rename World=>wr
        clear HST1 HS6 HV;have HST:=hQ hst;have HSR:=hQ hsr;have c1:=hsr.facts;simp only [CellsAt,Nat.reduceAdd,and_true] at c1;rcases Nat.lt_or_ge i g.items.length with hlt | hge
        · obtain⟨b,off,ak,ck,av,cv,rfl,hbk,hbv,hc⟩:=RD.out i hlt
          obtain⟨d0,d1,d2,d3⟩:=hc wr (hsr.le (a:=hu));have zb:=World.block_lt_of_cell? _ _ d0;rw [← itemAt_get hlt] at hbk hbv d0 d1 d2 d3;obtain⟨hcp,hfit,hu8,hkd⟩:=HPK.out;have hym:=getD_mem hlt;have hy1:=hfit.k _ hym;have hy2:=hu8 _ hym;have hkb2:=hkb.out;have hkbn:=(pageK_keys (fun n g h=>(fit_of_check (HL.out.2.chk n g h)).n) lv (itemAt g.items i).child 4 (meetR r (ownR g.items i)) (Mi,ki))
          have hpw:i*(8 ^ (lv+1))+(8 ^ (lv+1))≤8*(8 ^ (lv+1)):=by
           rw [← Nat.succ_mul];exact Nat.mul_le_mul_right _ (by omega)
          have hk9:=HK.out;have hlvb:(lv:Int)≤11:=by have:=(form_of_check hcp).index hkd.1;omega
          have hou:RU8 (ownR g.items i):=ownR_u8 hu8 i;have hon:RLen 24 (ownR g.items i):=ownR_len (fun x hx=>(hfit.k x hx).1) i;have HRM:=hQ (And.intro (meetR_u8 HRU.out.2.1 hou) (meetR_len HRU.out.2.2 hon));have HRO:=hQ (And.intro hou hon)
          have HIA:=hQ (fun(h:Hp) (rv:Value) h3 (G:Pr) (wx:World) hF=>IH.out c mb Mi ki (itemAt g.items i).child 4 (meetR r (ownR g.items i)) h rv (by omega) (by omega) h3 HRM.out.1 HRM.out.2 G wx hF)
          have HSTI:=hQ ((HST.out.alloc (.cells #[.slice ak (itemAt g.items i).key.length ck,.slice av (itemAt g.items i).value.length cv,.int .i64 (itemAt g.items i).child,.int .i64 (itemAt g.items i).size] 89)).alloc (rangeC (.slice ak (itemAt g.items i).key.length ck) (.slice none 0 0) true))
          have hsi:=(hsr.alloc (.cells #[.slice ak (itemAt g.items i).key.length ck,.slice av (itemAt g.items i).value.length cv,.int .i64 (itemAt g.items i).child,.int .i64 (itemAt g.items i).size] 89)).alloc (rangeC (.slice ak (itemAt g.items i).key.length ck) (.slice none 0 0) true)
          rw [show (wr.alloc (.cells #[.slice ak (itemAt g.items i).key.length ck,.slice av (itemAt g.items i).value.length cv,.int .i64 (itemAt g.items i).child,.int .i64 (itemAt g.items i).size] 89)).heap.size=wr.heap.size+1 by simp] at hsi
          have HEQ:=hQ (heq.out.trans (show foldK (fun i s=>pageK look lv (itemAt g.items i).child 4 (meetR r (ownR g.items i)) s) i (g.items.length-i) (Mi,ki)=if(pageK look lv (itemAt g.items i).child 4 (meetR r (ownR g.items i)) (Mi,ki)).1≠0 then pageK look lv (itemAt g.items i).child 4 (meetR r (ownR g.items i)) (Mi,ki) else foldK (fun i s=>pageK look lv (itemAt g.items i).child 4 (meetR r (ownR g.items i)) s) (i+1) (g.items.length-(i+1)) (pageK look lv (itemAt g.items i).child 4 (meetR r (ownR g.items i)) (Mi,ki)).2 from by
           rw [show g.items.length-i=(g.items.length-(i+1))+1 by omega]
           rfl))
          have HKN:=hQ (show keys≤(pageK look lv (itemAt g.items i).child 4 (meetR r (ownR g.items i)) (Mi,ki)).2.2∧(pageK look lv (itemAt g.items i).child 4 (meetR r (ownR g.items i)) (Mi,ki)).2.2≤keys+(((i+1)*(8 ^ (lv+1)):Nat):Int) from by
           obtain⟨z1,z2⟩:=hkbn
           rw [Nat.succ_mul]
           simp only at z1 z2
           omega)
          have hil:(i:Int)<(g.items.length:Int):=by omega
          rcases Nat.lt_or_ge (i+1) g.items.length with hnx | hnx
          · obtain⟨b2,off2,ak2,ck2,av2,cv2,eb2,hbk2,hbv2,hc2⟩:=RD.out (i+1) hnx
            obtain⟨e0,_,_,_⟩:=hc2 wr (hsr.le (a:=hu));simp only [Option.some.injEq,Addr.mk.injEq,and_true] at eb2;obtain⟨rfl,rfl⟩:=eb2;rw [← itemAt_get hnx] at hbk2 e0
            have HOW:=hQ (show RangeIn hu (.agg #[(.slice ak (itemAt g.items i).key.length ck),(.slice ak2 (itemAt g.items (i+1)).key.length ck2),.bool false]) (ownR g.items i) from by
             rw [show ownR g.items i=⟨(itemAt g.items i).key,(itemAt g.items (i+1)).key,false⟩ from if_pos hnx]
             exact⟨_,_,rfl,hbk,hbk2⟩)
            have HSTJ:=hQ (((HST.out.alloc (.cells #[.slice ak (itemAt g.items i).key.length ck,.slice av (itemAt g.items i).value.length cv,.int .i64 (itemAt g.items i).child,.int .i64 (itemAt g.items i).size] 89)).alloc (rangeC (.slice ak (itemAt g.items i).key.length ck) (.slice ak2 (itemAt g.items (i+1)).key.length ck2) false)).drew)
            have hsj:=((hsr.alloc (.cells #[.slice ak (itemAt g.items i).key.length ck,.slice av (itemAt g.items i).value.length cv,.int .i64 (itemAt g.items i).child,.int .i64 (itemAt g.items i).size] 89)).alloc (rangeC (.slice ak (itemAt g.items i).key.length ck) (.slice ak2 (itemAt g.items (i+1)).key.length ck2) false)).drew
            rw [show (wr.alloc (.cells #[.slice ak (itemAt g.items i).key.length ck,.slice av (itemAt g.items i).value.length cv,.int .i64 (itemAt g.items i).child,.int .i64 (itemAt g.items i).size] 89)).heap.size=wr.heap.size+1 by simp] at hsj;have hnx2:(i:Int)+1<(g.items.length:Int):=by omega
            clear hbk2 hbv2 hc2;have MT:=hQ (meet_any hu _ _ r (ownR g.items i) HRU.out.1 HOW.out HRU.out.2.1 HRO.out.1 ⟨by have:=HRU.out.2.2.lo;omega,by have:=HRU.out.2.2.hi;omega⟩ ⟨by have:=HRO.out.2.lo;omega,by have:=HRO.out.2.hi;omega⟩ _ _ (hsj.drew.pull1 (A1:=Pr.own hu)));clear hst heq hkb hsr hbk hbv hc hcp hfit hu8 hkd hym hy1 hy2 hkb2 hkbn hpw hk9 hsi hsj HSR hou hon HSTI HOW
            generalize pageK look lv (itemAt g.items i).child 4 (meetR r (ownR g.items i)) (Mi,ki)=RE at*;generalize ownR g.items i=RO at*;generalize itemAt g.items (i+1)=y2 at*;generalize itemAt g.items i=y at*;go_wp2;refine wS 96 [0,1,2,3,4,5,6,7] [(8,[9],[0,1,2,3,4,5,6]),(10,[],[])] ?_;refine wpQ_all _ rfl rfl ?_;simp only [pick,pQ];iterate 8 (go_big_quiet_step (fail))
            refine wpQuiet_nil ?_;refine wpRest_act rfl ?_;go_wp2;refine onN_mk ?_;refine wpQ_all _ rfl rfl ?_;simp only [pick,pQ];iterate 1 (go_big_quiet_step (fail))
            refine wpQuiet_nil ⟨?_,?_⟩
            · exact cQ
            refine wpRest_act rfl ?_;go_wp2;refine onN_mk ?_;refine wpQ_nil ⟨?_,?_⟩
            · exact chk_nil
            refine wpRest_nil ?_;go_wp2;refine wS 96 [0,1,2,3,4,5,6] [(7,[],[0,1,2,3,4]),(8,[9],[1,3])] ?_;refine wpQ_all _ rfl rfl ?_;simp only [pick,pQ];iterate 7 (go_big_quiet_step (fail))
            refine wpQuiet_nil ?_;refine wpRest_act rfl ?_;go_wp2_with fail
            refine MT.out.mono ?_;rintro e w5 ⟨st5,hm,rvm,rfl,hrm,hs5⟩;have hs6:=OwnL.of2 hs5;have PC:=hQ (HIA.out hm rvm hrm _ _ (OwnL.in4 (hs6.pull4 (A1:=VaultA v s) (A2:=Pr.pts c (ckC v mb ki)) (A3:=MapA Tryz.prog 3 mb (metF Mi)) (A4:=Pr.own hm))));have HSTM:=hQ (HSTJ.out.drew.trans st5);clear c1 d0 d1 d2 d3 zb MT HSTJ e0;have c1:=hs6.facts;simp only [CellsAt,Nat.reduceAdd,and_true] at c1
            clear hs5 hs6 st5 hrm;go_wp2;refine onN_mk ?_;refine wpQ_nil ⟨?_,?_⟩
            · exact cQ
            refine wpRest_act rfl ?_;go_wp2_with fail
            refine PC.out.mono ?_;rintro e w6 ⟨st6,rfl,hs7⟩;have hs8:=hs7.flat;have HSZ:=hQ hs8;have HSTZ:=hQ (HSTM.out.trans st6);clear c1;have c1:=hs8.facts;simp only [CellsAt,Nat.reduceAdd,and_true] at c1;have HEQ2:=HEQ.out;clear hs7 hs8 st6 PC HSTM HEQ HIA;go_wp2;refine onN_mk ?_;refine wpQ_all _ rfl rfl ?_;simp only [pick,pQ];iterate 1 (go_big_quiet_step (fail))
            refine wpQuiet_nil ⟨?_,?_⟩
            · exact cQ
            refine wpRest_nil ?_;by_cases he:RE.1=0
            · rw [he,if_neg (by simp)] at HEQ2
              have HEQ3:=hQ HEQ2;have HE9:=hQ (HSZ.out.to (M:=ckL c v mb s RE.2.1 RE.2.2 [Pr.pts J (pageC g.kind g.level (.slice (some ⟨b,off,none⟩) g.items.length tci) (.slice tad g.data.length tcd) g.next),Pr.pts BG (rangeC (.slice rl r.lo.length dl) (.slice rh r.hi.length dh) r.op),Pr.own hu,F]));rw [he];clear HEQ2 he;go_wp2;go_roundw
              case rel=>exact⟨i+1,RE.2.1,RE.2.2,by omega,congrArg (Value.int .i64) (by omega),HSTZ.out,HEQ3,HKN,HE9.out⟩
              case measure=>simp [intOf];omega
            · rw [if_pos he] at HEQ2
              have HQ:=hQ HEQ2;have hb1:(RE.1 != 0)=true:=bne_iff_ne.2 he;have hs9:=HSZ.out;have hs10:=hs9.pull1 (A1:=Pr.own hu);rw [HU.out] at hs10;have HE:=hQ ((OwnL.of1 hs10).norm.to (M:=ckL c v mb s RE.2.1 RE.2.2 [Pr.own h,F]));clear HEQ2 he hs9 hs10 HSZ;go_wp2;go_ret;rw [HQ.out];exact⟨HSTZ.out,rfl,HE.out⟩
          · have HOW:=hQ (show RangeIn hu (.agg #[(.slice ak (itemAt g.items i).key.length ck),.slice none 0 0,.bool true]) (ownR g.items i) from by
             rw [show ownR g.items i=⟨(itemAt g.items i).key,[],true⟩ from if_neg (by omega)]
             exact⟨_,_,rfl,hbk,RowIn.nil _ _⟩)
            have hsj:=hsi;have HSTJ:=HSTI;have hnx2:¬((i:Int)+1<(g.items.length:Int)):=by omega
            have MT:=hQ (meet_any hu _ _ r (ownR g.items i) HRU.out.1 HOW.out HRU.out.2.1 HRO.out.1 ⟨by have:=HRU.out.2.2.lo;omega,by have:=HRU.out.2.2.hi;omega⟩ ⟨by have:=HRO.out.2.lo;omega,by have:=HRO.out.2.hi;omega⟩ _ _ (hsj.drew.pull1 (A1:=Pr.own hu)));clear hst heq hkb hsr hbk hbv hc hcp hfit hu8 hkd hym hy1 hy2 hkb2 hkbn hpw hk9 hsi hsj HSR hou hon HSTI HOW
            generalize pageK look lv (itemAt g.items i).child 4 (meetR r (ownR g.items i)) (Mi,ki)=RE at*;generalize ownR g.items i=RO at*;generalize itemAt g.items i=y at*;go_wp2;refine wS 96 [0,1,2,3,4,5,6] [(7,[],[0,1,2,3,4]),(8,[9],[1,3])] ?_;refine wpQ_all _ rfl rfl ?_;simp only [pick,pQ];iterate 7 (go_big_quiet_step (fail))
            refine wpQuiet_nil ?_;refine wpRest_act rfl ?_;go_wp2_with fail
            refine MT.out.mono ?_;rintro e w5 ⟨st5,hm,rvm,rfl,hrm,hs5⟩;have hs6:=OwnL.of2 hs5;have PC:=hQ (HIA.out hm rvm hrm _ _ (OwnL.in4 (hs6.pull4 (A1:=VaultA v s) (A2:=Pr.pts c (ckC v mb ki)) (A3:=MapA Tryz.prog 3 mb (metF Mi)) (A4:=Pr.own hm))));have HSTM:=hQ (HSTJ.out.drew.trans st5);clear c1 d0 d1 d2 d3 zb MT HSTJ;have c1:=hs6.facts;simp only [CellsAt,Nat.reduceAdd,and_true] at c1
            clear hs5 hs6 st5 hrm;go_wp2;refine onN_mk ?_;refine wpQ_nil ⟨?_,?_⟩
            · exact cQ
            refine wpRest_act rfl ?_;go_wp2_with fail
            refine PC.out.mono ?_;rintro e w6 ⟨st6,rfl,hs7⟩;have hs8:=hs7.flat;have HSZ:=hQ hs8;have HSTZ:=hQ (HSTM.out.trans st6);clear c1;have c1:=hs8.facts;simp only [CellsAt,Nat.reduceAdd,and_true] at c1;have HEQ2:=HEQ.out;clear hs7 hs8 st6 PC HSTM HEQ HIA;go_wp2;refine onN_mk ?_;refine wpQ_all _ rfl rfl ?_;simp only [pick,pQ];iterate 1 (go_big_quiet_step (fail))
            refine wpQuiet_nil ⟨?_,?_⟩
            · exact cQ
            refine wpRest_nil ?_;by_cases he:RE.1=0
            · rw [he,if_neg (by simp)] at HEQ2
              have HEQ3:=hQ HEQ2;have HE9:=hQ (HSZ.out.to (M:=ckL c v mb s RE.2.1 RE.2.2 [Pr.pts J (pageC g.kind g.level (.slice (some ⟨b,off,none⟩) g.items.length tci) (.slice tad g.data.length tcd) g.next),Pr.pts BG (rangeC (.slice rl r.lo.length dl) (.slice rh r.hi.length dh) r.op),Pr.own hu,F]));rw [he];clear HEQ2 he;go_wp2;go_roundw
              case rel=>exact⟨i+1,RE.2.1,RE.2.2,by omega,congrArg (Value.int .i64) (by omega),HSTZ.out,HEQ3,HKN,HE9.out⟩
              case measure=>simp [intOf];omega
            · rw [if_pos he] at HEQ2
              have HQ:=hQ HEQ2;have hb1:(RE.1 != 0)=true:=bne_iff_ne.2 he;have hs9:=HSZ.out;have hs10:=hs9.pull1 (A1:=Pr.own hu);rw [HU.out] at hs10;have HE:=hQ ((OwnL.of1 hs10).norm.to (M:=ckL c v mb s RE.2.1 RE.2.2 [Pr.own h,F]));clear HEQ2 he hs9 hs10 HSZ;go_wp2;go_ret;rw [HQ.out];exact⟨HSTZ.out,rfl,HE.out⟩
        · have hie:i=g.items.length:=by omega
          have h0:foldK (fun i s=>pageK look lv (itemAt g.items i).child 4 (meetR r (ownR g.items i)) s) i (g.items.length-i) (Mi,ki)=(0,(Mi,ki)):=by
           rw [hie,Nat.sub_self];rfl
          have HQ:=hQ (heq.out.trans h0);have hs9:=HSR.out;have hs10:=hs9.pull1 (A1:=Pr.own hu);rw [HU.out] at hs10;have HE:=hQ ((OwnL.of1 hs10).norm.to (M:=ckL c v mb s Mi ki [Pr.own h,F]));clear hst heq hkb hsr hs9 hs10 h0 HSR;subst hie;go_wp2;go_ret;rw [HQ.out];exact⟨HST.out,rfl,HE.out⟩
   · have hv:pageK look (lv+1) n least r (M,keys)=(15,(n :: M,keys)):=by
      unfold pageK;simp only [hen];rw [if_pos hkd]
     have HV:=hQ hv;have HE:=hQ (HS3.out.to (M:=ckL c v mb s (n :: M) keys [Pr.own h,F]));clear hv hen HS3;by_cases hle:g.level=(lv:Int)+1
     · have hk1:g.kind≠2:=fun e=>hkd ⟨e,hle⟩
       exfalso;rcases hfm.kind with h1 | h1 | h1
       · have:=(hfm.leaf h1).1;omega
       · exact hk1 h1
       · have:=(hfm.blob h1).1;omega
     · have h3:(g.level != (lv:Int)+1)=true:=bne_iff_ne.2 hle
       clear hfm hkd hle;go_wp2;go_ret;rw [HV.out];exact⟨HST1.out,rfl,HE.out⟩
end Go.Proofs.YtiegeadmgpanoaaGreatDoor.P7
namespace Go.Proofs.YtiegeadmgpanoaaGreatDoor.T7
open ChangeShapes WideShapes ChangeAt RowKit Sl Cop F3 G2 J2 Q3 V3 X3 M5 L6 N2 N5 S5 B6 K7 N7
theorem rwithin_any(h:Hp)(pv rv:Value)(g:PageV)(hp:PageIn h pv g)(i:Nat)(hi:i<g.items.length)(hfit:Fit g)(r:RangeV)(hr:RangeIn h rv r)(nr:RLen 24 r)(F:Pr)(w:World)(hF:Sat ((Pr.own h).star F) w):
 Calls Tryz.prog 80 #[pv,.int .i64 i,rv] w fun e w'=>Stays w w'∧∃h' rv',e= .returned rv'∧RangeIn h' rv' (meetR r (ownR g.items i))∧Sat ((Pr.own h').star ((Pr.own h).star F)) w':=by
 obtain⟨vi,vd,rfl,hit,hb⟩:=hp;obtain⟨tad,tcd,rfl⟩:=bytes_shape hb;obtain⟨tai,tci,rfl,_,rd⟩:=items_rd hit;obtain⟨b,off,ak,ck,av,cv,rfl,hbk,hbv,hc⟩:=rd i hi;obtain⟨lo,hi',rfl,hlo,hhi⟩:=id hr;obtain⟨rl,dl,rfl,_⟩:=bytes_rd hlo;obtain⟨rh,dh,rfl,_⟩:=bytes_rd hhi;have hF1:=OwnL.in1 hF;have hle:=hF1.le (a:=h);rw [← itemAt_get hi] at hbk;have hn8:g.items.length≤8:=hfit.n
 have hil:(i:Int)<(g.items.length:Int):=by omega
 have hon:RLen 24 (ownR g.items i):=ownR_len (fun x hx=>(hfit.k x hx).1) i;have HR:=hQ (And.intro hr (And.intro nr hon));have hs0:=((hF1.alloc (pageC g.kind g.level (.slice (some ⟨b,off,none⟩) g.items.length tci) (.slice tad g.data.length tcd) g.next)).alloc (rangeC (.slice rl r.lo.length dl) (.slice rh r.hi.length dh) r.op)).alloc (rangeC (.slice none 0 0) (.slice none 0 0) false)
 have z1:(w.alloc (pageC g.kind g.level (.slice (some ⟨b,off,none⟩) g.items.length tci) (.slice tad g.data.length tcd) g.next)).heap.size=w.heap.size+1:=by simp
 have z2:((w.alloc (pageC g.kind g.level (.slice (some ⟨b,off,none⟩) g.items.length tci) (.slice tad g.data.length tcd) g.next)).alloc (rangeC (.slice rl r.lo.length dl) (.slice rh r.hi.length dh) r.op)).heap.size=w.heap.size+1+1:=by simp
 have z3:(((w.alloc (pageC g.kind g.level (.slice (some ⟨b,off,none⟩) g.items.length tci) (.slice tad g.data.length tcd) g.next)).alloc (rangeC (.slice rl r.lo.length dl) (.slice rh r.hi.length dh) r.op)).alloc (rangeC (.slice none 0 0) (.slice none 0 0) false)).heap.size=w.heap.size+1+1+1:=by simp
 rw [z2,z1] at hs0;obtain⟨d0,_,_,_⟩:=hc _ (hs0.le (a:=h));rw [← itemAt_get hi] at d0;dsimp only [pageC,rangeC] at d0;have st0:=(((Stays.refl w).alloc (pageC g.kind g.level (.slice (some ⟨b,off,none⟩) g.items.length tci) (.slice tad g.data.length tcd) g.next)).alloc (rangeC (.slice rl r.lo.length dl) (.slice rh r.hi.length dh) r.op)).alloc (rangeC (.slice none 0 0) (.slice none 0 0) false)
 rcases Nat.lt_or_ge (i+1) g.items.length with hnx | hnx
 · obtain⟨b2,off2,ak2,ck2,av2,cv2,eb2,hbk2,hbv2,hc2⟩:=rd (i+1) hnx
   obtain⟨e0,_,_,_⟩:=hc2 _ ((hs0.alloc (rangeC (.slice ak (itemAt g.items i).key.length ck) (.slice none 0 0) false)).le (a:=h));dsimp only [pageC,rangeC] at e0;simp only [Option.some.injEq,Addr.mk.injEq,and_true] at eb2;obtain⟨rfl,rfl⟩:=eb2;rw [← itemAt_get hnx] at hbk2 e0
   have HOW:=hQ (show RangeIn h (.agg #[.slice ak (itemAt g.items i).key.length ck,.slice ak2 (itemAt g.items (i+1)).key.length ck2,.bool false]) (ownR g.items i) from by
    rw [show ownR g.items i=⟨(itemAt g.items i).key,(itemAt g.items (i+1)).key,false⟩ from if_pos hnx]
    exact⟨_,_,rfl,hbk,hbk2⟩)
   have hs1:=hs0.alloc (rangeC (.slice ak (itemAt g.items i).key.length ck) (.slice ak2 (itemAt g.items (i+1)).key.length ck2) false);rw [z3] at hs1;have hnx2:(i:Int)+1<(g.items.length:Int):=by omega
   have HST:=hQ (st0.alloc (rangeC (.slice ak (itemAt g.items i).key.length ck) (.slice ak2 (itemAt g.items (i+1)).key.length ck2) false));have MT:=hQ (rmeet_any h _ _ r (ownR g.items i) HR.out.1 HOW.out ⟨by have:=HR.out.2.1.lo;omega,by have:=HR.out.2.1.hi;omega⟩ ⟨by have:=HR.out.2.2.lo;omega,by have:=HR.out.2.2.hi;omega⟩ _ _ (hs1.pull1 (A1:=Pr.own h)))
   clear z1 z2 z3 hF1 hF hs0 hs1 st0 rd hc hbk hbv hit hb hlo hhi hr nr hon hfit hbk2 hbv2 hc2;generalize ownR g.items i=RO at*;generalize itemAt g.items (i+1)=y2 at*;generalize itemAt g.items i=y at*;go_enter Tryz.func80,Tryz.ntmps80
   go_wp2_with fail
   refine MT.out.mono ?_;rintro e w5 ⟨st5,hm,rvm,rfl,hrm,hs5⟩;obtain⟨_,_,rfl,hml,hmh⟩:=id hrm;obtain⟨al,cl,rfl,_⟩:=bytes_rd hml;obtain⟨ah,ch,rfl,_⟩:=bytes_rd hmh;clear hml hmh;generalize hRM:meetR r RO=RM at*;have HQ:=hQ hRM;clear hRM;have hs6:=OwnL.of2 hs5;have HST5:=hQ (HST.out.trans st5);have HRM:=hQ hrm;have HS6:=hQ hs6;clear d0 e0 MT;have c1:=hs6.facts
   simp only [CellsAt,Nat.reduceAdd,and_true] at c1;clear hs5 hs6 st5 hrm HOW HR HST;generalize w.heap.size+1+1+1=BO at*;generalize w.heap.size+1+1=BR at*;go_wp2;have h5:=((HS6.out.set BR 0 (.slice al RM.lo.length cl)).set BR 1 (.slice ah RM.hi.length ch)).set BR 2 (.bool RM.op)
   have HST9:=hQ (((HST5.out.setCell ⟨BR,0,none⟩ (.slice al RM.lo.length cl)).setCell ⟨BR,1,none⟩ (.slice ah RM.hi.length ch)).setCell ⟨BR,2,none⟩ (.bool RM.op));refine bodyPost_ret (results_cell_row rfl _ _ BR _ _ _ _ rfl (h5.pts BR).pts_heap Tryz.underlying64 rfl sizeRange) rfl ?_
   exact⟨HST9.out,hm,_,rfl,by rw [HQ.out];exact HRM.out,(h5.to (M:= [Pr.own hm,Pr.own h,F])).sat.perm (by simp only [starL,Pr.star_emp])⟩
 · have HOW:=hQ (show RangeIn h (.agg #[.slice ak (itemAt g.items i).key.length ck,.slice none 0 0,.bool true]) (ownR g.items i) from by
    rw [show ownR g.items i=⟨(itemAt g.items i).key,[],true⟩ from if_neg (by omega)]
    exact⟨_,_,rfl,hbk,RowIn.nil _ _⟩)
   have hs1:=hs0.alloc (rangeC (.slice ak (itemAt g.items i).key.length ck) (.slice none 0 0) true);rw [z3] at hs1;have hnx2:¬((i:Int)+1<(g.items.length:Int)):=by omega
   have HST:=hQ (st0.alloc (rangeC (.slice ak (itemAt g.items i).key.length ck) (.slice none 0 0) true));have MT:=hQ (rmeet_any h _ _ r (ownR g.items i) HR.out.1 HOW.out ⟨by have:=HR.out.2.1.lo;omega,by have:=HR.out.2.1.hi;omega⟩ ⟨by have:=HR.out.2.2.lo;omega,by have:=HR.out.2.2.hi;omega⟩ _ _ (hs1.pull1 (A1:=Pr.own h)));clear z1 z2 z3 hF1 hF hs0 hs1 st0 rd hc hbk hbv hit hb hlo hhi hr nr hon hfit
   generalize ownR g.items i=RO at*;generalize itemAt g.items i=y at*;go_enter Tryz.func80,Tryz.ntmps80
   go_wp2_with fail
   refine MT.out.mono ?_;rintro e w5 ⟨st5,hm,rvm,rfl,hrm,hs5⟩;obtain⟨_,_,rfl,hml,hmh⟩:=id hrm;obtain⟨al,cl,rfl,_⟩:=bytes_rd hml;obtain⟨ah,ch,rfl,_⟩:=bytes_rd hmh;clear hml hmh;generalize hRM:meetR r RO=RM at*;have HQ:=hQ hRM;clear hRM;have hs6:=OwnL.of2 hs5;have HST5:=hQ (HST.out.trans st5);have HRM:=hQ hrm;have HS6:=hQ hs6;clear d0 MT;have c1:=hs6.facts
   simp only [CellsAt,Nat.reduceAdd,and_true] at c1;clear hs5 hs6 st5 hrm HOW HR HST;generalize w.heap.size+1+1+1=BO at*;generalize w.heap.size+1+1=BR at*;go_wp2;have h5:=((HS6.out.set BR 0 (.slice al RM.lo.length cl)).set BR 1 (.slice ah RM.hi.length ch)).set BR 2 (.bool RM.op)
   have HST9:=hQ (((HST5.out.setCell ⟨BR,0,none⟩ (.slice al RM.lo.length cl)).setCell ⟨BR,1,none⟩ (.slice ah RM.hi.length ch)).setCell ⟨BR,2,none⟩ (.bool RM.op));refine bodyPost_ret (results_cell_row rfl _ _ BR _ _ _ _ rfl (h5.pts BR).pts_heap Tryz.underlying64 rfl sizeRange) rfl ?_
   exact⟨HST9.out,hm,_,rfl,by rw [HQ.out];exact HRM.out,(h5.to (M:= [Pr.own hm,Pr.own h,F])).sat.perm (by simp only [starL,Pr.star_emp])⟩
end Go.Proofs.YtiegeadmgpanoaaGreatDoor.T7
