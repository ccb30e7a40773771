/- The program's checker looks at a page and at all beneath it; the conditions stand as hypotheses. -/
import Derived.Test.YtiegeadmgpanoaaGreatDoorL33
import Derived.Test.YtiegeadmgpanoaaGreatDoorL27
set_option maxRecDepth 100000
set_option maxHeartbeats 16000000
namespace Go.fB
theorem sZ(look:Int→Option dR)(x:en)(r:fw)(s:nm):s.2≤(g_ look x r s).2.2∧(g_ look x r s).2.2≤s.2+1:=by
 unfold g_;split
 · exact⟨aY _,by show s.2≤s.2+1;omega⟩
 · split
   · exact⟨by show s.2≤s.2+1;omega,aY _⟩
   · exact⟨by show s.2≤s.2+1;omega,aY _⟩
theorem s_ {step:Nat→nm→Int × nm}(B:Nat)(hs:∀i s,s.2≤(step i s).2.2∧(step i s).2.2≤s.2+(B:Int)):∀(k i:Nat) (s:nm),s.2≤(jE step i k s).2.2∧(jE step i k s).2.2≤s.2+((k*B:Nat):Int)
 | 0,i,s=>⟨aY _,by simp [jE]⟩
 | k+1,i,s=>by
   obtain⟨h1,h2⟩:=hs i s;have e:(((k+1)*B:Nat):Int)=((k*B:Nat):Int)+(B:Int):=by rw [Nat.add_mul,Nat.one_mul,Int.natCast_add]
   have e0:(0:Int)≤((k*B:Nat):Int):=by omega
   unfold jE;split
   · exact⟨h1,by omega⟩
   · obtain⟨h3,h4⟩:=s_ B hs k (i+1) (step i s).2
     exact⟨by omega,by omega⟩
theorem qh {look:Int→Option dR}(hn:∀n g,look n=some g→g.items.length≤8):∀(lv:Nat) (n least:Int) (r:fw) (s:nm),s.2≤(fq look lv n least r s).2.2∧(fq look lv n least r s).2.2≤s.2+((8 ^ (lv+1):Nat):Int)
 | 0,n,least,r,s=>by
   unfold fq;cases he:gy look s.1 n with
   | none=>exact⟨aY _,by show s.2≤s.2+8;omega⟩
   | some g=>
     have hl:g.items.length≤8:=by
      unfold gy at he;split at he
      · cases he
      · exact hn n g he
     simp only;split
     · exact⟨aY _,by show s.2≤s.2+8;omega⟩
     · split
       · exact⟨aY _,by show s.2≤s.2+8;omega⟩
       · obtain⟨h1,h2⟩:=s_ (step:=fun i s=>g_ look (d5 g.items i) r s) 1 (fun i s=>sZ look _ r s) g.items.length 0 (n :: s.1,s.2)
         refine⟨h1,Int.le_trans h2 ?_⟩;show s.2+ _≤s.2+8
         omega
 | lv+1,n,least,r,s=>by
   have e8:(8 ^ (lv+1+1):Nat)=8*8 ^ (lv+1):=by rw [Nat.pow_succ,Nat.mul_comm]
   unfold fq;cases he:gy look s.1 n with
   | none=>exact⟨aY _,by show s.2≤s.2+ _;omega⟩
   | some g=>
     have hl:g.items.length≤8:=by
      unfold gy at he;split at he
      · cases he
      · exact hn n g he
     simp only;split
     · exact⟨aY _,by show s.2≤s.2+ _;omega⟩
     · split
       · exact⟨aY _,by show s.2≤s.2+ _;omega⟩
       · obtain⟨h1,h2⟩:=s_ (step:=fun i s=>fq look lv (d5 g.items i).child 4 (gW r (gG g.items i)) s) (8 ^ (lv+1)) (fun i s=>qh hn lv _ _ _ s) g.items.length 0 (n :: s.1,s.2)
         refine⟨h1,Int.le_trans h2 ?_⟩;have:g.items.length*8 ^ (lv+1)≤8*8 ^ (lv+1):=bM _ hl
         rw [e8];show s.2+ _≤s.2+ _
         omega
theorem JR(l:List en)(i:Nat):d5 l i∈l∨d5 l i=PO:=by
 rcases aB i l.length with h | h
 · exact .inl (jF h)
 · right
   unfold d5;rw [az,c_ h];rfl
theorem mT {P:List Int→Prop}{l:List en}(h:∀x∈l,P x.key)(h0:P [])(i:Nat):P (d5 l i).key:=by
 rcases JR l i with e | e
 · exact h _ e
 · rw [e];exact h0
theorem OT {l:List en}(h:∀x∈l,U8 x.key)(i:Nat):wT (gG l i):=by
 have h0:U8 []:=fun z hz=>by cases hz
 unfold gG;split
 · exact⟨mT h h0 i,mT h h0 (i+1)⟩
 · exact⟨mT h h0 i,h0⟩
theorem yr {n:Nat}{l:List en}(h:∀x∈l,x.key.length≤n)(i:Nat):nN n (gG l i):=by
 have h0:([]:List Int).length≤n:=aG _;unfold gG;split
 · exact⟨mT (P:=fun k=>k.length≤n) h h0 i,mT (P:=fun k=>k.length≤n) h h0 (i+1)⟩
 · exact⟨mT (P:=fun k=>k.length≤n) h h0 i,h0⟩
end Go.fB
namespace Go.Proofs.YtiegeadmgpanoaaGreatDoor.D2
open ChangeShapes WideShapes ChangeAt RowKit Sl fB L3 Z3 E4 X5
theorem BQ {a b:Hp}(hd:a.zj b):Pr.own (a.un b)=(Pr.own a).star (Pr.own b):=by
 funext x
 apply propext;exact⟨fun h=>⟨a,b,rfl,rfl,hd,h⟩,fun⟨_,_,ha,hb,_,hx⟩=>by rw [hx,show _=a from ha,show _=b from hb];rfl⟩
def Hq(v:Nat)(s:eC)(look:Int→Option dR)(lv:Nat):Prop:= ∀(c mb:Nat) (M:List Int) (keys n least:Int) (r:fw) (h:Hp) (rv:Value),0≤keys→keys+((8 ^ (lv+1):Nat):Int)≤4611686018427387904→gJ h rv r→wT r→nN 24 r→∀(F:Pr) (w:World),dS (rf c v mb s M keys [Pr.own h,F]) w→
 Calls Tryz.prog 43 #[.pointer (some ⟨c,0,none⟩),.int .i64 n,.int .i64 lv,.int .i64 least,rv] w fun e w'=>dN w w'∧e= .returned (.int .i64 (fq look lv n least r (M,keys)).1)∧dS (rf c v mb s (fq look lv n least r (M,keys)).2.1 (fq look lv n least r (M,keys)).2.2 [Pr.own h,F]) w'
theorem JS(v:Nat)(s:eC)(look:Int→Option dR)(hl:Looks s look)(j6:iT look):Hq v s look 0:=by
 intro c mb M keys n least r h rv qn hk1 hr ur nr F w hF;obtain⟨lo,hi,rfl,hlo,mK⟩:=id hr;obtain⟨rl,dl,rfl,_⟩:=eL hlo;obtain⟨rh,dh,rfl,_⟩:=eL mK;have hs0:=hF.alloc (dO (.slice rl r.lo.length dl) (.slice rh r.hi.length dh) r.op)
 have EN:=hQ (vk c v mb s look hl M keys n _ _ (dS.Qk (hs0.vB (A1:=dZ v s) (A2:=Pr.pts c (Nm v mb keys)) (A3:=fD Tryz.prog 3 mb (qg M)))));have eR:=hQ ((dN.refl w).alloc (dO (.slice rl r.lo.length dl) (.slice rh r.hi.length dh) r.op));have HR:=hQ (And.intro hr (And.intro ur nr));have HL:=hQ (And.intro hl j6);have HK:=hQ (And.intro qn hk1);have c1:=hs0.fx;clear hF hs0 hlo mK hr ur nr hl j6 qn hk1;rw [show ((0:Nat):Int)=0 from rfl];go_enter Tryz.func43,Tryz.ntmps43
 go_wp2_with fail
 refine EN.af.mono ?_;rintro e w1 ⟨fN,(⟨hen,rfl,hs1⟩ | ⟨g,hp,iG,iE,gX,iF,hen,rfl,oK,hs1⟩)⟩
 · have hv:fq look 0 n least r (M,keys)=(15,(M,keys)):=by
    unfold fq;simp only [hen]
   have HV:=hQ hv;have hs2:=hs1.flat;have eQ:=hQ ((eR.af.trans fN).alloc (dV 0 0 (.slice none 0 0) (.slice none 0 0) 0));have HE:=hQ ((hs2.alloc (dV 0 0 (.slice none 0 0) (.slice none 0 0) 0)).to (M:=rf c v mb s M keys [Pr.own h,F]));clear c1;have c1:=hs2.fx;clear hs1 hs2 fN EN hen hv eR;go_wp2;go_ret;rw [HV.af]
   exact⟨eQ.af,rfl,HE.af⟩
 · have hlk:look n=some g:=by
    unfold gy at hen;split at hen
    · cases hen
    · exact hen
   have nH:=HL.af.2.uH n g hlk;have hfm:=je nH;have hfit:=fU nH;have wC:=HL.af.2.u8 n g hlk;dsimp only [fX];have hs2:=hs1.flat;have fP:=hs2.alloc (dV g.kind g.level (.slice iG g.items.length gX) (.slice iE g.data.length iF) g.next)
   have eQ:=hQ ((eR.af.trans fN).alloc (dV g.kind g.level (.slice iG g.items.length gX) (.slice iE g.data.length iF) g.next));clear c1;have c1:=hs2.fx;have F8:=hQ oK;have j8:=hQ fP;clear hs1 hs2 fP fN EN eR oK;by_cases kH:g.kind=1
   · obtain⟨BS,hne⟩:=hfm.leaf kH
     have OU:(g.level != 0)=false:=by rw [BS];rfl
     have Uc:(g.kind == 1)=true:=by rw [kH];rfl
     have bk3:(g.kind == 3)=false:=by rw [kH];rfl
     clear BS;by_cases hle:(g.items.length:Int)<least
     · have hv:fq look 0 n least r (M,keys)=(5,(n :: M,keys)):=by
        unfold fq;simp only [hen];rw [if_neg (show ¬(g.kind≠1) from fun h=>h kH),if_pos hle]
       have HV:=hQ hv;have HE:=hQ (j8.af.to (M:=rf c v mb s (n :: M) keys [Pr.own h,F]));clear hv hen j8 hfm kH;skip
       go_wp2;go_ret;rw [HV.af];exact⟨eQ.af,rfl,HE.af⟩
     · have hv:fq look 0 n least r (M,keys)=jE (fun i s=>g_ look (d5 g.items i) r s) 0 g.items.length (n :: M,keys):=by
        conv=>lhs;unfold fq
        simp only [hen];rw [if_neg (show ¬(g.kind≠1) from fun h=>h kH),if_neg hle]
       have HV:=hQ hv;have wb:=hQ kH;clear hv hen hfm kH;go_wp2;obtain⟨hd,gu⟩:=Sat.jT (j8.af.iQ (A1:=Pr.own hp) (A2:=Pr.own h));obtain⟨hu,za⟩:∃hu,hp.un h=hu:=⟨_,rfl⟩;have HU:=hQ (show Pr.own hu=(Pr.own hp).star (Pr.own h) from za ▸ BQ hd);have DU:h.sub hu:=za ▸ Hp.fZ hd;have DV:hp.sub hu:=za ▸ Hp.fE hp h;rw [za] at gu;have gQ:=dS.kS gu
       obtain⟨_,_,qy,hit,_⟩:=F8.af.sub DV;simp only [fX,Value.agg.injEq,Array.mk.injEq,List.cons.injEq,and_true,true_and] at qy;obtain⟨rfl,rfl⟩:=qy;obtain⟨_,_,e9,_,rd⟩:=fL hit;cases e9;have RD:=hQ rd;have An:=hQ (And.intro (HR.af.1.sub DU) HR.af.2);have LC:=hQ hit;have OW:=hQ (And.intro nH (And.intro hfit (And.intro wC wb.af)));generalize w1.heap.size=J at*
       generalize w.heap.size=BG at*;generalize w1.alloc (dV g.kind g.level (.slice iG g.items.length gX) (.slice iE g.data.length iF) g.next)=w2 at*
       have mY:=hQ (gQ.to (M:=rf c v mb s (n :: M) keys [Pr.pts J (dV g.kind g.level (.slice iG g.items.length gX) (.slice iE g.data.length iF) g.next),Pr.pts BG (dO (.slice rl r.lo.length dl) (.slice rh r.hi.length dh) r.op),Pr.own hu,F]));have Hf:g.items.length≤8:=hfit.n;have QW:(g.items.length:Int)≤8:=by omega
       clear j8 gu gQ hit rd nH hfit wC hd za DU DV F8 HR wb;clear c1
       go_loopw [54] (fun t wr=> ∃(i:Nat) (Mi:List Int) (ki:Int),i≤g.items.length∧t= .int .i64 i∧dN w wr∧Hid (fq look 0 n least r (M,keys)=jE (fun i s=>g_ look (d5 g.items i) r s) i (g.items.length-i) (Mi,ki))∧Hid (keys≤ki∧ki≤keys+((i*(1):Nat):Int))∧dS (rf c v mb s Mi ki [Pr.pts J (dV g.kind g.level (.slice iG g.items.length gX) (.slice iE g.data.length iF) g.next),Pr.pts BG (dO (.slice rl r.lo.length dl) (.slice rh r.hi.length dh) r.op),Pr.own hu,F]) wr) (fun t _=>g.items.length-(intOf t).toNat)
       case atStart=>exact⟨0,n :: M,keys,aG _,rfl,eQ.af,HV,hQ ⟨aY _,by simp⟩,mY.af⟩
       case round=>
        obtain⟨i,Mi,ki,hi,rfl,hst,heq,hkb,mh⟩:=hrel;rename World=>wr
        clear eQ mY HV;have eR:=hQ hst;have Eo:=hQ mh;have c1:=mh.fx;rcases aB i g.items.length with hlt | hge
        · obtain⟨b,off,ak,ck,av,cv,rfl,hbk,qR,hc⟩:=RD.af i hlt
          obtain⟨d0,d1,d2,d3⟩:=hc wr (mh.le (a:=hu));have zb:=ay _ _ d0;rw [← gn hlt] at hbk qR d0 d1 d2 d3;obtain⟨nH,hfit,wC,kH⟩:=OW.af;have Ep:=jF hlt;have hy1:=hfit.k _ Ep;have Cw:=wC _ Ep;have zc:=hkb.af;have wF:=(sZ look (d5 g.items i) r (Mi,ki))
          have P4:i*(1)+(1)≤8*(1):=by
           rw [← bJ];exact bM _ (by omega)
          have Gh:=HK.af;have hsi:=mh.alloc (.cells #[.slice ak (d5 g.items i).key.length ck,.slice av (d5 g.items i).value.length cv,.int .i64 (d5 g.items i).child,.int .i64 (d5 g.items i).size] 89);have Mk:=rL g.kind g.items 0 [] (ln nH) _ Ep
          have hsz:(d5 g.items i).size≤3840:=by
           unfold jB at Mk;rw [if_neg (by omega)] at Mk;split at Mk
           · omega
           · cases Mk
          have IC:=hQ (Mj c v mb s look HL.af.1 Mi ki (by omega) (d5 g.items i) r hu _ _ ⟨_,_,rfl,hbk,qR⟩ An.af.1 Cw An.af.2.1 (by omega) hsz _ _ (dS.SJ (hsi.Co (A1:=dZ v s) (A2:=Pr.pts c (Nm v mb ki)) (A3:=fD Tryz.prog 3 mb (qg Mi)) (A4:=Pr.own hu))))
          have JU:=hQ (eR.af.alloc (.cells #[.slice ak (d5 g.items i).key.length ck,.slice av (d5 g.items i).value.length cv,.int .i64 (d5 g.items i).child,.int .i64 (d5 g.items i).size] 89))
          have uo:=hQ (heq.af.trans (show jE (fun i s=>g_ look (d5 g.items i) r s) i (g.items.length-i) (Mi,ki)=if(g_ look (d5 g.items i) r (Mi,ki)).1≠0 then g_ look (d5 g.items i) r (Mi,ki) else jE (fun i s=>g_ look (d5 g.items i) r s) (i+1) (g.items.length-(i+1)) (g_ look (d5 g.items i) r (Mi,ki)).2 from by
           rw [show g.items.length-i=(g.items.length-(i+1))+1 by omega]
           rfl))
          have Gi:=hQ (show keys≤(g_ look (d5 g.items i) r (Mi,ki)).2.2∧(g_ look (d5 g.items i) r (Mi,ki)).2.2≤keys+(((i+1)*(1):Nat):Int) from by
           obtain⟨z1,z2⟩:=wF
           rw [bJ]
           simp only at z1 z2
           omega)
          have hil:(i:Int)<(g.items.length:Int):=by omega
          clear hst heq hkb mh hbk qR hc nH hfit wC kH Ep hy1 Cw zc wF P4 Gh hsi Mk hsz Eo;generalize g_ look (d5 g.items i) r (Mi,ki)=RE at*;generalize d5 g.items i=y at*;go_wp2_with fail
          refine IC.af.mono ?_;rintro e w5 ⟨iL,rfl,gu⟩;have gQ:=gu.flat;have BU:=hQ gQ;have qw:=hQ (JU.af.trans iL);clear c1 d0 d1 d2 d3 zb;have c1:=gQ.fx;have lA:=uo.af;clear gu gQ iL IC JU uo;by_cases he:RE.1=0
          · rw [he,if_neg (by simp)] at lA
            have BV:=hQ lA;have OX:=hQ (BU.af.to (M:=rf c v mb s RE.2.1 RE.2.2 [Pr.pts J (dV g.kind g.level (.slice (some ⟨b,off,none⟩) g.items.length gX) (.slice iE g.data.length iF) g.next),Pr.pts BG (dO (.slice rl r.lo.length dl) (.slice rh r.hi.length dh) r.op),Pr.own hu,F]));rw [he];clear lA he;go_wp2;go_roundw
            case rel=>exact⟨i+1,RE.2.1,RE.2.2,by omega,congrArg (Value.int .i64) (by omega),qw.af,BV,Gi,OX.af⟩
            case measure=>simp [intOf];omega
          · rw [if_pos he] at lA
            have HQ:=hQ lA;have hb1:(RE.1 != 0)=true:=bne_iff_ne.2 he;have gY:=BU.af;have gA:=gY.ej (A1:=Pr.own hu);rw [HU.af] at gA;have HE:=hQ ((dS.kS gA).norm.to (M:=rf c v mb s RE.2.1 RE.2.2 [Pr.own h,F]));clear lA he gY gA BU;go_wp2;go_ret;rw [HQ.af];exact⟨qw.af,rfl,HE.af⟩
        · have hie:i=g.items.length:=by omega
          have h0:jE (fun i s=>g_ look (d5 g.items i) r s) i (g.items.length-i) (Mi,ki)=(0,(Mi,ki)):=by
           rw [hie,b_];rfl
          have HQ:=hQ (heq.af.trans h0);have gY:=Eo.af;have gA:=gY.ej (A1:=Pr.own hu);rw [HU.af] at gA;have HE:=hQ ((dS.kS gA).norm.to (M:=rf c v mb s Mi ki [Pr.own h,F]));clear hst heq hkb mh gY gA h0 Eo;subst hie;go_wp2;go_ret;rw [HQ.af];exact⟨eR.af,rfl,HE.af⟩
   · have hv:fq look 0 n least r (M,keys)=(15,(n :: M,keys)):=by
      unfold fq;simp only [hen];rw [if_pos kH]
     have HV:=hQ hv;have HE:=hQ (j8.af.to (M:=rf c v mb s (n :: M) keys [Pr.own h,F]));clear hv hen j8;rcases hfm.kind with h1 | h1 | h1
     · exact absurd h1 kH
     · have h2:=(hfm.index h1).1
       have h3:(g.level != 0)=true:=by rw [bne_iff_ne];omega
       clear hfm kH h1 h2;go_wp2;go_ret;rw [HV.af];exact⟨eQ.af,rfl,HE.af⟩
     · have h2:=(hfm.Tc h1).1
       have OU:(g.level != 0)=false:=by rw [h2];rfl
       have Uc:(g.kind == 1)=false:=by rw [h1];rfl
       have bk3:(g.kind == 3)=true:=by rw [h1];rfl
       clear hfm h1 h2 kH;go_wp2;go_ret;rw [HV.af];exact⟨eQ.af,rfl,HE.af⟩
end Go.Proofs.YtiegeadmgpanoaaGreatDoor.D2
namespace Go.Proofs.YtiegeadmgpanoaaGreatDoor.D2
open ChangeShapes WideShapes ChangeAt RowKit Sl fB L3 Z3 E4 X5
theorem Gj(v:Nat)(s:eC)(look:Int→Option dR)(hl:Looks s look)(j6:iT look)(lv:Nat)(ih:Hq v s look lv):Hq v s look (lv+1):=by
 intro c mb M keys n least r h rv qn hk1 hr ur nr F w hF;obtain⟨lo,hi,rfl,hlo,mK⟩:=id hr;obtain⟨rl,dl,rfl,_⟩:=eL hlo;obtain⟨rh,dh,rfl,_⟩:=eL mK;have hs0:=hF.alloc (dO (.slice rl r.lo.length dl) (.slice rh r.hi.length dh) r.op)
 have EN:=hQ (vk c v mb s look hl M keys n _ _ (dS.Qk (hs0.vB (A1:=dZ v s) (A2:=Pr.pts c (Nm v mb keys)) (A3:=fD Tryz.prog 3 mb (qg M)))));have eR:=hQ ((dN.refl w).alloc (dO (.slice rl r.lo.length dl) (.slice rh r.hi.length dh) r.op));have HR:=hQ (And.intro hr (And.intro ur nr));have HL:=hQ (And.intro hl j6);have HK:=hQ (And.intro qn hk1);have c1:=hs0.fx;clear hF hs0 hlo mK hr ur nr hl j6 qn hk1;have IH:=hQ ih;clear ih;have Yl:((lv+1:Nat):Int)=(lv:Int)+1:=by omega
 rw [Yl];go_enter Tryz.func43,Tryz.ntmps43
 go_wp2_with fail
 refine EN.af.mono ?_;rintro e w1 ⟨fN,(⟨hen,rfl,hs1⟩ | ⟨g,hp,iG,iE,gX,iF,hen,rfl,oK,hs1⟩)⟩
 · have hv:fq look (lv+1) n least r (M,keys)=(15,(M,keys)):=by
    unfold fq;simp only [hen]
   have HV:=hQ hv;have hs2:=hs1.flat;have eQ:=hQ ((eR.af.trans fN).alloc (dV 0 0 (.slice none 0 0) (.slice none 0 0) 0));have HE:=hQ ((hs2.alloc (dV 0 0 (.slice none 0 0) (.slice none 0 0) 0)).to (M:=rf c v mb s M keys [Pr.own h,F]));clear c1;have c1:=hs2.fx;clear hs1 hs2 fN EN hen hv eR;go_wp2;go_ret;rw [HV.af]
   exact⟨eQ.af,rfl,HE.af⟩
 · have hlk:look n=some g:=by
    unfold gy at hen;split at hen
    · cases hen
    · exact hen
   have nH:=HL.af.2.uH n g hlk;have hfm:=je nH;have hfit:=fU nH;have wC:=HL.af.2.u8 n g hlk;dsimp only [fX];have hs2:=hs1.flat;have fP:=hs2.alloc (dV g.kind g.level (.slice iG g.items.length gX) (.slice iE g.data.length iF) g.next)
   have eQ:=hQ ((eR.af.trans fN).alloc (dV g.kind g.level (.slice iG g.items.length gX) (.slice iE g.data.length iF) g.next));clear c1;have c1:=hs2.fx;have F8:=hQ oK;have j8:=hQ fP;clear hs1 hs2 fP fN EN eR oK;by_cases kH:g.kind=2∧g.level=(lv:Int)+1
   · obtain⟨hk2,BS⟩:=kH
     have OU:(g.level != (lv:Int)+1)=false:=by rw [BS];simp
     have Uc:(g.kind == 1)=false:=by rw [hk2];rfl
     have bk3:(g.kind == 3)=false:=by rw [hk2];rfl
     have WG:((lv:Int)+1 == 0)=false:=by rw [beq_eq_false_iff_ne];omega
     by_cases hle:(g.items.length:Int)<least
     · have hv:fq look (lv+1) n least r (M,keys)=(5,(n :: M,keys)):=by
        unfold fq;simp only [hen];rw [if_neg (show ¬¬(g.kind=2∧g.level=(lv:Int)+1) from fun h=>h ⟨hk2,BS⟩),if_pos hle]
       have HV:=hQ hv;have HE:=hQ (j8.af.to (M:=rf c v mb s (n :: M) keys [Pr.own h,F]));clear hv hen j8 hfm hk2 BS;skip
       go_wp2;go_ret;rw [HV.af];exact⟨eQ.af,rfl,HE.af⟩
     · have hv:fq look (lv+1) n least r (M,keys)=jE (fun i s=>fq look lv (d5 g.items i).child 4 (gW r (gG g.items i)) s) 0 g.items.length (n :: M,keys):=by
        conv=>lhs;unfold fq
        simp only [hen];rw [if_neg (show ¬¬(g.kind=2∧g.level=(lv:Int)+1) from fun h=>h ⟨hk2,BS⟩),if_neg hle]
       have HV:=hQ hv;have wb:=hQ (And.intro hk2 BS);clear hv hen hfm hk2 BS;go_wp2;obtain⟨hd,gu⟩:=Sat.jT (j8.af.iQ (A1:=Pr.own hp) (A2:=Pr.own h));obtain⟨hu,za⟩:∃hu,hp.un h=hu:=⟨_,rfl⟩;have HU:=hQ (show Pr.own hu=(Pr.own hp).star (Pr.own h) from za ▸ BQ hd);have DU:h.sub hu:=za ▸ Hp.fZ hd;have DV:hp.sub hu:=za ▸ Hp.fE hp h;rw [za] at gu
       have gQ:=dS.kS gu;obtain⟨_,_,qy,hit,_⟩:=F8.af.sub DV;simp only [fX,Value.agg.injEq,Array.mk.injEq,List.cons.injEq,and_true,true_and] at qy;obtain⟨rfl,rfl⟩:=qy;obtain⟨_,_,e9,_,rd⟩:=fL hit;cases e9;have RD:=hQ rd;have An:=hQ (And.intro (HR.af.1.sub DU) HR.af.2);have LC:=hQ hit;have OW:=hQ (And.intro nH (And.intro hfit (And.intro wC wb.af)))
       generalize w1.heap.size=J at*;generalize w.heap.size=BG at*;generalize w1.alloc (dV g.kind g.level (.slice iG g.items.length gX) (.slice iE g.data.length iF) g.next)=w2 at*
       have mY:=hQ (gQ.to (M:=rf c v mb s (n :: M) keys [Pr.pts J (dV g.kind g.level (.slice iG g.items.length gX) (.slice iE g.data.length iF) g.next),Pr.pts BG (dO (.slice rl r.lo.length dl) (.slice rh r.hi.length dh) r.op),Pr.own hu,F]));have Hf:g.items.length≤8:=hfit.n;have QW:(g.items.length:Int)≤8:=by omega
       clear j8 gu gQ hit rd nH hfit wC hd za DU DV F8 HR wb;clear c1
       go_loopw [54] (fun t wr=> ∃(i:Nat) (Mi:List Int) (ki:Int),i≤g.items.length∧t= .int .i64 i∧dN w wr∧Hid (fq look (lv+1) n least r (M,keys)=jE (fun i s=>fq look lv (d5 g.items i).child 4 (gW r (gG g.items i)) s) i (g.items.length-i) (Mi,ki))∧Hid (keys≤ki∧ki≤keys+((i*(8 ^ (lv+1)):Nat):Int))∧dS (rf c v mb s Mi ki [Pr.pts J (dV g.kind g.level (.slice iG g.items.length gX) (.slice iE g.data.length iF) g.next),Pr.pts BG (dO (.slice rl r.lo.length dl) (.slice rh r.hi.length dh) r.op),Pr.own hu,F]) wr) (fun t _=>g.items.length-(intOf t).toNat)
       case atStart=>exact⟨0,n :: M,keys,aG _,rfl,eQ.af,HV,hQ ⟨aY _,by simp⟩,mY.af⟩
       case round=>
        obtain⟨i,Mi,ki,hi,rfl,hst,heq,hkb,mh⟩:=hrel;rename World=>wr
        clear eQ mY HV;have eR:=hQ hst;have Eo:=hQ mh;have c1:=mh.fx;rcases aB i g.items.length with hlt | hge
        · obtain⟨b,off,ak,ck,av,cv,rfl,hbk,qR,hc⟩:=RD.af i hlt
          obtain⟨d0,d1,d2,d3⟩:=hc wr (mh.le (a:=hu));have zb:=ay _ _ d0;rw [← gn hlt] at hbk qR d0 d1 d2 d3;obtain⟨nH,hfit,wC,kH⟩:=OW.af;have Ep:=jF hlt;have hy1:=hfit.k _ Ep;have Cw:=wC _ Ep;have zc:=hkb.af;have wF:=(qh (fun n g h=>(fU (HL.af.2.uH n g h)).n) lv (d5 g.items i).child 4 (gW r (gG g.items i)) (Mi,ki))
          have P4:i*(8 ^ (lv+1))+(8 ^ (lv+1))≤8*(8 ^ (lv+1)):=by
           rw [← bJ];exact bM _ (by omega)
          have Gh:=HK.af;have Ym:(lv:Int)≤11:=by have:=(je nH).index kH.1;omega
          have WH:wT (gG g.items i):=OT wC i;have sQ:nN 24 (gG g.items i):=yr (fun x hx=>(hfit.k x hx).1) i;have Nn:=hQ (And.intro (tV An.af.2.1 WH) (rI An.af.2.2 sQ));have Sq:=hQ (And.intro WH sQ)
          have P5:=hQ (fun(h:Hp) (rv:Value) h3 (G:Pr) (wx:World) hF=>IH.af c mb Mi ki (d5 g.items i).child 4 (gW r (gG g.items i)) h rv (by omega) (by omega) h3 Nn.af.1 Nn.af.2 G wx hF)
          have JU:=hQ ((eR.af.alloc (.cells #[.slice ak (d5 g.items i).key.length ck,.slice av (d5 g.items i).value.length cv,.int .i64 (d5 g.items i).child,.int .i64 (d5 g.items i).size] 89)).alloc (dO (.slice ak (d5 g.items i).key.length ck) (.slice none 0 0) true))
          have hsi:=(mh.alloc (.cells #[.slice ak (d5 g.items i).key.length ck,.slice av (d5 g.items i).value.length cv,.int .i64 (d5 g.items i).child,.int .i64 (d5 g.items i).size] 89)).alloc (dO (.slice ak (d5 g.items i).key.length ck) (.slice none 0 0) true)
          rw [show (wr.alloc (.cells #[.slice ak (d5 g.items i).key.length ck,.slice av (d5 g.items i).value.length cv,.int .i64 (d5 g.items i).child,.int .i64 (d5 g.items i).size] 89)).heap.size=wr.heap.size+1 by simp] at hsi
          have uo:=hQ (heq.af.trans (show jE (fun i s=>fq look lv (d5 g.items i).child 4 (gW r (gG g.items i)) s) i (g.items.length-i) (Mi,ki)=if(fq look lv (d5 g.items i).child 4 (gW r (gG g.items i)) (Mi,ki)).1≠0 then fq look lv (d5 g.items i).child 4 (gW r (gG g.items i)) (Mi,ki) else jE (fun i s=>fq look lv (d5 g.items i).child 4 (gW r (gG g.items i)) s) (i+1) (g.items.length-(i+1)) (fq look lv (d5 g.items i).child 4 (gW r (gG g.items i)) (Mi,ki)).2 from by
           rw [show g.items.length-i=(g.items.length-(i+1))+1 by omega]
           rfl))
          have Gi:=hQ (show keys≤(fq look lv (d5 g.items i).child 4 (gW r (gG g.items i)) (Mi,ki)).2.2∧(fq look lv (d5 g.items i).child 4 (gW r (gG g.items i)) (Mi,ki)).2.2≤keys+(((i+1)*(8 ^ (lv+1)):Nat):Int) from by
           obtain⟨z1,z2⟩:=wF
           rw [bJ]
           simp only at z1 z2
           omega)
          have hil:(i:Int)<(g.items.length:Int):=by omega
          rcases aB (i+1) g.items.length with hnx | hnx
          · obtain⟨b2,Dm,Kh,Ki,XJ,XK,Ud,sd,Bu,o7⟩:=RD.af (i+1) hnx
            obtain⟨e0,_,_,_⟩:=o7 wr (mh.le (a:=hu));simp only [Option.some.injEq,Addr.mk.injEq,and_true] at Ud;obtain⟨rfl,rfl⟩:=Ud;rw [← gn hnx] at sd e0
            have HOW:=hQ (show gJ hu (.agg #[(.slice ak (d5 g.items i).key.length ck),(.slice Kh (d5 g.items (i+1)).key.length Ki),.bool false]) (gG g.items i) from by
             rw [show gG g.items i=⟨(d5 g.items i).key,(d5 g.items (i+1)).key,false⟩ from if_pos hnx]
             exact⟨_,_,rfl,hbk,sd⟩)
            have Ml:=hQ (((eR.af.alloc (.cells #[.slice ak (d5 g.items i).key.length ck,.slice av (d5 g.items i).value.length cv,.int .i64 (d5 g.items i).child,.int .i64 (d5 g.items i).size] 89)).alloc (dO (.slice ak (d5 g.items i).key.length ck) (.slice Kh (d5 g.items (i+1)).key.length Ki) false)).drew)
            have hsj:=((mh.alloc (.cells #[.slice ak (d5 g.items i).key.length ck,.slice av (d5 g.items i).value.length cv,.int .i64 (d5 g.items i).child,.int .i64 (d5 g.items i).size] 89)).alloc (dO (.slice ak (d5 g.items i).key.length ck) (.slice Kh (d5 g.items (i+1)).key.length Ki) false)).drew
            rw [show (wr.alloc (.cells #[.slice ak (d5 g.items i).key.length ck,.slice av (d5 g.items i).value.length cv,.int .i64 (d5 g.items i).child,.int .i64 (d5 g.items i).size] 89)).heap.size=wr.heap.size+1 by simp] at hsj;have Jt:(i:Int)+1<(g.items.length:Int):=by omega
            clear sd Bu o7;have MT:=hQ (um hu _ _ r (gG g.items i) An.af.1 HOW.af An.af.2.1 Sq.af.1 ⟨by have:=An.af.2.2.lo;omega,by have:=An.af.2.2.hi;omega⟩ ⟨by have:=Sq.af.2.lo;omega,by have:=Sq.af.2.hi;omega⟩ _ _ (hsj.drew.ej (A1:=Pr.own hu)));clear hst heq hkb mh hbk qR hc nH hfit wC kH Ep hy1 Cw zc wF P4 Gh hsi hsj Eo WH sQ JU HOW
            generalize fq look lv (d5 g.items i).child 4 (gW r (gG g.items i)) (Mi,ki)=RE at*;generalize gG g.items i=RO at*;generalize d5 g.items (i+1)=y2 at*;generalize d5 g.items i=y at*;go_wp2;refine wS 96 [0,1,2,3,4,5,6,7] [(8,[9],[0,1,2,3,4,5,6]),(10,[],[])] ?_;refine dY _ rfl rfl ?_;simp only [pick,pQ];iterate 8 (go_big_quiet_step (fail))
            refine wpQuiet_nil ?_;refine dK rfl ?_;go_wp2;refine dQ ?_;refine dY _ rfl rfl ?_;simp only [pick,pQ];iterate 1 (go_big_quiet_step (fail))
            refine wpQuiet_nil ⟨?_,?_⟩
            · exact cQ
            refine dK rfl ?_;go_wp2;refine dQ ?_;refine dU ⟨?_,?_⟩
            · exact eM
            refine dW ?_;go_wp2;refine wS 96 [0,1,2,3,4,5,6] [(7,[],[0,1,2,3,4]),(8,[9],[1,3])] ?_;refine dY _ rfl rfl ?_;simp only [pick,pQ];iterate 7 (go_big_quiet_step (fail))
            refine wpQuiet_nil ?_;refine dK rfl ?_;go_wp2_with fail
            refine MT.af.mono ?_;rintro e w5 ⟨iL,hm,QX,rfl,BW,gu⟩;have gQ:=dS.mH gu;have PC:=hQ (P5.af hm QX BW _ _ (dS.SJ (gQ.Co (A1:=dZ v s) (A2:=Pr.pts c (Nm v mb ki)) (A3:=fD Tryz.prog 3 mb (qg Mi)) (A4:=Pr.own hm))));have DW:=hQ (Ml.af.drew.trans iL);clear c1 d0 d1 d2 d3 zb MT Ml e0;have c1:=gQ.fx
            clear gu gQ iL BW;go_wp2;refine dQ ?_;refine dU ⟨?_,?_⟩
            · exact cQ
            refine dK rfl ?_;go_wp2_with fail
            refine PC.af.mono ?_;rintro e w6 ⟨Bs,rfl,gZ⟩;have gp:=gZ.flat;have BU:=hQ gp;have qw:=hQ (DW.af.trans Bs);clear c1;have c1:=gp.fx;have lA:=uo.af;clear gZ gp Bs PC DW uo P5;go_wp2;refine dQ ?_;refine dY _ rfl rfl ?_;simp only [pick,pQ];iterate 1 (go_big_quiet_step (fail))
            refine wpQuiet_nil ⟨?_,?_⟩
            · exact cQ
            refine dW ?_;by_cases he:RE.1=0
            · rw [he,if_neg (by simp)] at lA
              have BV:=hQ lA;have OX:=hQ (BU.af.to (M:=rf c v mb s RE.2.1 RE.2.2 [Pr.pts J (dV g.kind g.level (.slice (some ⟨b,off,none⟩) g.items.length gX) (.slice iE g.data.length iF) g.next),Pr.pts BG (dO (.slice rl r.lo.length dl) (.slice rh r.hi.length dh) r.op),Pr.own hu,F]));rw [he];clear lA he;go_wp2;go_roundw
              case rel=>exact⟨i+1,RE.2.1,RE.2.2,by omega,congrArg (Value.int .i64) (by omega),qw.af,BV,Gi,OX.af⟩
              case measure=>simp [intOf];omega
            · rw [if_pos he] at lA
              have HQ:=hQ lA;have hb1:(RE.1 != 0)=true:=bne_iff_ne.2 he;have gY:=BU.af;have gA:=gY.ej (A1:=Pr.own hu);rw [HU.af] at gA;have HE:=hQ ((dS.kS gA).norm.to (M:=rf c v mb s RE.2.1 RE.2.2 [Pr.own h,F]));clear lA he gY gA BU;go_wp2;go_ret;rw [HQ.af];exact⟨qw.af,rfl,HE.af⟩
          · have HOW:=hQ (show gJ hu (.agg #[(.slice ak (d5 g.items i).key.length ck),.slice none 0 0,.bool true]) (gG g.items i) from by
             rw [show gG g.items i=⟨(d5 g.items i).key,[],true⟩ from if_neg (by omega)]
             exact⟨_,_,rfl,hbk,gj.nil _ _⟩)
            have hsj:=hsi;have Ml:=JU;have Jt:¬((i:Int)+1<(g.items.length:Int)):=by omega
            have MT:=hQ (um hu _ _ r (gG g.items i) An.af.1 HOW.af An.af.2.1 Sq.af.1 ⟨by have:=An.af.2.2.lo;omega,by have:=An.af.2.2.hi;omega⟩ ⟨by have:=Sq.af.2.lo;omega,by have:=Sq.af.2.hi;omega⟩ _ _ (hsj.drew.ej (A1:=Pr.own hu)));clear hst heq hkb mh hbk qR hc nH hfit wC kH Ep hy1 Cw zc wF P4 Gh hsi hsj Eo WH sQ JU HOW
            generalize fq look lv (d5 g.items i).child 4 (gW r (gG g.items i)) (Mi,ki)=RE at*;generalize gG g.items i=RO at*;generalize d5 g.items i=y at*;go_wp2;refine wS 96 [0,1,2,3,4,5,6] [(7,[],[0,1,2,3,4]),(8,[9],[1,3])] ?_;refine dY _ rfl rfl ?_;simp only [pick,pQ];iterate 7 (go_big_quiet_step (fail))
            refine wpQuiet_nil ?_;refine dK rfl ?_;go_wp2_with fail
            refine MT.af.mono ?_;rintro e w5 ⟨iL,hm,QX,rfl,BW,gu⟩;have gQ:=dS.mH gu;have PC:=hQ (P5.af hm QX BW _ _ (dS.SJ (gQ.Co (A1:=dZ v s) (A2:=Pr.pts c (Nm v mb ki)) (A3:=fD Tryz.prog 3 mb (qg Mi)) (A4:=Pr.own hm))));have DW:=hQ (Ml.af.drew.trans iL);clear c1 d0 d1 d2 d3 zb MT Ml;have c1:=gQ.fx
            clear gu gQ iL BW;go_wp2;refine dQ ?_;refine dU ⟨?_,?_⟩
            · exact cQ
            refine dK rfl ?_;go_wp2_with fail
            refine PC.af.mono ?_;rintro e w6 ⟨Bs,rfl,gZ⟩;have gp:=gZ.flat;have BU:=hQ gp;have qw:=hQ (DW.af.trans Bs);clear c1;have c1:=gp.fx;have lA:=uo.af;clear gZ gp Bs PC DW uo P5;go_wp2;refine dQ ?_;refine dY _ rfl rfl ?_;simp only [pick,pQ];iterate 1 (go_big_quiet_step (fail))
            refine wpQuiet_nil ⟨?_,?_⟩
            · exact cQ
            refine dW ?_;by_cases he:RE.1=0
            · rw [he,if_neg (by simp)] at lA
              have BV:=hQ lA;have OX:=hQ (BU.af.to (M:=rf c v mb s RE.2.1 RE.2.2 [Pr.pts J (dV g.kind g.level (.slice (some ⟨b,off,none⟩) g.items.length gX) (.slice iE g.data.length iF) g.next),Pr.pts BG (dO (.slice rl r.lo.length dl) (.slice rh r.hi.length dh) r.op),Pr.own hu,F]));rw [he];clear lA he;go_wp2;go_roundw
              case rel=>exact⟨i+1,RE.2.1,RE.2.2,by omega,congrArg (Value.int .i64) (by omega),qw.af,BV,Gi,OX.af⟩
              case measure=>simp [intOf];omega
            · rw [if_pos he] at lA
              have HQ:=hQ lA;have hb1:(RE.1 != 0)=true:=bne_iff_ne.2 he;have gY:=BU.af;have gA:=gY.ej (A1:=Pr.own hu);rw [HU.af] at gA;have HE:=hQ ((dS.kS gA).norm.to (M:=rf c v mb s RE.2.1 RE.2.2 [Pr.own h,F]));clear lA he gY gA BU;go_wp2;go_ret;rw [HQ.af];exact⟨qw.af,rfl,HE.af⟩
        · have hie:i=g.items.length:=by omega
          have h0:jE (fun i s=>fq look lv (d5 g.items i).child 4 (gW r (gG g.items i)) s) i (g.items.length-i) (Mi,ki)=(0,(Mi,ki)):=by
           rw [hie,b_];rfl
          have HQ:=hQ (heq.af.trans h0);have gY:=Eo.af;have gA:=gY.ej (A1:=Pr.own hu);rw [HU.af] at gA;have HE:=hQ ((dS.kS gA).norm.to (M:=rf c v mb s Mi ki [Pr.own h,F]));clear hst heq hkb mh gY gA h0 Eo;subst hie;go_wp2;go_ret;rw [HQ.af];exact⟨eR.af,rfl,HE.af⟩
   · have hv:fq look (lv+1) n least r (M,keys)=(15,(n :: M,keys)):=by
      unfold fq;simp only [hen];rw [if_pos kH]
     have HV:=hQ hv;have HE:=hQ (j8.af.to (M:=rf c v mb s (n :: M) keys [Pr.own h,F]));clear hv hen j8;by_cases hle:g.level=(lv:Int)+1
     · have hk1:g.kind≠2:=fun e=>kH ⟨e,hle⟩
       exfalso;rcases hfm.kind with h1 | h1 | h1
       · have:=(hfm.leaf h1).1;omega
       · exact hk1 h1
       · have:=(hfm.Tc h1).1;omega
     · have h3:(g.level != (lv:Int)+1)=true:=bne_iff_ne.2 hle
       clear hfm kH hle;go_wp2;go_ret;rw [HV.af];exact⟨eQ.af,rfl,HE.af⟩
end Go.Proofs.YtiegeadmgpanoaaGreatDoor.D2
namespace Go.Proofs.YtiegeadmgpanoaaGreatDoor.D2
open ChangeShapes WideShapes ChangeAt RowKit Sl fB L3 Z3 E4 X5
theorem DX(h:Hp)(pv rv:Value)(g:dR)(hp:fV h pv g)(i:Nat)(hi:i<g.items.length)(hfit:Fit g)(r:fw)(hr:gJ h rv r)(nr:nN 24 r)(F:Pr)(w:World)(hF:Sat ((Pr.own h).star F) w):
 Calls Tryz.prog 80 #[pv,.int .i64 i,rv] w fun e w'=>dN w w'∧∃h' rv',e= .returned rv'∧gJ h' rv' (gW r (gG g.items i))∧Sat ((Pr.own h').star ((Pr.own h).star F)) w':=by
 obtain⟨vi,vd,rfl,hit,hb⟩:=hp;obtain⟨iE,iF,rfl⟩:=eB hb;obtain⟨iG,gX,rfl,_,rd⟩:=fL hit;obtain⟨b,off,ak,ck,av,cv,rfl,hbk,qR,hc⟩:=rd i hi;obtain⟨lo,hi',rfl,hlo,mK⟩:=id hr;obtain⟨rl,dl,rfl,_⟩:=eL hlo;obtain⟨rh,dh,rfl,_⟩:=eL mK;have vg:=dS.Ii hF;have hle:=vg.le (a:=h);rw [← gn hi] at hbk;have Hf:g.items.length≤8:=hfit.n
 have hil:(i:Int)<(g.items.length:Int):=by omega
 have sQ:nN 24 (gG g.items i):=yr (fun x hx=>(hfit.k x hx).1) i;have HR:=hQ (And.intro hr (And.intro nr sQ));have hs0:=((vg.alloc (dV g.kind g.level (.slice (some ⟨b,off,none⟩) g.items.length gX) (.slice iE g.data.length iF) g.next)).alloc (dO (.slice rl r.lo.length dl) (.slice rh r.hi.length dh) r.op)).alloc (dO (.slice none 0 0) (.slice none 0 0) false)
 have z1:(w.alloc (dV g.kind g.level (.slice (some ⟨b,off,none⟩) g.items.length gX) (.slice iE g.data.length iF) g.next)).heap.size=w.heap.size+1:=by simp
 have z2:((w.alloc (dV g.kind g.level (.slice (some ⟨b,off,none⟩) g.items.length gX) (.slice iE g.data.length iF) g.next)).alloc (dO (.slice rl r.lo.length dl) (.slice rh r.hi.length dh) r.op)).heap.size=w.heap.size+1+1:=by simp
 have z3:(((w.alloc (dV g.kind g.level (.slice (some ⟨b,off,none⟩) g.items.length gX) (.slice iE g.data.length iF) g.next)).alloc (dO (.slice rl r.lo.length dl) (.slice rh r.hi.length dh) r.op)).alloc (dO (.slice none 0 0) (.slice none 0 0) false)).heap.size=w.heap.size+1+1+1:=by simp
 rw [z2,z1] at hs0;obtain⟨d0,_,_,_⟩:=hc _ (hs0.le (a:=h));rw [← gn hi] at d0;dsimp only [dV,dO] at d0;have Np:=(((dN.refl w).alloc (dV g.kind g.level (.slice (some ⟨b,off,none⟩) g.items.length gX) (.slice iE g.data.length iF) g.next)).alloc (dO (.slice rl r.lo.length dl) (.slice rh r.hi.length dh) r.op)).alloc (dO (.slice none 0 0) (.slice none 0 0) false)
 rcases aB (i+1) g.items.length with hnx | hnx
 · obtain⟨b2,Dm,Kh,Ki,XJ,XK,Ud,sd,Bu,o7⟩:=rd (i+1) hnx
   obtain⟨e0,_,_,_⟩:=o7 _ ((hs0.alloc (dO (.slice ak (d5 g.items i).key.length ck) (.slice none 0 0) false)).le (a:=h));dsimp only [dV,dO] at e0;simp only [Option.some.injEq,Addr.mk.injEq,and_true] at Ud;obtain⟨rfl,rfl⟩:=Ud;rw [← gn hnx] at sd e0
   have HOW:=hQ (show gJ h (.agg #[.slice ak (d5 g.items i).key.length ck,.slice Kh (d5 g.items (i+1)).key.length Ki,.bool false]) (gG g.items i) from by
    rw [show gG g.items i=⟨(d5 g.items i).key,(d5 g.items (i+1)).key,false⟩ from if_pos hnx]
    exact⟨_,_,rfl,hbk,sd⟩)
   have hs1:=hs0.alloc (dO (.slice ak (d5 g.items i).key.length ck) (.slice Kh (d5 g.items (i+1)).key.length Ki) false);rw [z3] at hs1;have Jt:(i:Int)+1<(g.items.length:Int):=by omega
   have eR:=hQ (Np.alloc (dO (.slice ak (d5 g.items i).key.length ck) (.slice Kh (d5 g.items (i+1)).key.length Ki) false));have MT:=hQ (z' h _ _ r (gG g.items i) HR.af.1 HOW.af ⟨by have:=HR.af.2.1.lo;omega,by have:=HR.af.2.1.hi;omega⟩ ⟨by have:=HR.af.2.2.lo;omega,by have:=HR.af.2.2.hi;omega⟩ _ _ (hs1.ej (A1:=Pr.own h)))
   clear z1 z2 z3 vg hF hs0 hs1 Np rd hc hbk qR hit hb hlo mK hr nr sQ hfit sd Bu o7;generalize gG g.items i=RO at*;generalize d5 g.items (i+1)=y2 at*;generalize d5 g.items i=y at*;go_enter Tryz.func80,Tryz.ntmps80
   go_wp2_with fail
   refine MT.af.mono ?_;rintro e w5 ⟨iL,hm,QX,rfl,BW,gu⟩;obtain⟨_,_,rfl,Qt,Ue⟩:=id BW;obtain⟨al,cl,rfl,_⟩:=eL Qt;obtain⟨ah,ch,rfl,_⟩:=eL Ue;clear Qt Ue;generalize Uf:gW r RO=RM at*;have HQ:=hQ Uf;clear Uf;have gQ:=dS.mH gu;have iM:=hQ (eR.af.trans iL);have Nn:=hQ BW;have mY:=hQ gQ;clear d0 e0 MT;have c1:=gQ.fx;clear gu gQ iL BW HOW HR eR;generalize w.heap.size+1+1+1=BO at*;generalize w.heap.size+1+1=BR at*;go_wp2;have h5:=((mY.af.set BR 0 (.slice al RM.lo.length cl)).set BR 1 (.slice ah RM.hi.length ch)).set BR 2 (.bool RM.op)
   have lV:=hQ (((iM.af.setCell ⟨BR,0,none⟩ (.slice al RM.lo.length cl)).setCell ⟨BR,1,none⟩ (.slice ah RM.hi.length ch)).setCell ⟨BR,2,none⟩ (.bool RM.op));refine bodyPost_ret (results_cell_row rfl _ _ BR _ _ _ _ rfl (h5.pts BR).dL Tryz.underlying64 rfl kQ) rfl ?_
   exact⟨lV.af,hm,_,rfl,by rw [HQ.af];exact Nn.af,(h5.to (M:= [Pr.own hm,Pr.own h,F])).sat.perm (by simp only [eJ,Pr.ei])⟩
 · have HOW:=hQ (show gJ h (.agg #[.slice ak (d5 g.items i).key.length ck,.slice none 0 0,.bool true]) (gG g.items i) from by
    rw [show gG g.items i=⟨(d5 g.items i).key,[],true⟩ from if_neg (by omega)]
    exact⟨_,_,rfl,hbk,gj.nil _ _⟩)
   have hs1:=hs0.alloc (dO (.slice ak (d5 g.items i).key.length ck) (.slice none 0 0) true);rw [z3] at hs1;have Jt:¬((i:Int)+1<(g.items.length:Int)):=by omega
   have eR:=hQ (Np.alloc (dO (.slice ak (d5 g.items i).key.length ck) (.slice none 0 0) true));have MT:=hQ (z' h _ _ r (gG g.items i) HR.af.1 HOW.af ⟨by have:=HR.af.2.1.lo;omega,by have:=HR.af.2.1.hi;omega⟩ ⟨by have:=HR.af.2.2.lo;omega,by have:=HR.af.2.2.hi;omega⟩ _ _ (hs1.ej (A1:=Pr.own h)));clear z1 z2 z3 vg hF hs0 hs1 Np rd hc hbk qR hit hb hlo mK hr nr sQ hfit
   generalize gG g.items i=RO at*;generalize d5 g.items i=y at*;go_enter Tryz.func80,Tryz.ntmps80
   go_wp2_with fail
   refine MT.af.mono ?_;rintro e w5 ⟨iL,hm,QX,rfl,BW,gu⟩;obtain⟨_,_,rfl,Qt,Ue⟩:=id BW;obtain⟨al,cl,rfl,_⟩:=eL Qt;obtain⟨ah,ch,rfl,_⟩:=eL Ue;clear Qt Ue;generalize Uf:gW r RO=RM at*;have HQ:=hQ Uf;clear Uf;have gQ:=dS.mH gu;have iM:=hQ (eR.af.trans iL);have Nn:=hQ BW;have mY:=hQ gQ;clear d0 MT;have c1:=gQ.fx;clear gu gQ iL BW HOW HR eR;generalize w.heap.size+1+1+1=BO at*;generalize w.heap.size+1+1=BR at*;go_wp2;have h5:=((mY.af.set BR 0 (.slice al RM.lo.length cl)).set BR 1 (.slice ah RM.hi.length ch)).set BR 2 (.bool RM.op)
   have lV:=hQ (((iM.af.setCell ⟨BR,0,none⟩ (.slice al RM.lo.length cl)).setCell ⟨BR,1,none⟩ (.slice ah RM.hi.length ch)).setCell ⟨BR,2,none⟩ (.bool RM.op));refine bodyPost_ret (results_cell_row rfl _ _ BR _ _ _ _ rfl (h5.pts BR).dL Tryz.underlying64 rfl kQ) rfl ?_
   exact⟨lV.af,hm,_,rfl,by rw [HQ.af];exact Nn.af,(h5.to (M:= [Pr.own hm,Pr.own h,F])).sat.perm (by simp only [eJ,Pr.ei])⟩
end Go.Proofs.YtiegeadmgpanoaaGreatDoor.D2
