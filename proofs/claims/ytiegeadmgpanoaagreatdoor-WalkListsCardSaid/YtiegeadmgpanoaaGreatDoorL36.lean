/- The document's checker looks at a page and at all beneath it; the conditions stand as hypotheses. -/
import Derived.Test.YtiegeadmgpanoaaGreatDoorL35
import Derived.Test.YtiegeadmgpanoaaGreatDoorL34
set_option maxRecDepth 100000
set_option maxHeartbeats 16000000
namespace Go.Proofs.YtiegeadmgpanoaaGreatDoor.D2
open ChangeShapes WideShapes ChangeAt RowKit Sl fB L3 Z3 E4 X6 X5
def jA(root:Bool)(lv:Nat):Int:=if root then(if lv=0 then 1 else 2) else 4
def JV(r:Nat)(s:ef)(gs:List dR)(hush:iJ)(x:RX):Pr:=
 (Pr.pts r (mg s.refs x.cv x.lv x.pv hush)).star ((dX x.cv s.counts).star ((eK x.lv s.last).star (kN x.pv x.xs gs)))
theorem yt(r:Nat)(s:ef)(gs:List dR)(hush:iJ)(x:RX):eE r s gs hush x=(JV r s gs hush x).star (Pr.own x.h):=by
 unfold eE JV;ac_rfl
theorem yu {c r b cap:Nat}{s:ef}{gs:List dR}{hush:iJ}{x:RX}{M:List Int}{keys:Int}{h hu:Hp}{T:List Pr}{w:World}(HU:Pr.own hu=(Pr.own x.h).star (Pr.own h))(o:dS (kO c r b cap s gs hush x M keys (Pr.own h :: T)) w):
 dS (Pr.own hu :: JV r s gs hush x :: Pr.pts c (Kl r b cap s.counts.length keys) :: vm b cap s.counts.length M :: T) w:=
 ⟨o.sat.perm (by simp only [eJ];rw [HU,yt];ac_rfl)⟩
theorem Mm {c r b cap:Nat}{s:ef}{gs:List dR}{hush:iJ}{x:RX}{M:List Int}{keys:Int}{h hu:Hp}{T:List Pr}{w:World}(HU:Pr.own hu=(Pr.own x.h).star (Pr.own h))(o:dS (Pr.own hu :: JV r s gs hush x :: Pr.pts c (Kl r b cap s.counts.length keys) :: vm b cap s.counts.length M :: T) w):
 dS (kO c r b cap s gs hush x M keys (Pr.own h :: T)) w:=
 ⟨o.sat.perm (by simp only [eJ];rw [HU,yt];ac_rfl)⟩
theorem Mp {c r b cap:Nat}{s:ef}{gs:List dR}{hush:iJ}{x:RX}{M:List Int}{keys:Int}{h:Hp}{T:List Pr}{w:World}(o:dS (kO c r b cap s gs hush x M keys (Pr.own h :: T)) w):x.h.zj h:=by
 have h1:Sat ((Pr.own x.h).star ((Pr.own h).star ((JV r s gs hush x).star ((Pr.pts c (Kl r b cap s.counts.length keys)).star ((vm b cap s.counts.length M).star (eJ T)))))) w:=o.sat.perm (by simp only [eJ];rw [yt];ac_rfl);exact(Sat.jT h1).1
def BX(r:Nat)(s:ef)(gs:List dR)(hush:iJ)(x:RX)(look:Int→Option dR)(lv:Nat):Prop:= ∀(c b cap:Nat) (M:List Int) (keys n:Int) (root:Bool) (rg:fw) (h:Hp) (rv:Value),0≤keys→keys+((8 ^ (lv+1):Nat):Int)≤4611686018427387904→gJ h rv rg→nN 24 rg→∀(F:Pr) (w:World),dS (kO c r b cap s gs hush x M keys [Pr.own h,F]) w→
 Calls Tryz.prog 42 #[.pointer (some ⟨c,0,none⟩),.int .i64 n,.int .i64 lv,rv,.bool root] w fun e w'=>dN w w'∧e= .returned (.int .i64 (fq look lv n (jA root lv) rg (M,keys)).1)∧dS (kO c r b cap s gs hush x (fq look lv n (jA root lv) rg (M,keys)).2.1 (fq look lv n (jA root lv) rg (M,keys)).2.2 [Pr.own h,F]) w'
theorem Gk(r:Nat)(s:ef)(gs:List dR)(hush:iJ)(x:RX)(ok:yk s gs x)(look:Int→Option dR)(hl:kT s gs look)(j6:iT look):BX r s gs hush x look 0:=by
 intro c b cap M keys n root rg h rv qn hk1 hr nr F w hF;obtain⟨lo,hi,rfl,hlo,mK⟩:=id hr;obtain⟨rl,dl,rfl,_⟩:=eL hlo;obtain⟨rh,dh,rfl,_⟩:=eL mK;obtain⟨hu,za⟩:∃hu,x.h.un h=hu:=⟨_,rfl⟩;have hd:=Mp hF;have HU:=hQ (show Pr.own hu=(Pr.own x.h).star (Pr.own h) from za ▸ BQ hd)
 have QY:=hQ (And.intro (show h.sub hu from za ▸ Hp.fZ hd) (show x.h.sub hu from za ▸ Hp.fE x.h h));have hs0:=hF.alloc (dO (.slice rl rg.lo.length dl) (.slice rh rg.hi.length dh) rg.op)
 have EN:=hQ (sY c r b cap s gs hush x ok look hl M keys n _ _ (dS.Qk (hs0.vB (A1:=eE r s gs hush x) (A2:=Pr.pts c (Kl r b cap s.counts.length keys)) (A3:=vm b cap s.counts.length M))));have eR:=hQ ((dN.refl w).alloc (dO (.slice rl rg.lo.length dl) (.slice rh rg.hi.length dh) rg.op));have HR:=hQ (And.intro hr nr);have HL:=hQ (And.intro ok (And.intro hl j6))
 have HK:=hQ (And.intro qn hk1);have c1:=hs0.fx;clear hF hs0 hlo mK hr nr hl j6 qn hk1 ok hd za;rw [show ((0:Nat):Int)=0 from rfl];go_enter Tryz.func42,Tryz.ntmps42
 go_wp2_with fail
 refine EN.af.mono ?_;rintro e w1 ⟨fN,(⟨hen,rfl,hs1⟩ | ⟨g,hen,rfl,hs1⟩)⟩
 · have HV:=hQ (show fq look 0 n (jA root 0) rg (M,keys)=(15,(M,keys)) from by
    conv=>lhs;unfold fq
    simp only [hen])
   have hs2:=hs1.flat;have eQ:=hQ (eR.af.trans fN);have HE:=hQ (hs2.to (M:=kO c r b cap s gs hush x M keys [Pr.own h,F]));clear c1;have c1:=hs2.fx;clear hs1 hs2 fN EN hen eR;go_wp2;go_ret;rw [HV.af];exact⟨eQ.af,rfl,HE.af⟩
 · have hlk:look n=some g:=by
    unfold gy at hen;split at hen
    · cases hen
    · exact hen
   have nH:=HL.af.2.2.uH n g hlk;have hfm:=je nH;have hfit:=fU nH;have hs2:=hs1.flat;obtain⟨j,cp,bp,iG,iE,gX,iF,rfl,hj,q3,y1,y2,oK,d0,d1,d2,d3,d4⟩:=lX HL.af.1 HL.af.2.1 hlk (hs2.ej (A1:=eE r s gs hush x));have hj2:(j:Int)<(s.counts.length:Int):=by omega
   have rH:=HL.af.1.n2;have Nl:(j:Int)≤65536:=by omega
   have fP:=hs2.alloc (dV g.kind g.level (.slice iG g.items.length gX) (.slice iE g.data.length iF) g.next);have eQ:=hQ ((eR.af.trans fN).alloc (dV g.kind g.level (.slice iG g.items.length gX) (.slice iE g.data.length iF) g.next));clear c1;have c1:=hs2.fx;have F8:=hQ oK;have j8:=hQ fP;have DF:=hQ (And.intro nH hfit)
   have Hf:g.items.length≤8:=hfit.n;have QW:(g.items.length:Int)≤8:=by omega
   clear hs1 hs2 fP fN EN eR oK nH hfit hlk;by_cases kH:g.kind=1
   · by_cases hq:root=false∧(g.items.length:Int)<4
     · obtain⟨rfl,hq⟩:=hq
       have HV:=hQ (show fq look 0 ((j:Int)+1) (jA false 0) rg (M,keys)=(5,(((j:Int)+1) :: M,keys)) from by
        conv=>lhs;unfold fq
        simp only [hen]
        rw [if_neg (show ¬(g.kind≠1) from fun h=>h kH),if_pos (show (g.items.length:Int)<jA false 0 from hq)])
       have HE:=hQ (j8.af.to (M:=kO c r b cap s gs hush x (((j:Int)+1) :: M) keys [Pr.own h,F]));have OU:(g.kind != 1)=false:=by rw [kH];rfl
       clear hen j8 hfm kH;go_wp2;go_ret;rw [HV.af];exact⟨eQ.af,rfl,HE.af⟩
     · have HV:=hQ (show fq look 0 ((j:Int)+1) (jA root 0) rg (M,keys)=jE (fun i s=>g_ look (d5 g.items i) rg s) 0 g.items.length (((j:Int)+1) :: M,keys) from by
        conv=>lhs;unfold fq
        simp only [hen]
        rw [if_neg (show ¬(g.kind≠1) from fun h=>h kH),if_neg]
        unfold jA
        cases root
        · intro h9
          exact hq ⟨rfl,h9⟩
        · have:=(hfm.leaf kH).2
          simp only [if_true]
          omega)
       have OU:(g.kind != 1)=false:=by rw [kH];rfl
       have hne:=(hfm.leaf kH).2;have Sk:=hQ kH;clear hen hfm kH;obtain⟨PK,QZ⟩:∃PK,fq look 0 ((j:Int)+1) (jA root 0) rg (M,keys)=PK:=⟨_,rfl⟩;have OW:=hQ QZ;have Ug:=hQ (QZ.symm.trans HV.af);obtain⟨_,_,qy,hit,_⟩:=F8.af.sub QY.af.2;simp only [fX,Value.agg.injEq,Array.mk.injEq,List.cons.injEq,and_true,true_and] at qy;obtain⟨rfl,rfl⟩:=qy;obtain⟨_,_,e9,_,rd⟩:=fL hit
       cases e9;have RD:=hQ rd;have HPU:=hQ (F8.af.sub QY.af.2);have An:=hQ (HR.af.1.sub QY.af.1)
       have mY:=hQ (j8.af.to (M:=kO c r b cap s gs hush x (((j:Int)+1) :: M) keys [Pr.own h,Pr.pts w1.heap.size (dV g.kind g.level (.slice iG g.items.length gX) (.slice iE g.data.length iF) g.next),Pr.pts w.heap.size (dO (.slice rl rg.lo.length dl) (.slice rh rg.hi.length dh) rg.op),F]));have Uh:=hQ hq;clear QZ HV hit rd F8 j8 hq;rcases root with _ | _
       all_goals
        (try have hq3:¬(g.items.length:Int)<4:=fun h=>Uh.af ⟨rfl,h⟩
         clear Uh
         go_wp2
         clear c1 q3 y1 y2 d0 d1 d2 d3 d4
         generalize w1.heap.size=J at*
         generalize w.heap.size=BG at*
         generalize w1.alloc (dV g.kind g.level (.slice iG g.items.length gX) (.slice iE g.data.length iF) g.next)=w2 at*
         go_loopw [12] (fun t wr=> ∃(i:Nat) (Mi:List Int) (ki:Int),i≤g.items.length∧t= .int .i64 i∧dN w wr∧Hid (PK=jE (fun i s=>g_ look (d5 g.items i) rg s) i (g.items.length-i) (Mi,ki))∧Hid (keys≤ki∧ki≤keys+((i*(1):Nat):Int))∧dS (kO c r b cap s gs hush x Mi ki [Pr.own h,Pr.pts J (dV g.kind g.level (.slice iG g.items.length gX) (.slice iE g.data.length iF) g.next),Pr.pts BG (dO (.slice rl rg.lo.length dl) (.slice rh rg.hi.length dh) rg.op),F]) wr) (fun t _=>g.items.length-(intOf t).toNat)
         case atStart=>exact⟨0,((j:Int)+1) :: M,keys,aG _,rfl,eQ.af,Ug,hQ ⟨aY _,by simp⟩,mY.af⟩
         case round=>
          obtain⟨i,Mi,ki,hi,rfl,hst,heq,hkb,mh⟩:=hrel
          rename World=>wr
          clear eQ mY Ug
          have eR:=hQ hst
          have Eo:=hQ mh
          have c1:=mh.fx
          rcases aB i g.items.length with hlt | hge
          · obtain⟨b1,off,ak,ck,av,cv,rfl,hbk,qR,hc⟩:=RD.af i hlt
            have Q0:=yu HU.af mh
            obtain⟨d0,d1,d2,d3⟩:=hc wr (Q0.le (a:=hu))
            have zb:=ay _ _ d0
            rw [← gn hlt] at hbk qR d0 d1 d2 d3
            obtain⟨nH,hfit⟩:=DF.af
            have Ep:=jF hlt
            have hy1:=hfit.k _ Ep
            have zc:=hkb.af
            have wF:=(sZ look (d5 g.items i) rg (Mi,ki))
            have P4:i*(1)+(1)≤8*(1):=by
             rw [← bJ]
             exact bM _ (by omega)
            have Gh:=HK.af
            have uo:=hQ (heq.af.trans (show jE (fun i s=>g_ look (d5 g.items i) rg s) i (g.items.length-i) (Mi,ki)=if(g_ look (d5 g.items i) rg (Mi,ki)).1≠0 then g_ look (d5 g.items i) rg (Mi,ki) else jE (fun i s=>g_ look (d5 g.items i) rg s) (i+1) (g.items.length-(i+1)) (g_ look (d5 g.items i) rg (Mi,ki)).2 from by
             rw [show g.items.length-i=(g.items.length-(i+1))+1 by omega]
             rfl))
            have Gi:=hQ (show keys≤(g_ look (d5 g.items i) rg (Mi,ki)).2.2∧(g_ look (d5 g.items i) rg (Mi,ki)).2.2≤keys+(((i+1)*(1):Nat):Int) from by
             obtain⟨z1,z2⟩:=wF
             rw [bJ]
             simp only at z1 z2
             omega)
            have hil:(i:Int)<(g.items.length:Int):=by omega
            have Mk:=rL g.kind g.items 0 [] (ln nH) _ Ep
            have hsz:(d5 g.items i).size≤3840:=by
             unfold jB at Mk
             rw [if_neg (by have:=Sk.af;omega)] at Mk
             split at Mk
             · omega
             · cases Mk
            have IC:=hQ (JP c r b cap s gs hush x HL.af.1 look HL.af.2.1 Mi ki (by omega) (d5 g.items i) rg hu _ _ ⟨_,_,rfl,hbk,qR⟩ An.af (by omega) hsz _ _ (Q0.drew.le (a:=hu)) (dS.Qk (mh.drew.vB (A1:=eE r s gs hush x) (A2:=Pr.pts c (Kl r b cap s.counts.length ki)) (A3:=vm b cap s.counts.length Mi))))
            clear hst heq hkb mh Q0 hbk qR hc nH hfit Ep hy1 zc wF P4 Gh Mk hsz Eo
            generalize g_ look (d5 g.items i) rg (Mi,ki)=RE at*
            generalize d5 g.items i=y at*
            go_wp2
            refine wS 106 [0,1,2,3,4,5,6] [(7,[8],[1,2,3,4])] ?_
            refine dY _ rfl rfl ?_
            simp only [pick,pQ]
            iterate 7 (go_big_quiet_step (fail))
            refine wpQuiet_nil ?_
            refine dK rfl ?_
            go_wp2_with fail
            refine IC.af.mono ?_
            rintro e w5 ⟨iL,rfl,gu⟩
            have gQ:=gu.flat
            have BU:=hQ gQ
            have qw:=hQ (eR.af.drew.trans iL)
            clear c1 d0 d1 d2 d3 zb
            have c1:=gQ.fx
            have lA:=uo.af
            clear gu gQ iL IC uo
            by_cases he:RE.1=0
            · rw [he,if_neg (by simp)] at lA
              have BV:=hQ lA
              have OX:=hQ (BU.af.to (M:=kO c r b cap s gs hush x RE.2.1 RE.2.2 [Pr.own h,Pr.pts J (dV g.kind g.level (.slice (some ⟨b1,off,none⟩) g.items.length gX) (.slice iE g.data.length iF) g.next),Pr.pts BG (dO (.slice rl rg.lo.length dl) (.slice rh rg.hi.length dh) rg.op),F]))
              rw [he]
              clear lA he
              go_wp2
              refine dQ ?_
              refine dY _ rfl rfl ?_
              simp only [pick,pQ]
              iterate 1 (go_big_quiet_step (fail))
              refine wpQuiet_nil ⟨?_,?_⟩
              · exact cQ
              refine dW ?_
              go_wp2
              go_roundw
              case rel=>exact⟨i+1,RE.2.1,RE.2.2,by omega,congrArg (Value.int .i64) (by omega),qw.af,BV,Gi,OX.af⟩
              case measure=>simp [intOf];omega
            · rw [if_pos he] at lA
              have HQ:=hQ lA
              have hb1:(RE.1 != 0)=true:=bne_iff_ne.2 he
              have HE:=hQ (BU.af.to (M:=kO c r b cap s gs hush x RE.2.1 RE.2.2 [Pr.own h,F]))
              clear lA he BU
              go_wp2
              refine dQ ?_
              refine dY _ rfl rfl ?_
              simp only [pick,pQ]
              iterate 1 (go_big_quiet_step (fail))
              refine wpQuiet_nil ⟨?_,?_⟩
              · exact cQ
              refine dW ?_
              go_wp2
              go_ret
              rw [OW.af,HQ.af]
              exact⟨qw.af,rfl,HE.af⟩
          · have hie:i=g.items.length:=by omega
            have h0:jE (fun i s=>g_ look (d5 g.items i) rg s) i (g.items.length-i) (Mi,ki)=(0,(Mi,ki)):=by
             rw [hie,b_]
             rfl
            have HQ:=hQ (heq.af.trans h0)
            have HE:=hQ (Eo.af.to (M:=kO c r b cap s gs hush x Mi ki [Pr.own h,F]))
            clear hst heq hkb mh h0 Eo
            subst hie
            go_wp2
            go_ret
            rw [OW.af,HQ.af]
            exact⟨eR.af,rfl,HE.af⟩)
   · have HV:=hQ (show fq look 0 ((j:Int)+1) (jA root 0) rg (M,keys)=(15,(((j:Int)+1) :: M,keys)) from by
      conv=>lhs;unfold fq
      simp only [hen]
      rw [if_pos kH])
     have HE:=hQ (j8.af.to (M:=kO c r b cap s gs hush x (((j:Int)+1) :: M) keys [Pr.own h,F]));have OU:(g.kind != 1)=true:=bne_iff_ne.2 kH;clear hen j8 hfm kH;go_wp2;go_ret;rw [HV.af];exact⟨eQ.af,rfl,HE.af⟩
end Go.Proofs.YtiegeadmgpanoaaGreatDoor.D2
namespace Go.Proofs.YtiegeadmgpanoaaGreatDoor.D2
open ChangeShapes WideShapes ChangeAt RowKit Sl fB L3 Z3 E4 X6 X5
theorem DY(r:Nat)(s:ef)(gs:List dR)(hush:iJ)(x:RX)(ok:yk s gs x)(look:Int→Option dR)(hl:kT s gs look)(j6:iT look)(lv:Nat)(ih:BX r s gs hush x look lv):BX r s gs hush x look (lv+1):=by
 intro c b cap M keys n root rg h rv qn hk1 hr nr F w hF;obtain⟨lo,hi,rfl,hlo,mK⟩:=id hr;obtain⟨rl,dl,rfl,_⟩:=eL hlo;obtain⟨rh,dh,rfl,_⟩:=eL mK;obtain⟨hu,za⟩:∃hu,x.h.un h=hu:=⟨_,rfl⟩;have hd:=Mp hF;have HU:=hQ (show Pr.own hu=(Pr.own x.h).star (Pr.own h) from za ▸ BQ hd)
 have QY:=hQ (And.intro (show h.sub hu from za ▸ Hp.fZ hd) (show x.h.sub hu from za ▸ Hp.fE x.h h));have hs0:=hF.alloc (dO (.slice rl rg.lo.length dl) (.slice rh rg.hi.length dh) rg.op)
 have EN:=hQ (sY c r b cap s gs hush x ok look hl M keys n _ _ (dS.Qk (hs0.vB (A1:=eE r s gs hush x) (A2:=Pr.pts c (Kl r b cap s.counts.length keys)) (A3:=vm b cap s.counts.length M))));have eR:=hQ ((dN.refl w).alloc (dO (.slice rl rg.lo.length dl) (.slice rh rg.hi.length dh) rg.op));have HR:=hQ (And.intro hr nr);have HL:=hQ (And.intro ok (And.intro hl j6))
 have HK:=hQ (And.intro qn hk1);have c1:=hs0.fx;clear hF hs0 hlo mK hr nr hl j6 qn hk1 ok hd za;have IH:=hQ ih;clear ih;rw [show ((lv+1:Nat):Int)=(lv:Int)+1 by omega];have WG:((lv:Int)+1 == 0)=false:=by rw [beq_eq_false_iff_ne];omega
 have hv1:(0:Int)<(lv:Int)+1:=by omega
 go_enter Tryz.func42,Tryz.ntmps42
 go_wp2_with fail
 refine EN.af.mono ?_;rintro e w1 ⟨fN,(⟨hen,rfl,hs1⟩ | ⟨g,hen,rfl,hs1⟩)⟩
 · have HV:=hQ (show fq look (lv+1) n (jA root (lv+1)) rg (M,keys)=(15,(M,keys)) from by
    conv=>lhs;unfold fq
    simp only [hen])
   have hs2:=hs1.flat;have eQ:=hQ (eR.af.trans fN);have HE:=hQ (hs2.to (M:=kO c r b cap s gs hush x M keys [Pr.own h,F]));clear c1;have c1:=hs2.fx;clear hs1 hs2 fN EN hen eR;go_wp2;go_ret;rw [HV.af];exact⟨eQ.af,rfl,HE.af⟩
 · have hlk:look n=some g:=by
    unfold gy at hen;split at hen
    · cases hen
    · exact hen
   have nH:=HL.af.2.2.uH n g hlk;have hfm:=je nH;have hfit:=fU nH;have hs2:=hs1.flat;obtain⟨j,cp,bp,iG,iE,gX,iF,rfl,hj,q3,y1,y2,oK,d0,d1,d2,d3,d4⟩:=lX HL.af.1 HL.af.2.1 hlk (hs2.ej (A1:=eE r s gs hush x));have hj2:(j:Int)<(s.counts.length:Int):=by omega
   have rH:=HL.af.1.n2;have Nl:(j:Int)≤65536:=by omega
   have fP:=hs2.alloc (dV g.kind g.level (.slice iG g.items.length gX) (.slice iE g.data.length iF) g.next);have eQ:=hQ ((eR.af.trans fN).alloc (dV g.kind g.level (.slice iG g.items.length gX) (.slice iE g.data.length iF) g.next));clear c1;have c1:=hs2.fx;have F8:=hQ oK;have j8:=hQ fP;have DF:=hQ (And.intro nH hfit)
   have Hf:g.items.length≤8:=hfit.n;have QW:(g.items.length:Int)≤8:=by omega
   clear hs1 hs2 fP fN EN eR oK nH hfit hlk;by_cases kH:g.kind=2∧g.level=(lv:Int)+1
   · by_cases hq:root=false∧(g.items.length:Int)<4
     · obtain⟨rfl,hq⟩:=hq
       have HV:=hQ (show fq look (lv+1) ((j:Int)+1) (jA false (lv+1)) rg (M,keys)=(5,(((j:Int)+1) :: M,keys)) from by
        conv=>lhs;unfold fq
        simp only [hen]
        rw [if_neg (show ¬¬(g.kind=2∧g.level=(lv:Int)+1) from fun h=>h kH),if_pos (show (g.items.length:Int)<jA false (lv+1) from hq)])
       have HE:=hQ (j8.af.to (M:=kO c r b cap s gs hush x (((j:Int)+1) :: M) keys [Pr.own h,F]));have OU:(g.kind != 2)=false:=by rw [kH.1];rfl
       have Uc:(g.level != (lv:Int)+1)=false:=by rw [kH.2];simp
       clear hen j8 hfm kH;go_wp2;go_ret;rw [HV.af];exact⟨eQ.af,rfl,HE.af⟩
     · have HV:=hQ (show fq look (lv+1) ((j:Int)+1) (jA root (lv+1)) rg (M,keys)=jE (fun i s=>fq look lv (d5 g.items i).child 4 (gW rg (gG g.items i)) s) 0 g.items.length (((j:Int)+1) :: M,keys) from by
        conv=>lhs;unfold fq
        simp only [hen]
        rw [if_neg (show ¬¬(g.kind=2∧g.level=(lv:Int)+1) from fun h=>h kH),if_neg]
        unfold jA
        cases root
        · intro h9
          exact hq ⟨rfl,h9⟩
        · have:=(hfm.index kH.1).2.2
          simp only [if_true,Nat.add_eq_zero_iff,Nat.one_ne_zero,and_false,if_false]
          omega)
       have OU:(g.kind != 2)=false:=by rw [kH.1];rfl
       have Uc:(g.level != (lv:Int)+1)=false:=by rw [kH.2];simp
       have hne:¬(g.items.length:Int)<2:=by have:=(hfm.index kH.1).2.2;omega
       have Ym:(lv:Int)≤11:=by have:=(hfm.index kH.1).2.1;omega
       have Sk:=hQ kH;clear hen hfm kH;obtain⟨PK,QZ⟩:∃PK,fq look (lv+1) ((j:Int)+1) (jA root (lv+1)) rg (M,keys)=PK:=⟨_,rfl⟩;have OW:=hQ QZ;have Ug:=hQ (QZ.symm.trans HV.af);obtain⟨_,_,qy,hit,_⟩:=F8.af.sub QY.af.2;simp only [fX,Value.agg.injEq,Array.mk.injEq,List.cons.injEq,and_true,true_and] at qy;obtain⟨rfl,rfl⟩:=qy;obtain⟨_,_,e9,_,rd⟩:=fL hit;cases e9
       have RD:=hQ rd;have HPU:=hQ (F8.af.sub QY.af.2);have An:=hQ (HR.af.1.sub QY.af.1);have mY:=hQ (j8.af.to (M:=kO c r b cap s gs hush x (((j:Int)+1) :: M) keys [Pr.own h,Pr.pts w1.heap.size (dV g.kind g.level (.slice iG g.items.length gX) (.slice iE g.data.length iF) g.next),Pr.pts w.heap.size (dO (.slice rl rg.lo.length dl) (.slice rh rg.hi.length dh) rg.op),F]))
       have Uh:=hQ hq;clear QZ HV hit rd F8 j8 hq;rcases root with _ | _
       all_goals
        (try have hq3:¬(g.items.length:Int)<4:=fun h=>Uh.af ⟨rfl,h⟩
         clear Uh
         go_wp2
         clear c1 q3 y1 y2 d0 d1 d2 d3 d4
         generalize w1.heap.size=J at*
         generalize w.heap.size=BG at*
         generalize w1.alloc (dV g.kind g.level (.slice iG g.items.length gX) (.slice iE g.data.length iF) g.next)=w2 at*
         go_loopw [12] (fun t wr=> ∃(i:Nat) (Mi:List Int) (ki:Int),i≤g.items.length∧t= .int .i64 i∧dN w wr∧Hid (PK=jE (fun i s=>fq look lv (d5 g.items i).child 4 (gW rg (gG g.items i)) s) i (g.items.length-i) (Mi,ki))∧Hid (keys≤ki∧ki≤keys+((i*(8 ^ (lv+1)):Nat):Int))∧dS (kO c r b cap s gs hush x Mi ki [Pr.own h,Pr.pts J (dV g.kind g.level (.slice iG g.items.length gX) (.slice iE g.data.length iF) g.next),Pr.pts BG (dO (.slice rl rg.lo.length dl) (.slice rh rg.hi.length dh) rg.op),F]) wr) (fun t _=>g.items.length-(intOf t).toNat)
         case atStart=>exact⟨0,((j:Int)+1) :: M,keys,aG _,rfl,eQ.af,Ug,hQ ⟨aY _,by simp⟩,mY.af⟩
         case round=>
          obtain⟨i,Mi,ki,hi,rfl,hst,heq,hkb,mh⟩:=hrel
          rename World=>wr
          clear eQ mY Ug
          have eR:=hQ hst
          have Eo:=hQ mh
          have c1:=mh.fx
          rcases aB i g.items.length with hlt | hge
          · obtain⟨b1,off,ak,ck,av,cv,rfl,hbk,qR,hc⟩:=RD.af i hlt
            have Q0:=yu HU.af mh
            obtain⟨d0,d1,d2,d3⟩:=hc wr (Q0.le (a:=hu))
            have zb:=ay _ _ d0
            rw [← gn hlt] at hbk qR d0 d1 d2 d3
            obtain⟨nH,hfit⟩:=DF.af
            have Ep:=jF hlt
            have hy1:=hfit.k _ Ep
            have zc:=hkb.af
            have wF:=(qh (fun n g h=>(fU (HL.af.2.2.uH n g h)).n) lv (d5 g.items i).child 4 (gW rg (gG g.items i)) (Mi,ki))
            have P4:i*(8 ^ (lv+1))+(8 ^ (lv+1))≤8*(8 ^ (lv+1)):=by
             rw [← bJ]
             exact bM _ (by omega)
            have Gh:=HK.af
            have uo:=hQ (heq.af.trans (show jE (fun i s=>fq look lv (d5 g.items i).child 4 (gW rg (gG g.items i)) s) i (g.items.length-i) (Mi,ki)=if(fq look lv (d5 g.items i).child 4 (gW rg (gG g.items i)) (Mi,ki)).1≠0 then fq look lv (d5 g.items i).child 4 (gW rg (gG g.items i)) (Mi,ki) else jE (fun i s=>fq look lv (d5 g.items i).child 4 (gW rg (gG g.items i)) s) (i+1) (g.items.length-(i+1)) (fq look lv (d5 g.items i).child 4 (gW rg (gG g.items i)) (Mi,ki)).2 from by
             rw [show g.items.length-i=(g.items.length-(i+1))+1 by omega]
             rfl))
            have Gi:=hQ (show keys≤(fq look lv (d5 g.items i).child 4 (gW rg (gG g.items i)) (Mi,ki)).2.2∧(fq look lv (d5 g.items i).child 4 (gW rg (gG g.items i)) (Mi,ki)).2.2≤keys+(((i+1)*(8 ^ (lv+1)):Nat):Int) from by
             obtain⟨z1,z2⟩:=wF
             rw [bJ]
             simp only at z1 z2
             omega)
            have hil:(i:Int)<(g.items.length:Int):=by omega
            have sQ:nN 24 (gG g.items i):=yr (fun x hx=>(hfit.k x hx).1) i
            have P5:=hQ (fun(h:Hp) (rv:Value) h3 (G:Pr) (wx:World) hF=>IH.af c b cap Mi ki (d5 g.items i).child false (gW rg (gG g.items i)) h rv (by omega) (by omega) h3 (rI HR.af.2 sQ) G wx hF)
            have WC:=hQ (DX hu _ _ g HPU.af i hlt hfit rg An.af HR.af.2 _ _ (Q0.drew.ej (A1:=Pr.own hu)))
            rw [show jA false lv=4 from rfl] at P5
            have HCC:=hQ (fun w hl=>by have:=hc w hl;rw [← gn hlt] at this;exact this:∀w,hu.le w→ _)
            clear hst heq hkb mh Q0 hbk qR hc nH hfit Ep hy1 zc wF P4 Gh Eo sQ
            generalize fq look lv (d5 g.items i).child 4 (gW rg (gG g.items i)) (Mi,ki)=RE at*
            generalize d5 g.items i=y at*
            go_wp2
            refine wS 106 [0,1,2,3,4,5,6,7,8,9,10,11] [(12,[],[0,1,2,3,4,5,6,7,8]),(13,[14],[1,2,3,4,5,7])] ?_
            refine dY _ rfl rfl ?_
            simp only [pick,pQ]
            iterate 12 (go_big_quiet_step (fail))
            refine wpQuiet_nil ?_
            refine dK rfl ?_
            go_wp2_with fail
            refine WC.af.mono ?_
            rintro e w5 ⟨iL,hm,QX,rfl,BW,gu⟩
            have gQ:=Mm HU.af ((dS.mH gu).to (M:=Pr.own hu :: JV r s gs hush x :: Pr.pts c (Kl r b cap s.counts.length ki) :: vm b cap s.counts.length Mi :: [Pr.own hm,Pr.pts J (dV g.kind g.level (.slice (some ⟨b1,off,none⟩) g.items.length gX) (.slice iE g.data.length iF) g.next),Pr.pts BG (dO (.slice rl rg.lo.length dl) (.slice rh rg.hi.length dh) rg.op),F]))
            have PC:=hQ (P5.af hm QX BW _ _ (dS.SJ (gQ.Co (A1:=eE r s gs hush x) (A2:=Pr.pts c (Kl r b cap s.counts.length ki)) (A3:=vm b cap s.counts.length Mi) (A4:=Pr.own hm))))
            have Ui:=yu HU.af gQ
            have F5:=hQ (Ui.le (a:=hu))
            have DW:=hQ (eR.af.drew.trans iL)
            clear c1 d0 d1 d2 d3 zb WC
            obtain⟨d0,d1,d2,d3⟩:=HCC.af w5 F5.af
            have c1:=gQ.fx
            clear gu gQ iL BW Ui F5
            go_wp2
            refine dQ ?_
            refine dU ⟨?_,?_⟩
            · exact cQ
            refine dK rfl ?_
            go_wp2_with fail
            refine PC.af.mono ?_
            rintro e w6 ⟨Bs,rfl,gZ⟩
            have gp:=gZ.flat
            have BU:=hQ gp
            have qw:=hQ (DW.af.trans Bs)
            clear c1 d0 d1 d2 d3
            have c1:=gp.fx
            have lA:=uo.af
            clear gZ gp Bs PC DW uo P5
            by_cases he:RE.1=0
            · rw [he,if_neg (by simp)] at lA
              have BV:=hQ lA
              have OX:=hQ (BU.af.to (M:=kO c r b cap s gs hush x RE.2.1 RE.2.2 [Pr.own h,Pr.pts J (dV g.kind g.level (.slice (some ⟨b1,off,none⟩) g.items.length gX) (.slice iE g.data.length iF) g.next),Pr.pts BG (dO (.slice rl rg.lo.length dl) (.slice rh rg.hi.length dh) rg.op),F]))
              rw [he]
              clear lA he
              go_wp2
              refine dQ ?_
              refine dY _ rfl rfl ?_
              simp only [pick,pQ]
              iterate 1 (go_big_quiet_step (fail))
              refine wpQuiet_nil ⟨?_,?_⟩
              · exact cQ
              refine dW ?_
              go_wp2
              go_roundw
              case rel=>exact⟨i+1,RE.2.1,RE.2.2,by omega,congrArg (Value.int .i64) (by omega),qw.af,BV,Gi,OX.af⟩
              case measure=>simp [intOf];omega
            · rw [if_pos he] at lA
              have HQ:=hQ lA
              have hb1:(RE.1 != 0)=true:=bne_iff_ne.2 he
              have HE:=hQ (BU.af.to (M:=kO c r b cap s gs hush x RE.2.1 RE.2.2 [Pr.own h,F]))
              clear lA he BU
              go_wp2
              refine dQ ?_
              refine dY _ rfl rfl ?_
              simp only [pick,pQ]
              iterate 1 (go_big_quiet_step (fail))
              refine wpQuiet_nil ⟨?_,?_⟩
              · exact cQ
              refine dW ?_
              go_wp2
              go_ret
              rw [OW.af,HQ.af]
              exact⟨qw.af,rfl,HE.af⟩
          · have hie:i=g.items.length:=by omega
            have h0:jE (fun i s=>fq look lv (d5 g.items i).child 4 (gW rg (gG g.items i)) s) i (g.items.length-i) (Mi,ki)=(0,(Mi,ki)):=by
             rw [hie,b_]
             rfl
            have HQ:=hQ (heq.af.trans h0)
            have HE:=hQ (Eo.af.to (M:=kO c r b cap s gs hush x Mi ki [Pr.own h,F]))
            clear hst heq hkb mh h0 Eo
            subst hie
            go_wp2
            go_ret
            rw [OW.af,HQ.af]
            exact⟨eR.af,rfl,HE.af⟩)
   · have HV:=hQ (show fq look (lv+1) ((j:Int)+1) (jA root (lv+1)) rg (M,keys)=(15,(((j:Int)+1) :: M,keys)) from by
      conv=>lhs;unfold fq
      simp only [hen]
      rw [if_pos kH])
     have HE:=hQ (j8.af.to (M:=kO c r b cap s gs hush x (((j:Int)+1) :: M) keys [Pr.own h,F]));by_cases hk2:g.kind=2
     · have OU:(g.kind != 2)=false:=by rw [hk2];rfl
       have Uc:(g.level != (lv:Int)+1)=true:=bne_iff_ne.2 fun e=>kH ⟨hk2,e⟩
       clear hen j8 hfm kH hk2;go_wp2;go_ret;rw [HV.af];exact⟨eQ.af,rfl,HE.af⟩
     · have OU:(g.kind != 2)=true:=bne_iff_ne.2 hk2
       clear hen j8 hfm kH hk2;go_wp2;go_ret;rw [HV.af];exact⟨eQ.af,rfl,HE.af⟩
end Go.Proofs.YtiegeadmgpanoaaGreatDoor.D2
