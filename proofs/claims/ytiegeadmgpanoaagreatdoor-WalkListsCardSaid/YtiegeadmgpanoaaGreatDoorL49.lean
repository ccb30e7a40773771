/- The law WalkLists walked: List, Scan and Back of any ranges; the conditions stand as hypotheses. -/
import Derived.Test.YtiegeadmgpanoaaGreatDoorL48
import Derived.Test.YtiegeadmgpanoaaGreatDoorL47
set_option maxRecDepth 100000
set_option maxHeartbeats 16000000
namespace Go.Proofs.YtiegeadmgpanoaaGreatDoor.D2
open ChangeShapes WideShapes ChangeAt RowKit Sl fB L3 Z3 E4 X6 M8 Go.Shelf X5 Y8 D9 Deep V5 M3 Q3 J4 Q8 N9
attribute [local go_sem] Oper.semAt_some
theorem Pf {cs:List Int}{on:Int→Option dR}:∀m,pq cs on m≠none→1≤m∧m≤(cs.length:Int):=fun m hm=>by
 refine pY fun h=>hm ?_
 unfold pq;rw [if_pos h]
theorem Rq:(Tryz.prog.info? 69).map (fun i=>(i.zero,i.size,i.bytes))=some (some .nilFunc,1,8):=by kernel_rfl
theorem Pg:(Tryz.prog.info? 60).map (fun i=>(i.zero,i.size,i.bytes))=some (some (.slice none 0 0),1,24):=by kernel_rfl
theorem El {R:List Pr}{w:World}(h:dS R w):dS (Row 69 1 (.slice none 0 0) ([]:List nu).length (([]:List nu).map gi) :: Row 69 1 (.slice none 0 0) ([]:List nu).length (([]:List nu).map gi) :: Row 60 1 (.slice none 0 0) ([]:List (Value × List fY)).length (([]:List (Value × List fY)).map Prod.fst) :: eN (.slice none 0 0) [] :: big d_ [] :: big ic [] :: big iq [] :: big gU [] :: R) w:=by
 refine⟨h.sat.perm ?_⟩;show eJ R=(Row _ 1 (.slice none 0 0) 0 []).star ((Row _ 1 (.slice none 0 0) 0 []).star ((Row _ 1 (.slice none 0 0) 0 []).star ((Row _ 2 (.slice none 0 0) 0 []).star ((Pr.emp).star ((Pr.emp).star ((Pr.emp).star ((Pr.emp).star (eJ R))))))))
 simp only [Row.nil,Pr.fK]
theorem Gx(refs which kk:Int)(h:Hp)(GE:qj h)(vc vl vt vr:Value)(cs:List Int)(l:List mG)(ts:List ri)(rg:List Es)(hx:r_ h vc cs)(hl:o6 h vl l)(ht:oY h vt ts)(hr:yH h vr rg)(US:∀x∈rg,wT x.2∧nN 140737488351232 x.2)(hu:∀x∈l,∀y∈x.page.items,U8 y.key)(hn:l.length≤9223372036854775807)(F:Pr)(w:World)(hF:dS [Pr.own h,F] w):
 Calls Tryz.prog 6 #[OP refs vc vl vt,.int .i64 which,vr,.int .i64 kk] w fun e w'=>e= .returned (.bool true)∧dN w w'∧dS [Pr.own h,F] w':=by
 have Oo:=hl;have hx0:=hx;have WL:=ht;have hr0:=hr;obtain⟨al,cl,rfl,_⟩:=t_ hl;obtain⟨ac,cc,rfl,_⟩:=oW hx;obtain⟨at',ct,rfl,_⟩:=yw ht;obtain⟨ar,cr,rfl,hcr,hcm,rd⟩:=J_ hr;obtain⟨n,hn0⟩:∃n:Nat,n=min rg.length 200:=⟨_,rfl⟩;have YL:min (rg.length:Int) 200=(n:Int):=by omega
 have hnc:n≤cr:=by omega
 have rH:n≤200:=by omega
 have S6:n≤rg.length:=by omega
 obtain⟨i0,lk,hz0,hz1,jg⟩:=info_parts uC;have hsz:∀w:World,(Go.sizeOf 64).run Tryz.prog w= .ok 3 w:=fun w=>by go_simp
 have hs0:=hF.alloc (iZ refs (.slice ac cs.length cc) (.slice al l.length cl) (.slice at' ts.length ct));have LO:=hQ (yq refs h _ _ at' ts.length ct cs l hx0 Oo hu hn _ _ (hs0.ej (A1:=Pr.own h)));have eR:=hQ ((dN.refl w).alloc (iZ refs (.slice ac cs.length cc) (.slice al l.length cl) (.slice at' ts.length ct)))
 have HH:=hQ (And.intro GE (And.intro WL (And.intro hu (And.intro US hr0))));have RD:=hQ rd;have c1:=hs0.fx;clear hF hs0 hx hl ht hx0 Oo WL hu GE hn hr hr0 US rd hn0 hcr hcm;generalize hLE:jw refs cs l=LE at*;go_enter Tryz.func6,Tryz.ntmps6
 go_wp2_with (first | refine kZ rfl _ _ rfl rfl (rg.length:Int) 200 (n:Int) YL.symm rfl rfl ?_ | refine vX rfl 72 64 _ _ rfl Tryz.underlying72 3 hsz ar rg.length cr n hnc rfl rfl ?_)
 refine LO.af.mono ?_;rintro e w1 ⟨fN,(⟨_,rfl,hs1⟩ | ⟨h0,h4,v,r,rfl,hs1⟩)⟩
 · have hs2:=dS.kS hs1
   have fP:=hs2.to (M:= [Pr.own h,F]);have eQ:=hQ (eR.af.trans fN);have LV:=hQ (rW h HH.af.1 F w1 fP);clear hs1 hs2 fP fN LO eR c1;go_wp2_with fail
   refine LV.af.mono ?_;rintro e w2 ⟨rfl,kU,fp⟩;have fa:=hQ (eQ.af.trans kU);have HE:=hQ fp;clear kU fp LV eQ;go_wp2;go_ret;exact⟨rfl,fa.af,HE.af⟩
 · have hs2:=dS.Wb hs1
   have eQ:=hQ (eR.af.trans fN);have uw:DL cs LE.2:=by rw [← hLE] at h0 ⊢;exact sX h0
   have j6:iT (pq cs LE.2):=by rw [← hLE] at h0 ⊢;exact yD h0 HH.af.2.2.1
   have qo:=hQ (And.intro (DN (refs:=refs) uw) (And.intro (JI (refs:=refs) uw) j6));have HC:=hQ (show (lN refs cs LE.2).pool.counts=(fA refs cs 0).counts from rfl);have HDR:=hQ (fun(n:Int) (G:Pr) (wx:World) (hG:Sat ((dZ v (lN refs cs LE.2)).star G) wx)=>JG v refs cs LE.2 n uw.ok G wx hG)
   have HB8:=hQ (fun(rt ht it:Int) (yY:iW (pq cs LE.2) rt ht it=0)=>(C' j6 yY (n:=cs.length) Pf:it≤8*(cs.length:Int)));have H4:=hQ h4;generalize w.heap.size=IB at*
   have fP:=hs2.to (M:= [Pr.pts IB (iZ refs (.slice ac cs.length cc) (.slice al l.length cl) (.slice at' ts.length ct)),dZ v (lN refs cs LE.2),kJ r (fA refs cs 0) (jK cs.length LE.2) (fM true),Pr.own h,F]);clear hs1 hs2 fN LO eR h0 h4 uw j6;generalize pq cs LE.2=look at*;generalize lN refs cs LE.2=s at*;generalize jK cs.length LE.2=gs at*
   generalize fA refs cs 0=rs at*;obtain⟨y,QU,fp⟩:=iw.1 (fP.ej (A1:=kJ r rs gs (fM true)));have gu:=dS.kS fp;have xB:=hQ QU;clear c1;have c1:=gu.fx
   have TR:=hQ (J8 r rs gs (fM true) y QU look qo.af.2.1 qo.af.2.2 ts _ h HH.af.2.1 which _ _ (dS.xp (gu.iQ (A1:=eE r rs gs (fM true) y) (A2:=Pr.own h))));clear fP fp gu QU;go_wp2_with fail
   refine TR.af.mono ?_;rintro e w2 ⟨kU,t,b,rfl,hb,gQ⟩;have gZ:=gQ.flat;have fa:=hQ (eQ.af.trans kU);clear c1;have c1:=gZ.fx;cases b with
   | false=>
     have gp:=gZ.alloc (eT t.root t.dT t.items);have LV:=hQ (rW h HH.af.1 F _ (gp.to (M:= [Pr.own h,F])));have gg:=hQ (fa.af.alloc (eT t.root t.dT t.items));clear gQ gZ gp kU TR hb fa eQ;go_wp2_with fail
     refine LV.af.mono ?_;rintro e w3 ⟨rfl,mF,gY⟩;have ij:=hQ (gg.af.trans mF);have HE:=hQ gY;clear mF gY LV gg;go_wp2;go_ret;exact⟨rfl,ij.af,HE.af⟩
   | true=>
     obtain⟨L,hT⟩:=oH qo.af.2.2 (hb rfl);have YM:L.length≤32768:=by have h1:=HB8.af _ _ _ (hb rfl);have h2:=Ek hT;have:=H4.af;omega
     have HT:=hQ hT;have gp:=gZ.alloc (eT t.root t.dT t.items);have mI:=hQ gp;have gg:=hQ (fa.af.alloc (eT t.root t.dT t.items));clear gQ gZ gp kU TR hb fa eQ hT;have hn4:(n:Int)≤200:=by omega
     by_cases hk:kk<0
     · have LV:=hQ (rW h HH.af.1 F _ (mI.af.to (M:= [Pr.own h,F])))
       clear c1;go_wp2_with fail
       refine LV.af.mono ?_;rintro e w3 ⟨rfl,mF,gY⟩;have ij:=hQ (gg.af.trans mF);have HE:=hQ gY;clear mF gY LV gg;go_wp2;go_ret;exact⟨rfl,ij.af,HE.af⟩
     · clear c1
       go_wp2;obtain⟨TB,YN⟩:∃TB,w2.heap.size=TB:=⟨_,rfl⟩;rw [YN];have U1:=mI.af;have U2:=gg.af;clear mI gg;rw [YN] at U1;generalize w2.alloc (eT t.root t.dT t.items)=w3 at*;have mI:=hQ U1;have gg:=hQ U2;clear U1 U2 YN
       go_loopg [14,15,16,17,18] n (fun k sv bv wv tv i wr=> ∃(q:Nat) (S B:List nu) (Wn:List (Value × List fY)) (T:List fY),q+k=n∧i= .int .i64 q∧Hid (rp look L (rg.take q) S B Wn)∧Hid (T.length≤q*32768)∧Hid (∀x∈T,x.2.1.length≤65536∧x.2.2.length≤65536)∧dN w wr∧dS [Row 69 1 sv S.length (S.map gi),Row 69 1 bv B.length (B.map gi),Row 60 1 wv Wn.length (Wn.map Prod.fst),eN tv T,big d_ T,big ic S,big iq B,big gU Wn,Pr.pts IB (iZ refs (.slice ac cs.length cc) (.slice al l.length cl) (.slice at' ts.length ct)),Pr.pts TB (eT t.root t.dT t.items),dZ v s,eE r rs gs (fM true) y,Pr.own h,F] wr)
       case atStart=>
        refine⟨0,[],[],[],[],Nat.zero_add _,rfl,hQ (rp.nil look L),hQ (aG _),hQ (fun x hx=>by cases hx),gg.af,?_⟩;exact(El mI.af).to
       case round=>
        obtain⟨q,S,B,Wn,T,hqk,rfl,YO,htl,htn,hst,hs⟩:=hrel;rename World=>wr
        clear mI gg;obtain⟨sa,sc,rfl⟩:=Row.shape (hs.ej (A1:=Row 69 1 u14 S.length (S.map gi)));obtain⟨ba,bc,rfl⟩:=Row.shape (hs.ej (A1:=Row 69 1 u15 B.length (B.map gi)));obtain⟨wa,wc,rfl⟩:=Row.shape (hs.ej (A1:=Row 60 1 u16 Wn.length (Wn.map Prod.fst)));obtain⟨ta,tc,rfl⟩:=Row.shape (hs.ej (A1:=eN u17 T));have HQK:=hQ hqk;rcases aB q n with hlt | hge
        · obtain⟨k0,qn⟩:∃k0,k0+1=gk:=⟨gk-1,by omega⟩
          have Ss:(q:Int)<(n:Int):=by omega
          have aaf:(q:Int)≤200:=by omega
          have WS:q<rg.length:=by omega
          obtain⟨b0,off,k1,n1,k2,n2,rfl,e1,e2,hc⟩:=RD.af q WS;obtain⟨p1,p2⟩:=HH.af.2.2.2.2.2 _ (aE WS);obtain⟨p3,p4⟩:=HH.af.2.2.2.1 _ (aE WS);have P7:rg.take (q+1)=rg.take q++ [rg[q]]:=aF WS;generalize rg[q]=X at*;rw [e1] at p1;rw [e2] at p2;have Kj:=hQ P7;have HB:=hQ (And.intro p1 (And.intro p2 (And.intro p4.lo p4.hi)))
          have HU:=hQ p3;have HC:=hQ hc;have c1:=hs.fx;obtain⟨d0,d1,d2⟩:=HC.af wr (hs.le (a:=h));have zb:=ay _ _ d0;simp only at zb;have YP:=hQ hs;have YQ:=hQ hst;clear e1 e2 p1 p2 p3 p4 hc hs hst hqk P7;go_upto_region 14 with fail
          go_cut [19] from 75 to 93 (fun t19 wx=> ∃(J b1 b2:Nat),t19= .pointer (some ⟨J,0,none⟩)∧dN w wx∧dS [Pr.pts J (dO (.slice (some ⟨b1,0,none⟩) X.2.lo.length (X.2.lo.length+64)) (.slice (some ⟨b2,0,none⟩) X.2.hi.length (X.2.hi.length+64)) X.2.op),iK b1 X.2.lo,iK b2 X.2.hi,Row 69 1 (.slice sa S.length sc) S.length (S.map gi),Row 69 1 (.slice ba B.length bc) B.length (B.map gi),Row 60 1 (.slice wa Wn.length wc) Wn.length (Wn.map Prod.fst),eN (.slice ta T.length tc) T,big d_ T,big ic S,big iq B,big gU Wn,Pr.pts IB (iZ refs (.slice ac cs.length cc) (.slice al l.length cl) (.slice at' ts.length ct)),Pr.pts TB (eT t.root t.dT t.items),dZ v s,eE r rs gs (fM true) y,Pr.own h,F] wx)
          case first=>
           refine xi (sz:=290) (by kernel_rfl) [0,1,2,3,4,6,7,8,9,10,12,13,14,15,16] (.alt (.act 18 [] [0,1,2,3,4,6,7,8,9,10,12,13,14,15,16] (.act 5 [] [0,1,2,3,6,7,8,9,10,12,13,14,15,16] (.act 11 [17] [0,1,2,3,6,7,8,9,12,13,14,15,16,17] (.act 19 [] [] .done)))) (.act 5 [] [0,1,2,3,6,7,8,9,10,12,13,14,15,16] (.alt (.act 18 [] [0,1,2,3,6,7,8,9,10,12,13,14,15,16] (.act 11 [17] [0,1,2,3,6,7,8,9,12,13,14,15,16,17] (.act 19 [] [] .done))) (.act 11 [17] [0,1,2,3,6,7,8,9,12,13,14,15,16,17] (.act 18 [] [0,1,2,3,6,7,8,9,12,13,14,15,16,17] (.act 19 [] [] .done)))))) rfl (by kernel_rfl) (by kernel_rfl) (by kernel_rfl) (by kernel_rfl) ?_
           have HQ:=hQ YP.af.drew;have TQ:=hQ YQ.af.drew;clear YP YQ;generalize wr.drew=wq at*;clear c1 d0 d1 d2 zb;have c1:=HQ.af.fx;obtain⟨d0,d1,d2⟩:=HC.af wq (HQ.af.le (a:=h));have zb:=ay _ _ d0;simp only at zb;refine dY _ rfl rfl ?_;simp only [pick,pQ];iterate 15 (go_big_quiet_step (fail))
           refine wpQuiet_nil ?_;refine xj ?_ ?_
           · have WT:=hQ (HQ.af.alloc (dO (.slice none 0 0) (.slice none 0 0) false))
             have TZ0:=hQ (TQ.af.alloc (dO (.slice none 0 0) (.slice none 0 0) false));refine jD rfl ?_;go_wp2;refine dQ ?_;refine dU ⟨?_,?_⟩
             · exact cQ
             clear c1 d0 d1 d2 zb HQ TQ;generalize wq.alloc (dO (.slice none 0 0) (.slice none 0 0) false)=wz0 at*;generalize wq.heap.size=J at*;have c1:=WT.af.fx;obtain⟨d0,d1,d2⟩:=HC.af wz0 (WT.af.le (a:=h));have zb:=ay _ _ d0;simp only at zb
             have SP:=hQ (pI h _ X.2.lo _ _ (WT.af.ej (A1:=Pr.own h)) HB.af.1 HB.af.2.2.1);refine jD rfl ?_;go_wp2_with fail
             refine SP.af.mono ?_;rintro e wz1 ⟨b1,rfl,H_,H'⟩;have WU:=hQ (dS.mH H_);have TZ1:=hQ (TZ0.af.trans H');clear c1 d0 d1 d2 zb H_ H' SP WT TZ0;have c1:=WU.af.fx;obtain⟨d0,d1,d2⟩:=HC.af wz1 (WU.af.le (a:=h));have zb:=ay _ _ d0;simp only at zb;go_wp2;refine dQ ?_;refine dU ⟨?_,?_⟩
             · exact cQ
             have SP:=hQ (pI h _ X.2.hi _ _ (WU.af.ej (A1:=Pr.own h)) HB.af.2.1 HB.af.2.2.2);refine jD rfl ?_;go_wp2_with fail
             refine SP.af.mono ?_;rintro e wz2 ⟨b2,rfl,H_,H'⟩;have YR:=hQ (dS.mH H_);have TZ2:=hQ (TZ1.af.trans H');clear c1 d0 d1 d2 zb H_ H' SP WU TZ1;have c1:=YR.af.fx;obtain⟨d0,d1,d2⟩:=HC.af wz2 (YR.af.le (a:=h));have zb:=ay _ _ d0;simp only at zb;go_wp2;refine dQ ?_;refine dY _ rfl rfl ?_
             simp only [pick,pQ];iterate 1 (go_big_quiet_step (fail))
             refine wpQuiet_nil ⟨?_,?_⟩
             · exact cQ
             have kh:=hQ (And.intro (((TZ2.af.setCell ⟨J,0,none⟩ (.slice (some ⟨b1,0,none⟩) X.2.lo.length (X.2.lo.length+64))).setCell ⟨J,1,none⟩ (.slice (some ⟨b2,0,none⟩) X.2.hi.length (X.2.hi.length+64))).setCell ⟨J,2,none⟩ (.bool X.2.op)) (((YR.af.set J 0 (.slice (some ⟨b1,0,none⟩) X.2.lo.length (X.2.lo.length+64))).set J 1 (.slice (some ⟨b2,0,none⟩) X.2.hi.length (X.2.hi.length+64))).set J 2 (.bool X.2.op)))
             refine jD rfl ?_;go_wp2;refine dQ ?_;refine dU ⟨?_,?_⟩
             · exact eM
             refine qF ?_;go_wp2;go_meet
             exact⟨J,b1,b2,rfl,kh.af.1,kh.af.2.to⟩
           · have SP:=hQ (pI h _ X.2.lo _ _ (HQ.af.ej (A1:=Pr.own h)) HB.af.1 HB.af.2.2.1)
             refine jD rfl ?_;go_wp2_with fail
             refine SP.af.mono ?_;rintro e Rr ⟨b1,rfl,H_,H'⟩;have Ka:=hQ (dS.mH H_);have Ph:=hQ (TQ.af.trans H');clear c1 d0 d1 d2 zb H_ H' SP HQ TQ;have c1:=Ka.af.fx;obtain⟨d0,d1,d2⟩:=HC.af Rr (Ka.af.le (a:=h));have zb:=ay _ _ d0;simp only at zb;go_wp2;refine dQ ?_;refine dU ⟨?_,?_⟩
             · exact cQ
             refine xj ?_ ?_
             · have Pi:=hQ (Ka.af.alloc (dO (.slice none 0 0) (.slice none 0 0) false))
               have UT:=hQ (Ph.af.alloc (dO (.slice none 0 0) (.slice none 0 0) false));refine jD rfl ?_;go_wp2;refine dQ ?_;refine dU ⟨?_,?_⟩
               · exact cQ
               clear c1 d0 d1 d2 zb Ka Ph;generalize Rr.alloc (dO (.slice none 0 0) (.slice none 0 0) false)=YS at*;generalize Rr.heap.size=J at*;have c1:=Pi.af.fx;obtain⟨d0,d1,d2⟩:=HC.af YS (Pi.af.le (a:=h));have zb:=ay _ _ d0;simp only at zb
               have SP:=hQ (pI h _ X.2.hi _ _ (Pi.af.ej (A1:=Pr.own h)) HB.af.2.1 HB.af.2.2.2);refine jD rfl ?_;go_wp2_with fail
               refine SP.af.mono ?_;rintro e YT ⟨b2,rfl,H_,H'⟩;have Rt:=hQ (dS.mH H_);have YU:=hQ (UT.af.trans H');clear c1 d0 d1 d2 zb H_ H' SP Pi UT;have c1:=Rt.af.fx;obtain⟨d0,d1,d2⟩:=HC.af YT (Rt.af.le (a:=h));have zb:=ay _ _ d0;simp only at zb;go_wp2;refine dQ ?_
               refine dY _ rfl rfl ?_;simp only [pick,pQ];iterate 1 (go_big_quiet_step (fail))
               refine wpQuiet_nil ⟨?_,?_⟩
               · exact cQ
               have kh:=hQ (And.intro (((YU.af.setCell ⟨J,0,none⟩ (.slice (some ⟨b1,0,none⟩) X.2.lo.length (X.2.lo.length+64))).setCell ⟨J,1,none⟩ (.slice (some ⟨b2,0,none⟩) X.2.hi.length (X.2.hi.length+64))).setCell ⟨J,2,none⟩ (.bool X.2.op)) (((Rt.af.set J 0 (.slice (some ⟨b1,0,none⟩) X.2.lo.length (X.2.lo.length+64))).set J 1 (.slice (some ⟨b2,0,none⟩) X.2.hi.length (X.2.hi.length+64))).set J 2 (.bool X.2.op)))
               refine jD rfl ?_;go_wp2;refine dQ ?_;refine dU ⟨?_,?_⟩
               · exact eM
               refine qF ?_;go_wp2;go_meet
               exact⟨J,b1,b2,rfl,kh.af.1,kh.af.2.to⟩
             · have SP:=hQ (pI h _ X.2.hi _ _ (Ka.af.ej (A1:=Pr.own h)) HB.af.2.1 HB.af.2.2.2)
               refine jD rfl ?_;go_wp2_with fail
               refine SP.af.mono ?_;rintro e Ru ⟨b2,rfl,H_,H'⟩;have Pj:=hQ (dS.mH H_);have UU:=hQ (Ph.af.trans H');clear c1 d0 d1 d2 zb H_ H' SP Ka Ph;have c1:=Pj.af.fx;obtain⟨d0,d1,d2⟩:=HC.af Ru (Pj.af.le (a:=h));have zb:=ay _ _ d0;simp only at zb;go_wp2;refine dQ ?_
               refine dY _ rfl rfl ?_;simp only [pick,pQ];iterate 1 (go_big_quiet_step (fail))
               refine wpQuiet_nil ⟨?_,?_⟩
               · exact cQ
               have Rv:=hQ (Pj.af.alloc (dO (.slice none 0 0) (.slice none 0 0) false));have YV:=hQ (UU.af.alloc (dO (.slice none 0 0) (.slice none 0 0) false));refine jD rfl ?_;go_wp2;refine dQ ?_;refine dU ⟨?_,?_⟩
               · exact cQ
               clear c1 d0 d1 d2 zb Pj UU;generalize Ru.alloc (dO (.slice none 0 0) (.slice none 0 0) false)=YW at*;generalize Ru.heap.size=J at*;have c1:=Rv.af.fx;obtain⟨d0,d1,d2⟩:=HC.af YW (Rv.af.le (a:=h));have zb:=ay _ _ d0;simp only at zb
               have kh:=hQ (And.intro (((YV.af.setCell ⟨J,0,none⟩ (.slice (some ⟨b1,0,none⟩) X.2.lo.length (X.2.lo.length+64))).setCell ⟨J,1,none⟩ (.slice (some ⟨b2,0,none⟩) X.2.hi.length (X.2.hi.length+64))).setCell ⟨J,2,none⟩ (.bool X.2.op)) (((Rv.af.set J 0 (.slice (some ⟨b1,0,none⟩) X.2.lo.length (X.2.lo.length+64))).set J 1 (.slice (some ⟨b2,0,none⟩) X.2.hi.length (X.2.hi.length+64))).set J 2 (.bool X.2.op)))
               refine jD rfl ?_;go_wp2;refine dQ ?_;refine dU ⟨?_,?_⟩
               · exact eM
               refine qF ?_;go_wp2;go_meet
               exact⟨J,b1,b2,rfl,kh.af.1,kh.af.2.to⟩
          case rest=>
           obtain⟨J,b1,b2,rfl,UW,Pk⟩:=hcut;rename World=>w20
           clear YP YQ c1 d0 d1 d2 zb;have c1:=Pk.fx;obtain⟨d0,d1,d2⟩:=HC.af w20 (Pk.le (a:=h));have zb:=ay _ _ d0;simp only at zb
           have RL:=hQ (J9 r rs gs (fM true) y xB.af look qo.af.2.1 qo.af.2.2 t.root t.dT t.items L HT.af _ X.2 h ⟨_,_,rfl,HB.af.1,HB.af.2.1⟩ _ _ (dS.xp (Pk.drew.iQ (A1:=eE r rs gs (fM true) y) (A2:=Pr.own h))));have T20:=hQ UW.drew;clear Pk UW;go_wp2_with fail
           refine wS 290 [0,1,2,3,4,5] [(6,[7,8,9,10,11],[2,3,4])] ?_;refine dY _ rfl rfl ?_;simp only [pick,pQ];iterate 6 (go_big_quiet_step (fail))
           refine wpQuiet_nil ?_;refine dK rfl ?_;go_wp2_with fail
           refine RL.af.mono ?_;rintro e w21 ⟨UX,xo,wz,rfl,hwz,UY⟩;have M6:=UY.flat;obtain⟨xa,xc,rfl⟩:=Row.shape (M6.ej (A1:=eN xo wz));have T21:=hQ (T20.af.trans UX);have UZ:=hQ hwz;clear c1 d0 d1 d2 zb;have c1:=M6.fx;obtain⟨d0,d1,d2⟩:=HC.af w21 (M6.le (a:=h));have zb:=ay _ _ d0;simp only at zb
           obtain⟨hin,YX,U0⟩:=(M6.jk (iK b1 X.2.lo) (iK b2 X.2.hi)).arena ((iK b1 X.2.lo).star (iK b2 X.2.hi));obtain⟨x1,x2,hx1,hx2,s1,s2⟩:=fF YX
           have WV:=hQ (And.intro YX (show gJ hin (.agg #[.slice (some ⟨b1,0,none⟩) X.2.lo.length (X.2.lo.length+64),.slice (some ⟨b2,0,none⟩) X.2.hi.length (X.2.hi.length+64),.bool X.2.op]) X.2 from⟨_,_,rfl,(q' hx1).sub s1,(q' hx2).sub s2⟩));have hnr:nN 140737488355000 X.2:=⟨by have:=HB.af.2.2.1;omega,by have:=HB.af.2.2.2;omega⟩
           have LA:=hQ (D' v s look qo.af.1 qo.af.2.2 t.root t.dT t.items L HT.af _ X.2 hin WV.af.2 HU.af hnr _ _ (dS.xp (U0.iQ (A1:=dZ v s) (A2:=Pr.own hin))));clear UY M6 hwz UX RL T20 YX hx1 hx2 s1 s2 hnr;go_wp2;refine dQ ?_;refine dY _ rfl rfl ?_;simp only [pick,pQ];iterate 5 (go_big_quiet_step (fail))
           refine wpQuiet_nil ⟨?_,?_⟩
           · exact cQ
           refine dW ?_;clear U0;go_wp2_with fail
           refine LA.af.mono ?_;rintro e w24 ⟨U5,go,gz,rfl,WW,U7⟩;have Rw:=U7.flat;obtain⟨ga,gc,rfl⟩:=Row.shape (Rw.ej (A1:=eN go gz));have T24:=hQ (T21.af.trans U5);have HGZ:=hQ WW;obtain⟨hgg,YY,U9⟩:=(Rw.jk (eN (.slice ga gz.length gc) gz) (big d_ gz)).arena ((eN (.slice ga gz.length gc) gz).star (big d_ gz))
           obtain⟨Gy,YZ,Pm⟩:=(U9.jk (eN (.slice xa wz.length xc) wz) (big d_ wz)).arena ((eN (.slice xa wz.length xc) wz).star (big d_ wz));have HGA:=hQ YY;have WY:=hQ (And.intro (oJ YZ) YZ);have hgl:=(kR HT.af (r:=X) WW);have Qx:=(kR HT.af (r:=X) UZ.af);have QJ:=hQ hgl;have Sg:=hQ Qx
           have EQ:=hQ (B6 hgg Gy _ _ gz wz (oJ YY) WY.af.1 (WW.trans UZ.af.symm) (by have:=hgl.1;omega) hgl.2 w24 (Pm.le (a:=hgg)) (Pm.le (a:=Gy)));have U_:=hQ Pm;clear c1 d0 d1 d2 zb U7 Rw U9 Pm U5 YY YZ WW LA T21 hgl Qx;go_wp2_with fail
           refine EQ.af.mono ?_;rintro e w28 ⟨rfl,Rx⟩;have U':dS _ w28:=⟨U_.af.sat.only Rx⟩;have Va:dS ((eN (.slice ga gz.length gc) gz).star (big d_ gz) :: _) w28:=U'.back ((eN (.slice ga gz.length gc) gz).star (big d_ gz)) HGA.af;have Vb:=Va.norm;obtain⟨Y0,hgr,Vd⟩:=Vb.arena (eN (.slice ga gz.length gc) gz);have HGH:=hQ (Row.jh hgr)
           have Ve:=hQ Vd;have T28:=hQ (T24.af.trans Rx.st);have hgn:(gz.length:Int)≤32768:=by have:=QJ.af.1;omega
           have aaO:(T.length:Int)≤10000000:=by have:=htl.af;omega
           clear U' Va Vb Vd hgr Rx EQ U_ T24 HGA;go_wp2_with fail
           go_loopg [17,24] gz.length (fun k tv i wr=> ∃(p:Nat) (U:List fY),p+k=gz.length∧i= .int .i64 p∧Hid (U.length≤T.length+p)∧Hid (∀x∈U,x.2.1.length≤65536∧x.2.2.length≤65536)∧dN w wr∧dS [eN tv U,big d_ U,big d_ (gz.drop p),Pr.own Y0,Pr.own Gy,Pr.own hin,Pr.pts J (dO (.slice (some ⟨b1,0,none⟩) X.2.lo.length (X.2.lo.length+64)) (.slice (some ⟨b2,0,none⟩) X.2.hi.length (X.2.hi.length+64)) X.2.op),Row 69 1 (.slice sa S.length sc) S.length (S.map gi),Row 69 1 (.slice ba B.length bc) B.length (B.map gi),Row 60 1 (.slice wa Wn.length wc) Wn.length (Wn.map Prod.fst),big ic S,big iq B,big gU Wn,Pr.pts IB (iZ refs (.slice ac cs.length cc) (.slice al l.length cl) (.slice at' ts.length ct)),Pr.pts TB (eT t.root t.dT t.items),dZ v s,eE r rs gs (fM true) y,Pr.own h,F] wr)
           case atStart=>exact⟨0,T,Nat.zero_add _,rfl,hQ (aD _),htn,T28.af,Ve.af.to (M:= [eN (.slice ta T.length tc) T,big d_ T,big d_ gz,Pr.own Y0,Pr.own Gy,Pr.own hin,Pr.pts J (dO (.slice (some ⟨b1,0,none⟩) X.2.lo.length (X.2.lo.length+64)) (.slice (some ⟨b2,0,none⟩) X.2.hi.length (X.2.hi.length+64)) X.2.op),Row 69 1 (.slice sa S.length sc) S.length (S.map gi),Row 69 1 (.slice ba B.length bc) B.length (B.map gi),Row 60 1 (.slice wa Wn.length wc) Wn.length (Wn.map Prod.fst),big ic S,big iq B,big gU Wn,Pr.pts IB (iZ refs (.slice ac cs.length cc) (.slice al l.length cl) (.slice at' ts.length ct)),Pr.pts TB (eT t.root t.dT t.items),dZ v s,eE r rs gs (fM true) y,Pr.own h,F])⟩
           case round=>
            obtain⟨p,U,hpk,rfl,yJ,hun,hst,hs⟩:=hrel;rename World=>wt
            clear Ve T28;obtain⟨ua,uc,rfl⟩:=Row.shape (hs.ej (A1:=eN u17 U));rcases aB p gz.length with hpl | oK
            · obtain⟨Y1,aaP⟩:∃Y1,Y1+1=gk:=⟨gk-1,by omega⟩
              have L9:(p:Int)<(gz.length:Int):=by omega
              have Cf:(p:Int)≤32768:=by omega
              obtain⟨bg,og,rfl,Sm⟩:=AA HGH.af hpl;have Nr:=QJ.af.2 _ (aE hpl);have Ox:gz.drop p=gz[p] :: gz.drop (p+1):=aQ hpl;rw [Ox] at hs;have fp:=hs.sE d_ gz[p] (gz.drop (p+1));have Y2:(U.length:Int)≤10040000:=by have:=yJ.af;omega
              generalize gz[p]=z at*;obtain⟨⟨y1,y2⟩,z1,z2⟩:=z;dsimp only at Sm Nr;have hsh:dS [dM y1 z1,dM y2 z2] wt:=⟨((fp.ER (A1:=d_ ((y1,y2),(z1,z2)))).perm (B:=(dM y1 z1).star ((dM y2 z2).star Pr.emp)) (by rw [Pr.ei];rfl))⟩;obtain⟨ak,ck,rfl⟩:=Row.shape (hsh.ej (A1:=dM y1 z1));obtain⟨av,cv,rfl⟩:=Row.shape (hsh.ej (A1:=dM y2 z2))
              obtain⟨g0,g1⟩:=Sm wt fp.le;have zg:=ay _ _ g0;simp only at zg;have hal:=fp.alloc (.cells [Value.slice ak z1.length ck,.slice av z2.length cv].toArray 49);have A1:=hQ (hal.ej (A1:=eN (.slice ua U.length uc) U));have hnew:=hQ (eW wt [.slice ak z1.length ck,.slice av z2.length cv] 49 _ rfl)
              have ij:=hQ (hst.alloc (.cells [Value.slice ak z1.length ck,.slice av z2.length cv].toArray 49));have HZN:=hQ Nr;clear hal hs fp hsh Ox hst Sm Nr
              go_wp2_with (first
               | (at_builtin
                  refine eu rfl _ _ _ rfl 49 i0 _ 2 48 Tryz.underlying60 lk hz0 hz1 jg rfl _ _ _ rfl A1.af ⟨wt.heap.size,0,none⟩ 1 1 [.slice ak z1.length ck,.slice av z2.length cv] rfl rfl hnew.af (by simp [Value.oneCell']) (by simp only [maxLen];omega) (by omega) ?_
                  intro v7 w7 gZ lC _
                  obtain⟨a7,c7,e7,_,_⟩:=Row.read gZ
                  subst e7
                  have rQ:=hQ (dS.kS gZ)
                  have iN:=hQ (ij.af.eH lC)
                  clear gZ lC A1 hnew ij))
              go_roundg Y1
              case measure=>omega
              case rel=>
               have h8:=rQ.af.snoc d_ U ((.slice ak z1.length ck,.slice av z2.length cv),(z1,z2))
               have h9:=h8.to (M:= [Row 49 2 (.slice a7 (U.length+1) c7) (U.length+1) (U.flatMap il++ [.slice ak z1.length ck,.slice av z2.length cv]),big d_ (U++ [((.slice ak z1.length ck,.slice av z2.length cv),(z1,z2))]),big d_ (gz.drop (p+1)),Pr.own Y0,Pr.own Gy,Pr.own hin,Pr.pts J (dO (.slice (some ⟨b1,0,none⟩) X.2.lo.length (X.2.lo.length+64)) (.slice (some ⟨b2,0,none⟩) X.2.hi.length (X.2.hi.length+64)) X.2.op),Row 69 1 (.slice sa S.length sc) S.length (S.map gi),Row 69 1 (.slice ba B.length bc) B.length (B.map gi),Row 60 1 (.slice wa Wn.length wc) Wn.length (Wn.map Prod.fst),big ic S,big iq B,big gU Wn,Pr.pts IB (iZ refs (.slice ac cs.length cc) (.slice al l.length cl) (.slice at' ts.length ct)),Pr.pts TB (eT t.root t.dT t.items),dZ v s,eE r rs gs (fM true) y,Pr.own h,F])
               refine⟨p+1,U++ [((.slice ak z1.length ck,.slice av z2.length cv),(z1,z2))],by omega,congrArg (Value.int .i64) (by omega),hQ (by rw [au];have:=yJ.af;simp only [List.length_singleton];omega),hQ ?_,iN.af,⟨h9.sat.perm ?_⟩⟩
               · intro x hx
                 rcases aK.1 hx with hx | hx
                 · exact hun.af x hx
                 · rw [aC.1 hx];exact HZN.af
               · simp only [eN,au,List.length_singleton,aN,aX,cV,aV]
                 rfl
            · have L9:¬(p:Int)<(gz.length:Int):=by omega
              have HT4:=hQ hst
              have lZ:=hQ (hs.to (M:= [eN (.slice ua U.length uc) U,big d_ U,Pr.own Gy,Pr.own hin,Pr.pts J (dO (.slice (some ⟨b1,0,none⟩) X.2.lo.length (X.2.lo.length+64)) (.slice (some ⟨b2,0,none⟩) X.2.hi.length (X.2.hi.length+64)) X.2.op),Row 69 1 (.slice sa S.length sc) S.length (S.map gi),Row 69 1 (.slice ba B.length bc) B.length (B.map gi),Row 60 1 (.slice wa Wn.length wc) Wn.length (Wn.map Prod.fst),big ic S,big iq B,big gU Wn,Pr.pts IB (iZ refs (.slice ac cs.length cc) (.slice al l.length cl) (.slice at' ts.length ct)),Pr.pts TB (eT t.root t.dT t.items),dZ v s,eE r rs gs (fM true) y,Pr.own h,F]))
              have Y2:U.length≤T.length+32768:=by have:=yJ.af;have:=QJ.af.1;omega
              clear hst hs yJ;go_wp2_with fail
              have Ry:=lZ.af;have c1:=Ry.fx;have SC:=hQ (M4 v s look qo.af.1 qo.af.2.2 t.root t.dT t.items L HT.af _ X.2 hin WV.af.2 HU.af ⟨by have:=HB.af.2.2.1;omega,by have:=HB.af.2.2.2;omega⟩ _ _ (dS.xp (Ry.drew.iQ (A1:=dZ v s) (A2:=Pr.own hin))));have T40:=hQ HT4.af.drew;clear Ry lZ HT4
              refine wS 290 [0,1,2,4,5,6] [(3,[],[4,5,6]),(7,[8,9],[])] ?_;refine dY _ rfl rfl ?_;simp only [pick,pQ];iterate 6 (go_big_quiet_step (fail))
              refine wpQuiet_nil ?_;refine dK rfl ?_;go_wp2_with fail
              refine SC.af.mono ?_;rintro e w41 ⟨Vf,ze,Gz,GF,Rz,a1,rfl,hzA,hP1,Vg⟩;have RF:=Vg.flat;have T41:=hQ (T40.af.trans Vf);have P3:=hQ (And.intro hP1 hzA);clear c1;have c1:=RF.fx
              have BK:=hQ (MY v s look qo.af.1 qo.af.2.2 t.root t.dT t.items L HT.af _ X.2 hin WV.af.2 HU.af ⟨by have:=HB.af.2.2.1;omega,by have:=HB.af.2.2.2;omega⟩ _ _ (dS.xp (RF.iQ (A1:=dZ v s) (A2:=Pr.own hin))));clear Vg RF Vf hP1 hzA SC T40;go_wp2;refine dQ ?_;refine dU ⟨?_,?_⟩
              · exact cQ
              refine dK rfl ?_;go_wp2_with fail
              refine BK.af.mono ?_;rintro e w43 ⟨Vh,zh,GG,zF,RG,a2,rfl,hzB,hP2,Vi⟩;have RH:=Vi.flat;have T43:=hQ (T41.af.trans Vh);have Sw:=hQ (And.intro hP2 hzB);clear c1;have c1:=RH.fx;have Vj:=hQ RH;clear Vi RH Vh hP2 hzB BK T41;go_wp2;refine dQ ?_;refine dY _ rfl rfl ?_;simp only [pick,pQ]
              iterate 2 (go_big_quiet_step (fail))
              refine wpQuiet_nil ⟨?_,?_⟩
              · exact eM
              refine dW ?_;have Pn:=Vj.af;clear c1;have c1:=Pn.fx;obtain⟨d0,d1,d2⟩:=HC.af w43 (Pn.le (a:=h));have zb:=ay _ _ d0;simp only at zb
              have G1:=hQ (uF ze wz false (gR ze Gz 99 GF a1) (Ay ze Gz GF a1 Rz P3.af.1 (by have:=(kR HT.af (r:=X) P3.af.2).1;omega) (kR HT.af (r:=X) P3.af.2).2 (wz.map (·.2)) (P3.af.2.trans UZ.af.symm)) Gy _ WY.af.1 (by have:=Sg.af.1;omega) Sg.af.2 kk _ _ (dS.xp (Pn.drew.iQ (A1:=gR ze Gz 99 GF a1) (A2:=Pr.own Gy))))
              have T45:=hQ T43.af.drew;clear Pn Vj T43;go_wp2_with fail
              refine wS 290 [0,1,2] [(3,[4,5,6,7,8],[]),(9,[10,11,12,13,14,15,16,17,18,19],[4]),(20,[21,22,23,24,25,26,27,28,29,30],[4,10,11,13,15,16,17,18]),(31,[32,33],[4,10,11,13,15,16,17,18,21,22,24,26,27,28,29])] ?_;refine dY _ rfl rfl ?_;simp only [pick,pQ];iterate 3 (go_big_quiet_step (fail))
              refine wpQuiet_nil ?_;refine dK rfl ?_;go_wp2_with fail
              refine G1.af.mono ?_;rintro e w46 ⟨rfl,Vk,Vl⟩;have Po:=Vl.flat;have T46:=hQ (T45.af.trans Vk);clear c1 d0 d1 d2 zb;have c1:=Po.fx;obtain⟨d0,d1,d2⟩:=HC.af w46 (Po.le (a:=h));have zb:=ay _ _ d0;simp only at zb
              have G2:=hQ (uF zh wz true (gR zh GG 97 zF a2) (Ax zh GG zF a2 RG Sw.af.1 (by have:=(kR HT.af (r:=X) Sw.af.2).1;omega) (kR HT.af (r:=X) Sw.af.2).2 (wz.map (·.2)) (Sw.af.2.trans UZ.af.symm)) Gy _ WY.af.1 (by have:=Sg.af.1;omega) Sg.af.2 kk _ _ (dS.xp (Po.iQ (A1:=gR zh GG 97 zF a2) (A2:=Pr.own Gy))))
              clear Vl Po Vk G1 T45;go_wp2;refine dQ ?_;refine dY _ rfl rfl ?_;simp only [pick,pQ];iterate 5 (go_big_quiet_step (fail))
              refine wpQuiet_nil ⟨?_,?_⟩
              · exact eM
              refine dK rfl ?_;go_wp2_with fail
              refine G2.af.mono ?_;rintro e w48 ⟨rfl,Vm,Vn⟩;have M9:=(Vn.flat.back ((iK b1 X.2.lo).star (iK b2 X.2.hi)) WV.af.1).norm;have T48:=hQ (T46.af.trans Vm);clear c1 d0 d1 d2 zb;have c1:=M9.fx;obtain⟨d0,d1,d2⟩:=HC.af w48 (M9.le (a:=h));have zb:=ay _ _ d0;simp only at zb
              have K1:=hQ (DO b1 X.2.lo h _ HB.af.1 HB.af.2.2.1 _ _ (M9.iQ (A1:=iK b1 X.2.lo) (A2:=Pr.own h)));have Vo:=hQ M9;clear Vn M9 Vm G2 T46;go_wp2;refine dQ ?_;refine dY _ rfl rfl ?_;simp only [pick,pQ];iterate 10 (go_big_quiet_step (fail))
              refine wpQuiet_nil ⟨?_,?_⟩
              · exact cQ
              refine dK rfl ?_;go_wp2_with fail
              refine K1.af.mono ?_;rintro e w50 ⟨rfl,RI⟩;have M_:dS _ w50:=⟨Vo.af.sat.only RI⟩;have T50:=hQ (T48.af.trans RI.st);clear c1 d0 d1 d2 zb;have c1:=M_.fx;obtain⟨d0,d1,d2⟩:=HC.af w50 (M_.le (a:=h));have zb:=ay _ _ d0;simp only at zb
              have K2:=hQ (DO b2 X.2.hi h _ HB.af.2.1 HB.af.2.2.2 _ _ (M_.iQ (A1:=iK b2 X.2.hi) (A2:=Pr.own h)));have Vp:=hQ M_;clear M_ RI K1 Vo T48;go_wp2;refine dQ ?_;refine dY _ rfl rfl ?_;simp only [pick,pQ];iterate 10 (go_big_quiet_step (fail))
              refine wpQuiet_nil ⟨?_,?_⟩
              · exact cQ
              refine dK rfl ?_;go_wp2_with fail
              refine K2.af.mono ?_;rintro e w52 ⟨rfl,RJ⟩;have Pp:dS _ w52:=⟨Vp.af.sat.only RJ⟩;have Qb:=hQ (T50.af.trans RJ.st);clear c1 d0 d1 d2 zb;have c1:=Pp.fx;obtain⟨d0,d1,d2⟩:=HC.af w52 (Pp.le (a:=h));have zb:=ay _ _ d0;simp only at zb
              have B8:=hQ (Pp.to (M:= [iK b1 X.2.lo,iK b2 X.2.hi,gR ze Gz 99 GF a1,gR zh GG 97 zF a2,eN (.slice ua U.length uc) U,big d_ U,Pr.own Gy,Pr.pts J (dO (.slice (some ⟨b1,0,none⟩) X.2.lo.length (X.2.lo.length+64)) (.slice (some ⟨b2,0,none⟩) X.2.hi.length (X.2.hi.length+64)) X.2.op),Row 69 1 (.slice sa S.length sc) S.length (S.map gi),Row 69 1 (.slice ba B.length bc) B.length (B.map gi),Row 60 1 (.slice wa Wn.length wc) Wn.length (Wn.map Prod.fst),big ic S,big iq B,big gU Wn,Pr.pts IB (iZ refs (.slice ac cs.length cc) (.slice al l.length cl) (.slice at' ts.length ct)),Pr.pts TB (eT t.root t.dT t.items),dZ v s,eE r rs gs (fM true) y,Pr.own h,F]))
              clear Pp RJ K2 Vp T50;go_wp2;refine dQ ?_;refine dY _ rfl rfl ?_;simp only [pick,pQ];iterate 2 (go_big_quiet_step (fail))
              refine wpQuiet_nil ⟨?_,?_⟩
              · exact cQ
              refine dW ?_;clear c1 d0 d1 d2 zb;have c1:=B8.af.fx;go_wp2_with fail
              have aaQ:(X.2.lo.length:Int)≤140737488351232:=by have:=HB.af.2.2.1;omega
              have aaR:(X.2.hi.length:Int)≤140737488351232:=by have:=HB.af.2.2.2;omega
              go_loopw [27] (fun t9 wr=> ∃(p:Nat) (Z:List Int),p≤X.2.lo.length∧t9= .int .i64 p∧Hid (Z.length=X.2.lo.length+64)∧dN w wr∧dS [Row 5 1 (.slice (some ⟨b1,0,none⟩) (X.2.lo.length+64) (X.2.lo.length+64)) (X.2.lo.length+64) (Z.map (Value.int .u8)),iK b2 X.2.hi,gR ze Gz 99 GF a1,gR zh GG 97 zF a2,eN (.slice ua U.length uc) U,big d_ U,Pr.own Gy,Pr.pts J (dO (.slice (some ⟨b1,0,none⟩) X.2.lo.length (X.2.lo.length+64)) (.slice (some ⟨b2,0,none⟩) X.2.hi.length (X.2.hi.length+64)) X.2.op),Row 69 1 (.slice sa S.length sc) S.length (S.map gi),Row 69 1 (.slice ba B.length bc) B.length (B.map gi),Row 60 1 (.slice wa Wn.length wc) Wn.length (Wn.map Prod.fst),big ic S,big iq B,big gU Wn,Pr.pts IB (iZ refs (.slice ac cs.length cc) (.slice al l.length cl) (.slice at' ts.length ct)),Pr.pts TB (eT t.root t.dT t.items),dZ v s,eE r rs gs (fM true) y,Pr.own h,F] wr) (fun t9 _=>X.2.lo.length-(intOf t9).toNat)
              case atStart=>exact⟨0,lW X.2.lo,aG _,rfl,hQ (jb _),Qb.af,B8.af.to⟩
              case round=>
               obtain⟨p,Z,hp,rfl,hzl,hst,hs⟩:=hrel;rename World=>wx
               clear B8 Qb;have c1:=hs.fx;rcases aB p X.2.lo.length with Eg | MX
               · obtain⟨bk,u,ek,hu,c0,f0,z0⟩:=Row.sF (hs.ej (A1:=Row 5 1 (.slice (some ⟨b1,0,none⟩) (X.2.lo.length+64) (X.2.lo.length+64)) (X.2.lo.length+64) (Z.map (Value.int .u8)))) p (by omega)
                 cases ek;have Eh:p<Z.length:=by rw [hzl.af];omega
                 rw [aO,ag Eh] at hu;simp only [Option.map_some,Option.some.injEq] at hu;rw [← hu] at c0;clear hu;have N1:=hQ (Row.Cr (hs.ej (A1:=Row 5 1 (.slice (some ⟨b1,0,none⟩) (X.2.lo.length+64) (X.2.lo.length+64)) (X.2.lo.length+64) (Z.map (Value.int .u8)))) p (by rw [aH,hzl.af];omega) (.int .u8 (bits .xor .u8 Z[p] 1)))
                 generalize Z[p]=zz at*;have lV:=hQ hst;clear hs hst Eh;go_wp2;go_roundw
                 case measure=>simp [intOf];omega
                 case rel=>
                  refine⟨p+1,Z.set p (bits .xor .u8 zz 1),by omega,congrArg (Value.int .i64) (by omega),hQ (by rw [aU];exact hzl.af),lV.af.setCell _ _,?_⟩;rw [bN];exact(dS.kS N1.af).to
               · obtain rfl:p=X.2.lo.length:=by omega
                 have B8:=hQ (hs.to (M:= [iK b2 X.2.hi,gR ze Gz 99 GF a1,gR zh GG 97 zF a2,eN (.slice ua U.length uc) U,big d_ U,Pr.own Gy,Pr.pts J (dO (.slice (some ⟨b1,0,none⟩) X.2.lo.length (X.2.lo.length+64)) (.slice (some ⟨b2,0,none⟩) X.2.hi.length (X.2.hi.length+64)) X.2.op),Row 69 1 (.slice sa S.length sc) S.length (S.map gi),Row 69 1 (.slice ba B.length bc) B.length (B.map gi),Row 60 1 (.slice wa Wn.length wc) Wn.length (Wn.map Prod.fst),big ic S,big iq B,big gU Wn,Pr.pts IB (iZ refs (.slice ac cs.length cc) (.slice al l.length cl) (.slice at' ts.length ct)),Pr.pts TB (eT t.root t.dT t.items),dZ v s,eE r rs gs (fM true) y,Pr.own h,F]))
                 have Qb:=hQ hst;clear hs hst MX hzl;go_wp2_with fail
                 clear c1
                 go_loopw [28] (fun t9 wr=> ∃(p:Nat) (Z:List Int),p≤X.2.hi.length∧t9= .int .i64 p∧Hid (Z.length=X.2.hi.length+64)∧dN w wr∧dS [Row 5 1 (.slice (some ⟨b2,0,none⟩) (X.2.hi.length+64) (X.2.hi.length+64)) (X.2.hi.length+64) (Z.map (Value.int .u8)),gR ze Gz 99 GF a1,gR zh GG 97 zF a2,eN (.slice ua U.length uc) U,big d_ U,Pr.own Gy,Pr.pts J (dO (.slice (some ⟨b1,0,none⟩) X.2.lo.length (X.2.lo.length+64)) (.slice (some ⟨b2,0,none⟩) X.2.hi.length (X.2.hi.length+64)) X.2.op),Row 69 1 (.slice sa S.length sc) S.length (S.map gi),Row 69 1 (.slice ba B.length bc) B.length (B.map gi),Row 60 1 (.slice wa Wn.length wc) Wn.length (Wn.map Prod.fst),big ic S,big iq B,big gU Wn,Pr.pts IB (iZ refs (.slice ac cs.length cc) (.slice al l.length cl) (.slice at' ts.length ct)),Pr.pts TB (eT t.root t.dT t.items),dZ v s,eE r rs gs (fM true) y,Pr.own h,F] wr) (fun t9 _=>X.2.hi.length-(intOf t9).toNat)
                 case atStart=>exact⟨0,lW X.2.hi,aG _,rfl,hQ (jb _),Qb.af,B8.af.to⟩
                 case round=>
                  obtain⟨p,Z,hp,rfl,hzl,hst,hs⟩:=hrel;rename World=>wx
                  clear B8 Qb;have c1:=hs.fx;rcases aB p X.2.hi.length with Eg | MX
                  · obtain⟨bk,u,ek,hu,c0,f0,z0⟩:=Row.sF (hs.ej (A1:=Row 5 1 (.slice (some ⟨b2,0,none⟩) (X.2.hi.length+64) (X.2.hi.length+64)) (X.2.hi.length+64) (Z.map (Value.int .u8)))) p (by omega)
                    cases ek;have Eh:p<Z.length:=by rw [hzl.af];omega
                    rw [aO,ag Eh] at hu;simp only [Option.map_some,Option.some.injEq] at hu;rw [← hu] at c0;clear hu;have N1:=hQ (Row.Cr (hs.ej (A1:=Row 5 1 (.slice (some ⟨b2,0,none⟩) (X.2.hi.length+64) (X.2.hi.length+64)) (X.2.hi.length+64) (Z.map (Value.int .u8)))) p (by rw [aH,hzl.af];omega) (.int .u8 (bits .xor .u8 Z[p] 1)))
                    generalize Z[p]=zz at*;have lV:=hQ hst;clear hs hst Eh;go_wp2;go_roundw
                    case measure=>simp [intOf];omega
                    case rel=>
                     refine⟨p+1,Z.set p (bits .xor .u8 zz 1),by omega,congrArg (Value.int .i64) (by omega),hQ (by rw [aU];exact hzl.af),lV.af.setCell _ _,?_⟩;rw [bN];exact(dS.kS N1.af).to
                  · obtain rfl:p=X.2.hi.length:=by omega
                    have B8:=hQ (hs.to (M:= [gR ze Gz 99 GF a1,gR zh GG 97 zF a2,eN (.slice ua U.length uc) U,big d_ U,Pr.own Gy,Pr.pts J (dO (.slice (some ⟨b1,0,none⟩) X.2.lo.length (X.2.lo.length+64)) (.slice (some ⟨b2,0,none⟩) X.2.hi.length (X.2.hi.length+64)) X.2.op),Row 69 1 (.slice sa S.length sc) S.length (S.map gi),Row 69 1 (.slice ba B.length bc) B.length (B.map gi),Row 60 1 (.slice wa Wn.length wc) Wn.length (Wn.map Prod.fst),big ic S,big iq B,big gU Wn,Pr.pts IB (iZ refs (.slice ac cs.length cc) (.slice al l.length cl) (.slice at' ts.length ct)),Pr.pts TB (eT t.root t.dT t.items),dZ v s,eE r rs gs (fM true) y,Pr.own h,F]))
                    have Qb:=hQ hst;clear hs hst MX hzl;clear c1;have hsl:=YO.af.lens;have Ri:(rg.take q).length=q:=by rw [aW];omega
                    have hS2:(S.length:Int)≤200:=by omega
                    have hB2:(B.length:Int)≤200:=by omega
                    have hW2:(Wn.length:Int)≤200:=by omega
                    clear hsl Ri;have Y3:=B8.af.back ((eN (.slice xa wz.length xc) wz).star (big d_ wz)) WY.af.2;have Vq:=Y3.alloc (.cells [Value.func (.func 95) #[] #[.pointer (some ⟨ze,0,none⟩)]].toArray 69);have A1:=hQ (Vq.ej (A1:=Row 69 1 (.slice sa S.length sc) S.length (S.map gi)))
                    have FO:=hQ (eW wx [Value.func (.func 95) #[] #[.pointer (some ⟨ze,0,none⟩)]] 69 _ rfl);have TT1:=hQ (Qb.af.alloc (.cells [Value.func (.func 95) #[] #[.pointer (some ⟨ze,0,none⟩)]].toArray 69));have c1:=Y3.fx;obtain⟨j1,rY,hj2,Nl,hj4⟩:=info_parts Rq;obtain⟨j0,hj,hy0,hy1,Cw⟩:=info_parts Pg
                    clear Y3 Vq B8 Qb
                    go_wp2_with (first
                     | (at_builtin
                        refine eu rfl _ _ _ rfl 60 j0 (.slice none 0 0) 1 24 Tryz.underlying74 hj hy0 hy1 Cw rfl _ _ _ rfl A3.af ⟨w8.heap.size,0,none⟩ 1 1 [.slice xa wz.length xc] rfl rfl S6.af (by simp [Value.oneCell']) (by simp only [maxLen];omega) (by omega) ?_
                        intro v9 w9 gY Ut _
                        obtain⟨a9,c9,e9,_,_⟩:=Row.read gY
                        subst e9
                        have se:=hQ (dS.kS gY)
                        have TT9:=hQ (TT3.af.eH Ut)
                        clear gY Ut A3 S6 TT3 c1)
                     | (at_builtin
                        refine eu rfl _ _ _ rfl 69 j1 .nilFunc 1 8 Tryz.underlying73 rY hj2 Nl hj4 rfl _ _ _ rfl A2.af ⟨w7.heap.size,0,none⟩ 1 1 [Value.func (.func 95) #[] #[.pointer (some ⟨zh,0,none⟩)]] rfl rfl rH.af (by simp [Value.oneCell']) (by simp only [maxLen];omega) (by omega) ?_
                        intro v8 w8 gp tB _
                        obtain⟨a8,c8,e8,_,_⟩:=Row.read gp
                        subst e8
                        have Y4:=dS.kS gp
                        have Vr:=Y4.alloc (.cells [Value.slice xa wz.length xc].toArray 60)
                        have A3:=hQ (Vr.ej (A1:=Row 60 1 (.slice wa Wn.length wc) Wn.length (Wn.map Prod.fst)))
                        have S6:=hQ (eW w8 [.slice xa wz.length xc] 60 _ rfl)
                        have TT3:=hQ ((TT2.af.eH tB).alloc (.cells [Value.slice xa wz.length xc].toArray 60))
                        clear c1
                        have c1:=Y4.fx
                        clear gp tB Y4 Vr A2 rH TT2)
                     | (at_builtin
                        refine eu rfl _ _ _ rfl 69 j1 .nilFunc 1 8 Tryz.underlying73 rY hj2 Nl hj4 rfl _ _ _ rfl A1.af ⟨wx.heap.size,0,none⟩ 1 1 [Value.func (.func 95) #[] #[.pointer (some ⟨ze,0,none⟩)]] rfl rfl FO.af (by simp [Value.oneCell']) (by simp only [maxLen];omega) (by omega) ?_
                        intro v7 w7 gZ lC _
                        obtain⟨a7,c7,e7,_,_⟩:=Row.read gZ
                        subst e7
                        have Y5:=dS.kS gZ
                        have Vs:=Y5.alloc (.cells [Value.func (.func 95) #[] #[.pointer (some ⟨zh,0,none⟩)]].toArray 69)
                        have A2:=hQ (Vs.ej (A1:=Row 69 1 (.slice ba B.length bc) B.length (B.map gi)))
                        have rH:=hQ (eW w7 [Value.func (.func 95) #[] #[.pointer (some ⟨zh,0,none⟩)]] 69 _ rfl)
                        have TT2:=hQ ((TT1.af.eH lC).alloc (.cells [Value.func (.func 95) #[] #[.pointer (some ⟨zh,0,none⟩)]].toArray 69))
                        clear c1
                        have c1:=Y5.fx
                        clear gZ lC Y5 Vs A1 FO TT1))
                    go_roundg k0
                    case measure=>omega
                    case rel=>
                     have e1:=se.af.to (M:= [Row 69 1 (.slice a7 (S.length+1) c7) (S.length+1) (S.map gi++ [Value.func (.func 95) #[] #[.pointer (some ⟨ze,0,none⟩)]]),Row 69 1 (.slice a8 (B.length+1) c8) (B.length+1) (B.map gi++ [Value.func (.func 95) #[] #[.pointer (some ⟨zh,0,none⟩)]]),Row 60 1 (.slice a9 (Wn.length+1) c9) (Wn.length+1) (Wn.map Prod.fst++ [.slice xa wz.length xc]),eN (.slice ua U.length uc) U,big d_ U,gR ze Gz 99 GF a1,gR zh GG 97 zF a2,(eN (.slice xa wz.length xc) wz).star (big d_ wz),big ic S,big iq B,big gU Wn,Pr.pts IB (iZ refs (.slice ac cs.length cc) (.slice al l.length cl) (.slice at' ts.length ct)),Pr.pts TB (eT t.root t.dT t.items),dZ v s,eE r rs gs (fM true) y,Pr.own h,F])
                     have e2:dS [Row 69 1 (.slice a7 (S.length+1) c7) (S.length+1) (S.map gi++ [gi (⟨ze,Gz,GF,a1,Rz⟩:nu)]),Row 69 1 (.slice a8 (B.length+1) c8) (B.length+1) (B.map gi++ [gi (⟨zh,GG,zF,a2,RG⟩:nu)]),Row 60 1 (.slice a9 (Wn.length+1) c9) (Wn.length+1) (Wn.map Prod.fst++ [.slice xa wz.length xc]),eN (.slice ua U.length uc) U,big d_ U,ic (⟨ze,Gz,GF,a1,Rz⟩:nu),iq (⟨zh,GG,zF,a2,RG⟩:nu),gU ((.slice xa wz.length xc,wz):Value × List fY),big ic S,big iq B,big gU Wn,Pr.pts IB (iZ refs (.slice ac cs.length cc) (.slice al l.length cl) (.slice at' ts.length ct)),Pr.pts TB (eT t.root t.dT t.items),dZ v s,eE r rs gs (fM true) y,Pr.own h,F] _:=e1
                     have e3:=((e2.snoc ic S (⟨ze,Gz,GF,a1,Rz⟩:nu)).snoc iq B (⟨zh,GG,zF,a2,RG⟩:nu)).snoc gU Wn ((.slice xa wz.length xc,wz):Value × List fY)
                     have e4:=e3.to (M:= [Row 69 1 (.slice a7 (S.length+1) c7) (S.length+1) (S.map gi++ [gi (⟨ze,Gz,GF,a1,Rz⟩:nu)]),Row 69 1 (.slice a8 (B.length+1) c8) (B.length+1) (B.map gi++ [gi (⟨zh,GG,zF,a2,RG⟩:nu)]),Row 60 1 (.slice a9 (Wn.length+1) c9) (Wn.length+1) (Wn.map Prod.fst++ [.slice xa wz.length xc]),eN (.slice ua U.length uc) U,big d_ U,big ic (S++ [(⟨ze,Gz,GF,a1,Rz⟩:nu)]),big iq (B++ [(⟨zh,GG,zF,a2,RG⟩:nu)]),big gU (Wn++ [((.slice xa wz.length xc,wz):Value × List fY)]),Pr.pts IB (iZ refs (.slice ac cs.length cc) (.slice al l.length cl) (.slice at' ts.length ct)),Pr.pts TB (eT t.root t.dT t.items),dZ v s,eE r rs gs (fM true) y,Pr.own h,F])
                     refine⟨q+1,S++ [(⟨ze,Gz,GF,a1,Rz⟩:nu)],B++ [(⟨zh,GG,zF,a2,RG⟩:nu)],Wn++ [((.slice xa wz.length xc,wz):Value × List fY)],U,by have:=HQK.af;omega,congrArg (Value.int .i64) (by omega),hQ ?_,hQ (by have:=htl.af;omega),hQ hun.af,TT9.af,⟨e4.sat.perm ?_⟩⟩
                     · rw [Kj.af]
                       exact YO.af.snoc P3.af.2 Sw.af.2 UZ.af P3.af.1 Sw.af.1
                     · simp only [au,List.length_singleton,aI,aT,aZ]
        · have hqn:¬(q:Int)<(n:Int):=by omega
          have Uy:q=n:=by omega
          subst Uy;have WZ:=hQ YO.af;have aaS:T.length≤6553600:=by have:=htl.af;omega
          obtain⟨htt,Y6,Vt⟩:=(hs.jk (eN (.slice ta T.length tc) T) (big d_ T)).arena ((eN (.slice ta T.length tc) T).star (big d_ T));have LQ:=hQ (Ed htt _ T (oJ Y6) (by omega) _ _ (dS.Ii (Vt.ej (A1:=Pr.own htt))));have HTA:=hQ Y6;have T60:=hQ hst;clear hs Vt Y6 hst;go_wp2_with fail
          refine LQ.af.mono ?_;rintro e w61 ⟨lv,rfl,Vu,Vv⟩;have RN:=((Vv.flat).back ((eN (.slice ta T.length tc) T).star (big d_ T)) HTA.af).norm;obtain⟨la,lc,rfl⟩:=Row.shape (RN.ej (A1:=Row 42 1 lv (2*T.length) (T.flatMap il)));have Vw:=RN.iQ (A1:=Row 42 1 (.slice la (2*T.length) lc) (2*T.length) (T.flatMap il)) (A2:=big d_ T)
          have AP:=hQ (Io (.slice la (2*T.length) lc) (T.flatMap Ec) (by rw [Hy];omega) (fun x hx=>by
           obtain⟨z,hz,hx2⟩:=List.mem_flatMap.1 hx
           have Nr:=htn.af z hz
           unfold Ec at hx2
           simp only [aR,dr,or_false] at hx2
           rcases hx2 with rfl | rfl
           · exact Nr.1
           · exact Nr.2) _ w61 (by rw [Hy,J6, ← Hw];exact Vw))
          have T61:=hQ (T60.af.trans Vu);clear Vv RN Vw Vu LQ T60 HTA;go_wp2_with fail
          refine AP.af.mono ?_;rintro e w64 ⟨rfl,Vx,Vy⟩;have Vz:dS _ w64:=dS.Ql Vy
          have VA:=Vz.to (M:= [eE r rs gs (fM true) y,dZ v s,Row 69 1 (.slice sa S.length sc) S.length (S.map gi),Row 69 1 (.slice ba B.length bc) B.length (B.map gi),Row 60 1 (.slice wa Wn.length wc) Wn.length (Wn.map Prod.fst),big ic S,big iq B,big gU Wn,Pr.pts IB (iZ refs (.slice ac cs.length cc) (.slice al l.length cl) (.slice at' ts.length ct)),Pr.pts TB (eT t.root t.dT t.items),Pr.own h,F])
          have VD:dS [kJ r rs gs (fM true),dZ v s,Row 69 1 (.slice sa S.length sc) S.length (S.map gi),Row 69 1 (.slice ba B.length bc) B.length (B.map gi),Row 60 1 (.slice wa Wn.length wc) Wn.length (Wn.map Prod.fst),big ic S,big iq B,big gU Wn,Pr.pts IB (iZ refs (.slice ac cs.length cc) (.slice al l.length cl) (.slice at' ts.length ct)),Pr.pts TB (eT t.root t.dT t.items),Pr.own h,F] w64:=⟨iw.2 ⟨y,xB.af,VA.sat⟩⟩
          have KP:=hQ (JO v r s rs gs (fM true) look qo.af.1 qo.af.2.1 HC.af _ _ (dS.xp (VD.iQ (A1:=dZ v s) (A2:=kJ r rs gs (fM true)))));have T64:=hQ (T61.af.trans Vx);clear Vy Vz VA VD Vx AP T61;go_wp2_with fail
          refine KP.af.mono ?_;rintro e w68 ⟨rfl,VE,VF⟩
          have RP:=VF.flat.to (M:= [dZ v s,Row 69 1 (.slice sa S.length sc) S.length (S.map gi),Row 69 1 (.slice ba B.length bc) B.length (B.map gi),Row 60 1 (.slice wa Wn.length wc) Wn.length (Wn.map Prod.fst),big ic S,big iq B,big gU Wn,Pr.pts IB (iZ refs (.slice ac cs.length cc) (.slice al l.length cl) (.slice at' ts.length ct)),Pr.pts TB (eT t.root t.dT t.items),Pr.own h,F])
          have T68:=hQ (T64.af.trans VE);have c1:=RP.fx;have DR:=hQ (HDR.af t.root _ _ (RP.ej (A1:=dZ v s)));clear VF RP VE KP T64;go_wp2_with fail
          refine DR.af.mono ?_;rintro e w70 ⟨VG,er0,tz,rfl,BW,VH⟩;have VI:=dS.kS VH;have SE:=hQ (Dh v tz _ _ (VI.ej (A1:=dZ v tz)));have T70:=hQ (T68.af.trans VG);have Nn:=hQ BW;clear VH VI VG DR T68 c1 BW;go_wp2_with fail
          refine SE.af.mono ?_;rintro e w72 ⟨rfl,VJ,VK⟩;have VM:=dS.kS VJ;have T72:=hQ (T70.af.trans VK)
          have VN:=hQ (VM.to (M:= [dZ v tz.settled,Row 69 1 (.slice sa S.length sc) S.length (S.map gi),Row 69 1 (.slice ba B.length bc) B.length (B.map gi),Row 60 1 (.slice wa Wn.length wc) Wn.length (Wn.map Prod.fst),big ic S,big iq B,big gU Wn,Pr.pts IB (iZ refs (.slice ac cs.length cc) (.slice al l.length cl) (.slice at' ts.length ct)),Pr.pts TB (eT t.root t.dT t.items),Pr.own h,F]))
          clear VJ VM VK SE T70;have FL0:=hQ (H9 v tz.settled Nn.af _ w72 (dS.Ii (VN.af.ej (A1:=dZ v tz.settled))));have VO:=hQ Nn.af;clear VN Nn;go_wp2_with fail
          refine FL0.af.mono ?_;rintro e w74 ⟨VP,nn,er,rfl,tf⟩
          obtain⟨u,he,US,VQ⟩:∃u:eC,(er=12∨er=0∧1≤nn∧nn≤65536)∧vS u∧dS [dZ v u,Row 69 1 (.slice sa S.length sc) S.length (S.map gi),Row 69 1 (.slice ba B.length bc) B.length (B.map gi),Row 60 1 (.slice wa Wn.length wc) Wn.length (Wn.map Prod.fst),big ic S,big iq B,big gU Wn,Pr.pts IB (iZ refs (.slice ac cs.length cc) (.slice al l.length cl) (.slice at' ts.length ct)),Pr.pts TB (eT t.root t.dT t.items),Pr.own h,F] w74:=by
           rcases tf with⟨rfl,hs⟩ | ⟨rfl,h1,h2,u',r',_,hs⟩
           · exact⟨_,.inl rfl,VO.af,hs.flat⟩
           · exact⟨u',.inr ⟨rfl,h1,h2⟩,r',hs.flat⟩
          have T74:=hQ (T72.af.trans VP);have VS:=hQ VQ;have An:=hQ US;have HE0:=hQ he;clear VP tf VQ US he FL0 T72 VO;go_wp2_with fail
          go_loopg [29,30] (u.pool.many 1+1) (fun k nv ev wr=> ∃(n9 VT:Int) (u9:eC),nv= .int .i64 n9∧ev= .int .i64 VT∧(VT=12∨VT=0∧1≤n9∧n9≤65536)∧Hid (VT=0→u9.pool.many 1<k)∧Hid (vS u9)∧dN w wr∧dS [dZ v u9,Row 69 1 (.slice sa S.length sc) S.length (S.map gi),Row 69 1 (.slice ba B.length bc) B.length (B.map gi),Row 60 1 (.slice wa Wn.length wc) Wn.length (Wn.map Prod.fst),big ic S,big iq B,big gU Wn,Pr.pts IB (iZ refs (.slice ac cs.length cc) (.slice al l.length cl) (.slice at' ts.length ct)),Pr.pts TB (eT t.root t.dT t.items),Pr.own h,F] wr)
          case atStart=>exact⟨nn,er,u,rfl,rfl,HE0.af,hQ (fun _=>cf _),An,T74.af,VS.af⟩
          case round=>
           obtain⟨n9,VT,u9,rfl,rfl,hc9,Gh,Y7,hst,hs⟩:=hrel;rename World=>wf
           clear VS T74 An HE0;rcases hc9 with rfl | ⟨rfl,aaT,aaU⟩
           · have VU:=hQ (hs.to (M:= [Row 69 1 (.slice sa S.length sc) S.length (S.map gi),Row 69 1 (.slice ba B.length bc) B.length (B.map gi),Row 60 1 (.slice wa Wn.length wc) Wn.length (Wn.map Prod.fst),big ic S,big iq B,big gU Wn,Pr.pts IB (iZ refs (.slice ac cs.length cc) (.slice al l.length cl) (.slice at' ts.length ct)),Pr.pts TB (eT t.root t.dT t.items),Pr.own h,F]))
             have VV:=hQ hst;clear hs hst Gh Y7;go_wp2_with fail
             have NR:=WZ.af.lens;have Y9:(rg.take q).length≤200:=by rw [aW];omega
             have hS9:(S.length:Int)≤200:=by omega
             have hBS:B.length=S.length:=by omega
             have hWS:Wn.length=S.length:=by omega
             have HBW:=hQ (And.intro hBS hWS);clear NR Y9 hBS hWS
             go_loopg [31] S.length (fun k i wr=> ∃p:Nat,p+k=S.length∧i= .int .i64 p∧dN w wr∧dS [Row 69 1 (.slice sa S.length sc) S.length (S.map gi),Row 69 1 (.slice ba B.length bc) B.length (B.map gi),Row 60 1 (.slice wa Wn.length wc) Wn.length (Wn.map Prod.fst),big ic S,big iq B,big gU Wn,Pr.pts IB (iZ refs (.slice ac cs.length cc) (.slice al l.length cl) (.slice at' ts.length ct)),Pr.pts TB (eT t.root t.dT t.items),Pr.own h,F] wr)
             case atStart=>exact⟨0,Nat.zero_add _,rfl,VV.af,VU.af⟩
             case round=>
              obtain⟨p,hpk,rfl,hst,hs⟩:=hrel;rename World=>wg
              clear VU VV;rcases aB p S.length with VW | oK
              · obtain⟨k4,hk4⟩:∃k4,k4+1=gk:=⟨gk-1,by omega⟩
                have L9:(p:Int)<(S.length:Int):=by omega
                have W5:p<B.length:=by have:=HBW.af.1;omega
                have Sx:p<Wn.length:=by have:=HBW.af.2;omega
                have aaV:(p:Int)<(B.length:Int):=by omega
                have aaW:(p:Int)<(Wn.length:Int):=by omega
                obtain⟨bs,us,rfl,ga1,ga2,ga3,ga4⟩:=Row.sF (hs.ej (A1:=Row 69 1 (.slice sa S.length sc) S.length (S.map gi))) p VW;obtain⟨bb,ub,rfl,gb1,gb2,gb3,gb4⟩:=Row.sF (hs.ej (A1:=Row 69 1 (.slice ba B.length bc) B.length (B.map gi))) p W5;obtain⟨bv,uv,rfl,gc1,gc2,gc3,gc4⟩:=Row.sF (hs.ej (A1:=Row 60 1 (.slice wa Wn.length wc) Wn.length (Wn.map Prod.fst))) p Sx
                clear ga1 ga2 ga3 ga4 gb1 gb2 gb3 gb4 gc1 gc2 gc3 gc4;obtain⟨tbS,W6⟩:∃z,S[p].tb=z:=⟨_,rfl⟩;obtain⟨tbB,Y_⟩:∃z,B[p].tb=z:=⟨_,rfl⟩;obtain⟨wvp,W7⟩:∃z,Wn[p].1=z:=⟨_,rfl⟩
                have W_:=hQ (show ∀(W:World) (M:List Pr) [AX [Row 69 1 (.slice (some ⟨bs,0,none⟩) S.length sc) S.length (S.map gi),Row 69 1 (.slice (some ⟨bb,0,none⟩) B.length bc) B.length (B.map gi),Row 60 1 (.slice (some ⟨bv,0,none⟩) Wn.length wc) Wn.length (Wn.map Prod.fst)] M],dS M W→(W.cell? ⟨bs,p,none⟩=some (.func (.func 95) #[] #[.pointer (some ⟨tbS,0,none⟩)])∧bs<W.heap.size)∧(W.cell? ⟨bb,p,none⟩=some (.func (.func 95) #[] #[.pointer (some ⟨tbB,0,none⟩)])∧bb<W.heap.size)∧(W.cell? ⟨bv,p,none⟩=some wvp∧bv<W.heap.size) from by
                 intro W M _ hM
                 have hW:dS [Row 69 1 (.slice (some ⟨bs,0,none⟩) S.length sc) S.length (S.map gi),Row 69 1 (.slice (some ⟨bb,0,none⟩) B.length bc) B.length (B.map gi),Row 60 1 (.slice (some ⟨bv,0,none⟩) Wn.length wc) Wn.length (Wn.map Prod.fst)] W:=hM.to
                 obtain⟨b1',u1,e1,g1,c1',_,z1'⟩:=Row.sF (hW.ej (A1:=Row 69 1 (.slice (some ⟨bs,0,none⟩) S.length sc) S.length (S.map gi))) p VW
                 obtain⟨b2',u2,e2,g2,c2',_,z2'⟩:=Row.sF (hW.ej (A1:=Row 69 1 (.slice (some ⟨bb,0,none⟩) B.length bc) B.length (B.map gi))) p W5
                 obtain⟨b3',u3,e3,g3,c3',_,z3'⟩:=Row.sF (hW.ej (A1:=Row 60 1 (.slice (some ⟨bv,0,none⟩) Wn.length wc) Wn.length (Wn.map Prod.fst))) p Sx
                 cases e1
                 cases e2
                 cases e3
                 rw [aO,ag VW] at g1
                 rw [aO,ag W5] at g2
                 rw [aO,ag Sx] at g3
                 cases g1
                 cases g2
                 cases g3
                 rw [← W6, ← Y_, ← W7]
                 exact⟨⟨c1',z1'⟩,⟨c2',z2'⟩,⟨c3',z3'⟩⟩)
                obtain⟨⟨x0,x1⟩,⟨x2,x3⟩,⟨x4,x5⟩⟩:=W_.af wg _ hs;have GA:=yI HT.af WZ.af YM p VW Sx 1073741824 _ _ (dS.xp (hs.drew.iQ (A1:=big ic S) (A2:=big gU Wn)));rw [W6,W7] at GA;have G1:=hQ GA;have VY:=hQ hst.drew;have Xa:=hQ (And.intro W6 (And.intro Y_ W7));clear hs hst GA W6 Y_ W7;go_wp2_with fail
                refine wS 290 [0,1,2,3,4,5,6,7] [(8,[9,10,11,12,13,14,15,16,17],[0,1,2,4,5,6]),(18,[19,20,21,22,23,24,25,26,27,28,29],[0,1,2,4,5,6,10,11,12,14,15,16]),(30,[31,32],[0,1,2,4,5,6,10,11,12,14,15,16,19,21,22,23,25,26,27])] ?_;refine dY _ rfl rfl ?_;simp only [pick,pQ];iterate 8 (go_big_quiet_step (fail))
                refine wpQuiet_nil ?_;refine dK rfl ?_;go_wp2_with fail
                refine G1.af.mono ?_;rintro e w81 ⟨rfl,Na,Nb⟩;have RQ:=Nb.flat;have Xb:=hQ (VY.af.trans Na);clear x0 x1 x2 x3 x4 x5;obtain⟨⟨x0,x1⟩,⟨x2,x3⟩,⟨x4,x5⟩⟩:=W_.af w81 _ RQ;have GA:=Gw HT.af WZ.af YM p W5 Sx 1073741824 _ _ (dS.xp (RQ.iQ (A1:=big iq B) (A2:=big gU Wn)));rw [Xa.af.2.1,Xa.af.2.2] at GA;have G2:=hQ GA
                clear Nb RQ Na GA G1 VY;go_wp2;refine dQ ?_;refine dY _ rfl rfl ?_;simp only [pick,pQ];iterate 9 (go_big_quiet_step (fail))
                refine wpQuiet_nil ⟨?_,?_⟩
                · exact cQ
                refine dK rfl ?_;go_wp2_with fail
                refine G2.af.mono ?_;rintro e w83 ⟨rfl,VZ,V3⟩;have RS:=V3.flat;have T83:=hQ (Xb.af.trans VZ);clear x0 x1 x2 x3 x4 x5;obtain⟨⟨x0,x1⟩,⟨x2,x3⟩,⟨x4,x5⟩⟩:=W_.af w83 _ RS;have GA:=yI HT.af WZ.af YM p VW Sx kk _ _ (dS.xp (RS.iQ (A1:=big ic S) (A2:=big gU Wn)));rw [Xa.af.1,Xa.af.2.2] at GA;have G3:=hQ GA;clear V3 RS VZ GA G2 Xb
                go_wp2;refine dQ ?_;refine dY _ rfl rfl ?_;simp only [pick,pQ];iterate 11 (go_big_quiet_step (fail))
                refine wpQuiet_nil ⟨?_,?_⟩
                · exact cQ
                refine dK rfl ?_;go_wp2_with fail
                refine G3.af.mono ?_;rintro e w85 ⟨rfl,V4,V6⟩;have RU:=V6.flat;have T85:=hQ (T83.af.trans V4);clear x0 x1 x2 x3 x4 x5;obtain⟨⟨x0,x1⟩,⟨x2,x3⟩,⟨x4,x5⟩⟩:=W_.af w85 _ RU
                have Y':=hQ (RU.to (M:= [Row 69 1 (.slice (some ⟨bs,0,none⟩) S.length sc) S.length (S.map gi),Row 69 1 (.slice (some ⟨bb,0,none⟩) B.length bc) B.length (B.map gi),Row 60 1 (.slice (some ⟨bv,0,none⟩) Wn.length wc) Wn.length (Wn.map Prod.fst),big ic S,big iq B,big gU Wn,Pr.pts IB (iZ refs (.slice ac cs.length cc) (.slice al l.length cl) (.slice at' ts.length ct)),Pr.pts TB (eT t.root t.dT t.items),Pr.own h,F]))
                clear V6 RU V4 G3 T83;go_wp2;refine dQ ?_;refine dY _ rfl rfl ?_;simp only [pick,pQ];iterate 2 (go_big_quiet_step (fail))
                refine wpQuiet_nil ⟨?_,?_⟩
                · exact cQ
                refine dW ?_;go_wp2;go_roundg k4
                case measure=>omega
                case rel=>exact⟨p+1,by omega,congrArg (Value.int .i64) (by omega),T85.af,Y'.af⟩
              · have L9:¬(p:Int)<(S.length:Int):=by omega
                have LV:=hQ (rW h HH.af.1 F _ (hs.to (M:= [Pr.own h,F])));have VY:=hQ hst;clear hs hst;go_wp2_with fail
                refine LV.af.mono ?_;rintro e w81 ⟨rfl,Na,Nb⟩;have Xb:=hQ (VY.af.trans Na);have HE:=hQ Nb;clear Na Nb LV VY;go_wp2;go_ret;exact⟨rfl,Xb.af,HE.af⟩
           · have FL:=hQ (H9 v u9 Y7.af _ wf (dS.Ii (hs.ej (A1:=dZ v u9))))
             have VV:=hQ hst;have Km:(0:Int)<n9:=by omega
             have HK9:=hQ (Gh.af rfl);clear hs hst Gh;go_wp2_with fail
             refine FL.af.mono ?_;rintro e w77 ⟨V8,n10,aaX,rfl,tf⟩;have HCA:=hQ tf;have T77:=hQ (VV.af.trans V8);clear tf V8 FL VV;go_wp2;go_roundg (u9.pool.many 1)
             case measure=>exact HK9.af
             case rel=>
              rcases HCA.af with⟨rfl,hs⟩ | ⟨rfl,h1,h2,u',r',m',hs⟩
              · exact⟨n10,12,u9,rfl,rfl,.inl rfl,hQ (fun h=>by cases h),Y7,T77.af,hs.flat⟩
              · exact⟨n10,0,u',rfl,rfl,.inr ⟨rfl,h1,h2⟩,hQ (fun _=>by omega),hQ r',T77.af,hs.flat⟩
end Go.Proofs.YtiegeadmgpanoaaGreatDoor.D2
