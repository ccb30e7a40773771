/- The document's checker looks at an item; the conditions stand as hypotheses. -/
import Derived.Test.YtiegeadmgpanoaaGreatDoorL33
import Derived.Test.YtiegeadmgpanoaaGreatDoorL27
set_option maxRecDepth 100000
set_option maxHeartbeats 16000000
namespace Go.Proofs.YtiegeadmgpanoaaGreatDoor.D2
open ChangeShapes WideShapes ChangeAt RowKit Sl fB L3 Z3 E4 X6 X5
theorem lX {r:Nat}{s:ef}{gs:List dR}{hush:iJ}{x:RX}(ok:yk s gs x){look:Int→Option dR}(hl:kT s gs look){n:Int}{g:dR}(hn:look n=some g){F:Pr}{w:World}(h:Sat ((eE r s gs hush x).star F) w):
 ∃(j cp b:Nat) (iG iE:Option Addr) (gX iF:Nat),n=(j:Int)+1∧j<s.counts.length∧w.cell? ⟨r,3,none⟩=some (.slice (some ⟨b,0,none⟩) s.counts.length cp)∧r<w.heap.size∧b<w.heap.size∧
  fV x.h (fX g.kind g.level (.slice iG g.items.length gX) (.slice iE g.data.length iF) g.next) g∧w.cell? ⟨b,j*5,none⟩=some (.int .i64 g.kind)∧w.cell? ⟨b,j*5+1,none⟩=some (.int .i64 g.level)∧
  w.cell? ⟨b,j*5+2,none⟩=some (.slice iG g.items.length gX)∧w.cell? ⟨b,j*5+3,none⟩=some (.slice iE g.data.length iF)∧w.cell? ⟨b,j*5+4,none⟩=some (.int .i64 g.next):=by
 obtain⟨h1,h2,_⟩:=hl.some n g hn;obtain⟨ht,_⟩:=Am ok h1;obtain⟨j,rfl,hj⟩:=ly ht;obtain⟨ac,cc,al,cl,ap,cp,⟨_,_,q3,_⟩,z,_,rd⟩:=sT ok h;obtain⟨_,_,b,g',vi,vd,rfl,hg,hp,d0,d1,d2,d3,d4⟩:=rd j hj
 have e:g'=g:=by
  rw [← h2];unfold BF;rw [show ((j:Int)+1).toNat-1=j by omega,az,hg];rfl
 subst e;obtain⟨iG,iE,gX,iF,ep⟩:=rU hp;simp only [fX,Value.agg.injEq,Array.mk.injEq,List.cons.injEq,and_true,true_and] at ep;obtain⟨rfl,rfl⟩:=ep;exact⟨j,cp,b,iG,iE,gX,iF,rfl,hj,q3,z,ay _ _ d0,hp,d0,d1,d2,d3,d4⟩
theorem JP(c r b cap:Nat)(s:ef)(gs:List dR)(hush:iJ)(x:RX)(ok:yk s gs x)(look:Int→Option dR)(hl:kT s gs look)(M:List Int)(keys:Int)(hk:0≤keys∧keys≤4611686018427387904)(it:en)(rg:fw)(h:Hp)(iv rv:Value)(hi:nD h iv it)(hr:gJ h rv rg)(nx:it.key.length≤140737488355328)(hs:it.size≤3840)(F:Pr)(w:World)(hle:h.le w)(hF:dS (kO c r b cap s gs hush x M keys [F]) w):
 Calls Tryz.prog 79 #[.pointer (some ⟨c,0,none⟩),iv,rv] w fun e w'=>dN w w'∧e= .returned (.int .i64 (g_ look it rg (M,keys)).1)∧dS (kO c r b cap s gs hush x (g_ look it rg (M,keys)).2.1 (g_ look it rg (M,keys)).2.2 [F]) w':=by
 obtain⟨kv,vv,rfl,hkb,hvb⟩:=hi;obtain⟨lo,hi,rfl,hlo,mK⟩:=id hr;obtain⟨ak,ck,rfl,_⟩:=eL hkb;obtain⟨av,cv,rfl,_⟩:=eL hvb;obtain⟨rl,dl,rfl,_⟩:=eL hlo;obtain⟨rh,dh,rfl,_⟩:=eL mK
 have hs0:=(hF.alloc (.cells #[.slice ak it.key.length ck,.slice av it.value.length cv,.int .i64 it.child,.int .i64 it.size] 89)).alloc (dO (.slice rl rg.lo.length dl) (.slice rh rg.hi.length dh) rg.op);rw [show (w.alloc (.cells #[.slice ak it.key.length ck,.slice av it.value.length cv,.int .i64 it.child,.int .i64 it.size] 89)).heap.size=w.heap.size+1 by simp] at hs0
 have Sp:eV w ((w.alloc (.cells #[.slice ak it.key.length ck,.slice av it.value.length cv,.int .i64 it.child,.int .i64 it.size] 89)).alloc (dO (.slice rl rg.lo.length dl) (.slice rh rg.hi.length dh) rg.op)):=((eV.refl w).alloc _).alloc _;have HH:=hQ (Dz h _ _ rg it.key hr hkb nx _ (hle.only Sp))
 have eR:=hQ (((dN.refl w).alloc (.cells #[.slice ak it.key.length ck,.slice av it.value.length cv,.int .i64 it.child,.int .i64 it.size] 89)).alloc (dO (.slice rl rg.lo.length dl) (.slice rh rg.hi.length dh) rg.op));have jC:=hQ hs0;have HL:=hQ (And.intro ok hl);have c1:=hs0.fx;clear hF hs0 hkb hvb hlo mK hr nx hl ok hle Sp
 cases oN:iV rg it.key with
 | false=>
   rw [oN] at HH;have HV:=hQ (show g_ look it rg (M,keys)=(11,(M,keys)) from by unfold g_;rw [if_pos oN]);clear oN HL;go_enter Tryz.func79,Tryz.ntmps79
   go_wp2_with fail
   refine HH.af.mono ?_;rintro e w1 ⟨rfl,ho⟩;have hs1:=jC.af.ext ho.heap;have eQ:=hQ (eR.af.trans ho.st);clear HH jC eR ho c1;have HE:=hQ (hs1.to (M:=kO c r b cap s gs hush x M keys [F]));go_wp2;go_ret;rw [HV.af];exact⟨eQ.af,rfl,HE.af⟩
 | true=>
   rw [oN] at HH;by_cases Hj:it.size≤32
   · have HV:=hQ (show g_ look it rg (M,keys)=(0,(M,keys+1)) from by unfold g_;rw [if_neg (by rw [oN];simp),if_pos Hj])
     clear oN HL;go_enter Tryz.func79,Tryz.ntmps79
     go_wp2_with fail
     refine HH.af.mono ?_;rintro e w1 ⟨rfl,ho⟩;have hs1:=jC.af.ext ho.heap;have eQ:=hQ (eR.af.trans ho.st);clear c1;have c1:=hs1.fx;have HE:=hQ ((hs1.set c 2 (.int .i64 (keys+1))).to (M:=kO c r b cap s gs hush x M (keys+1) [F]));clear HH jC eR ho hs1;go_wp2;go_ret;rw [HV.af];exact⟨eQ.af.setCell _ _,rfl,HE.af⟩
   · have HV:=hQ (show g_ look it rg (M,keys)=((jv look it.size.toNat it.size it.child M).1,((jv look it.size.toNat it.size it.child M).2,keys+1)) from by unfold g_;rw [if_neg (by rw [oN];simp),if_neg Hj])
     clear oN;go_enter Tryz.func79,Tryz.ntmps79
     go_wp2_with fail
     refine HH.af.mono ?_;rintro e w1 ⟨rfl,ho⟩;have hs1:=jC.af.ext ho.heap;have eQ:=hQ ((eR.af.trans ho.st).setCell ⟨c,2,none⟩ (.int .i64 (keys+1)));clear c1;have c1:=hs1.fx;have hs2:=hs1.set c 2 (.int .i64 (keys+1));generalize w.heap.size+1=BG at*;generalize w.heap.size=BI at*
     have lK:=hQ (hs2.to (M:=kO c r b cap s gs hush x M (keys+1) [Pr.pts BG (dO (.slice rl rg.lo.length dl) (.slice rh rg.hi.length dh) rg.op),Pr.pts BI (.cells #[.slice ak it.key.length ck,.slice av it.value.length cv,.int .i64 it.child,.int .i64 it.size] 89),F]));clear HH jC eR ho hs1 hs2;go_wp2;clear c1
     go_loopw [7,8] (fun lf nn wr=> ∃(lack n:Int) (M':List Int),lf= .int .i64 lack∧nn= .int .i64 n∧lack≤3840∧dN w wr∧Hid (jv look it.size.toNat it.size it.child M=jv look lack.toNat lack n M')∧dS (kO c r b cap s gs hush x M' (keys+1) [Pr.pts BG (dO (.slice rl rg.lo.length dl) (.slice rh rg.hi.length dh) rg.op),Pr.pts BI (.cells #[.slice ak it.key.length ck,.slice av it.value.length cv,.int .i64 it.child,.int .i64 it.size] 89),F]) wr) (fun lf _ _=>(intOf lf).toNat)
     case atStart=>exact⟨it.size,it.child,M,rfl,rfl,hs,eQ.af,hQ rfl,lK.af⟩
     case round=>
      obtain⟨lack,n,M',rfl,rfl,hlk,hst,heq,mh⟩:=hrel;clear eQ lK;have eR:=hQ hst;have c1:=mh.fx;by_cases hz:0<lack
      · have EN:=hQ (sY c r b cap s gs hush x HL.af.1 look HL.af.2 M' (keys+1) n _ _ (dS.Qk (mh.vB (A1:=eE r s gs hush x) (A2:=Pr.pts c (Kl r b cap s.counts.length (keys+1))) (A3:=vm b cap s.counts.length M'))))
        have uo:=hQ (heq.af.trans (vU hz));clear hst heq mh;go_wp2_with fail
        refine EN.af.mono ?_;rintro e w3 ⟨mF,(⟨hen,rfl,fP⟩ | ⟨g,hen,rfl,fP⟩)⟩
        · have heq:=uo.af
          rw [hen] at heq;simp only at heq;have HQ:=hQ heq;have fp:=fP.flat;have gg:=hQ (eR.af.trans mF);have HE:=hQ (fp.to (M:=kO c r b cap s gs hush x M' (keys+1) [F]));clear c1 heq;have c1:=fp.fx;clear fP fp mF EN uo hen;go_wp2;go_ret;rw [HV.af,HQ.af];exact⟨gg.af,rfl,HE.af⟩
        · have heq:=uo.af
          rw [hen] at heq;simp only at heq
          have Ub:look n=some g:=by
           unfold gy at hen;split at hen
           · cases hen
           · exact hen
          have fp:=fP.flat;obtain⟨j,cp,bp,iG,iE,gX,iF,rfl,hj,q3,z1,z2,_,d0,d1,d2,d3,d4⟩:=lX HL.af.1 HL.af.2 Ub (fp.ej (A1:=eE r s gs hush x));have hj2:(j:Int)<(s.counts.length:Int):=by omega
          have rH:=HL.af.1.n2;have Nl:(j:Int)≤65536:=by omega
          have JQ:=hQ (eR.af.trans mF);have gg:=hQ ((eR.af.trans mF).alloc (dV g.kind g.level (.slice iG g.items.length gX) (.slice iE g.data.length iF) g.next));have Wj:=hQ fp;have pN:=hQ (fp.alloc (dV g.kind g.level (.slice iG g.items.length gX) (.slice iE g.data.length iF) g.next));clear c1;have c1:=fp.fx
          clear fP fp mF EN uo hen Ub;by_cases hk3:g.kind≠3
          · rw [if_pos hk3] at heq
            have HQ:=hQ heq;have HE:=hQ (Wj.af.to (M:=kO c r b cap s gs hush x (((j:Int)+1) :: M') (keys+1) [F]));have hkb:(g.kind != 3)=true:=bne_iff_ne.2 hk3;clear heq hk3;go_wp2;go_ret;rw [HV.af,HQ.af];exact⟨JQ.af,rfl,HE.af⟩
          · rw [if_neg hk3] at heq
            have hkb:(g.kind != 3)=false:=by rw [bne_eq_false_iff_eq];omega
            clear hk3;obtain⟨m,hm⟩:∃m,min lack 480=m:=⟨_,rfl⟩;have PZ:0<m∧m≤lack∧m≤480∧(m=lack∨m=480):=by omega
            have hm2:min 480 lack=m:=by omega
            rw [hm] at heq;by_cases hd:(g.data.length:Int)=m
            · have R9:((g.data.length:Int) != m)=false:=by rw [bne_eq_false_iff_eq];exact hd
              by_cases hx:g.next=0↔lack≤480
              · rw [if_neg (by intro h;rcases h with h | h;exact h hd;exact h hx)] at heq
                have HQ:=hQ heq;have mY:=hQ (pN.af.to (M:=kO c r b cap s gs hush x (((j:Int)+1) :: M') (keys+1) [Pr.pts BG (dO (.slice rl rg.lo.length dl) (.slice rh rg.hi.length dh) rg.op),Pr.pts BI (.cells #[.slice ak it.key.length ck,.slice av it.value.length cv,.int .i64 it.child,.int .i64 it.size] 89),F]))
                have hbb:(g.next == 0)=(lack-m == 0):=by
                 rw [aL,beq_iff_eq,beq_iff_eq,hx];omega
                clear hx hd heq pN;go_wp2_with (refine kZ rfl _ _ rfl rfl 480 lack m hm2.symm rfl rfl ?_)
                go_roundw
                case rel=>exact⟨lack-m,g.next,((j:Int)+1) :: M',rfl,rfl,by omega,gg.af,HQ,mY.af⟩
                case measure=>simp [intOf];omega
              · rw [if_pos (.inr hx)] at heq
                have HQ:=hQ heq;have HE:=hQ (pN.af.to (M:=kO c r b cap s gs hush x (((j:Int)+1) :: M') (keys+1) [F]))
                have hbb:(g.next == 0)= !(lack-m == 0):=by
                 rw [aL,beq_iff_eq,Bool.not_eq_true',beq_eq_false_iff_ne];omega
                clear hx hd heq;go_wp2_with (refine kZ rfl _ _ rfl rfl 480 lack m hm2.symm rfl rfl ?_)
                go_ret;rw [HV.af,HQ.af];exact⟨gg.af,rfl,HE.af⟩
            · rw [if_pos (.inl hd)] at heq
              have HQ:=hQ heq;have HE:=hQ (pN.af.to (M:=kO c r b cap s gs hush x (((j:Int)+1) :: M') (keys+1) [F]));have R9:((g.data.length:Int) != m)=true:=bne_iff_ne.2 hd;clear heq hd;go_wp2_with (refine kZ rfl _ _ rfl rfl 480 lack m hm2.symm rfl rfl ?_)
              go_ret;rw [HV.af,HQ.af];exact⟨gg.af,rfl,HE.af⟩
      · have h0:jv look lack.toNat lack n M'=(0,M'):=by
         rw [show lack.toNat=0 by omega];rfl
        have HQ:=hQ (heq.af.trans h0);have HE:=hQ (mh.to (M:=kO c r b cap s gs hush x M' (keys+1) [F]));clear hst heq mh h0;go_wp2;go_ret;rw [HV.af,HQ.af];exact⟨eR.af,rfl,HE.af⟩
end Go.Proofs.YtiegeadmgpanoaaGreatDoor.D2
