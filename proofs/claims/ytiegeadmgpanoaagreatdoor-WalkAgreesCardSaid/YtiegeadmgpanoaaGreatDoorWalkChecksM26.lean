/- The document's checker looks at an item; the conditions stand as hypotheses. -/
import Derived.Test.YtiegeadmgpanoaaGreatDoorWalkChecksM25
import Derived.Test.YtiegeadmgpanoaaGreatDoorWalkChecksM19
import Derived.Test.YtiegeadmgpanoaaGreatDoorWalkChecksM01
set_option maxRecDepth 100000
set_option maxHeartbeats 16000000
namespace Go.Proofs.YtiegeadmgpanoaaGreatDoor.Q7
open ChangeShapes WideShapes ChangeAt RowKit Sl Cop F3 G2 J2 Q3 V3 X3 M5 G6 J6 L6 T6 N5 S5 B6 M2 K7 N7 M7 N2
theorem page_cells {r:Nat}{s:PoolS}{gs:List PageV}{hush:RTail}{x:RX}(ok:ROk s gs x){look:Int→Option PageV}(hl:RLooks s gs look){n:Int}{g:PageV}(hn:look n=some g){F:Pr}{w:World}(h:Sat ((RefAt r s gs hush x).star F) w):
 ∃(j cp b:Nat) (tai tad:Option Addr) (tci tcd:Nat),n=(j:Int)+1∧j<s.counts.length∧w.cell? ⟨r,3,none⟩=some (.slice (some ⟨b,0,none⟩) s.counts.length cp)∧r<w.heap.size∧b<w.heap.size∧
  PageIn x.h (pageV g.kind g.level (.slice tai g.items.length tci) (.slice tad g.data.length tcd) g.next) g∧w.cell? ⟨b,j*5,none⟩=some (.int .i64 g.kind)∧w.cell? ⟨b,j*5+1,none⟩=some (.int .i64 g.level)∧
  w.cell? ⟨b,j*5+2,none⟩=some (.slice tai g.items.length tci)∧w.cell? ⟨b,j*5+3,none⟩=some (.slice tad g.data.length tcd)∧w.cell? ⟨b,j*5+4,none⟩=some (.int .i64 g.next):=by
 obtain⟨h1,h2,_⟩:=hl.some n g hn;obtain⟨ht,_⟩:=count_pos ok h1;obtain⟨j,rfl,hj⟩:=there_idx ht;obtain⟨ac,cc,al,cl,ap,cp,⟨_,_,q3,_⟩,z,_,rd⟩:=ref_rd ok h;obtain⟨_,_,b,g',vi,vd,rfl,hg,hp,d0,d1,d2,d3,d4⟩:=rd j hj
 have e:g'=g:=by
  rw [← h2];unfold pgAt;rw [show ((j:Int)+1).toNat-1=j by omega,List.getD_eq_getElem?_getD,hg];rfl
 subst e;obtain⟨tai,tad,tci,tcd,ep⟩:=page_sh hp;simp only [pageV,Value.agg.injEq,Array.mk.injEq,List.cons.injEq,and_true,true_and] at ep;obtain⟨rfl,rfl⟩:=ep;exact⟨j,cp,b,tai,tad,tci,tcd,rfl,hj,q3,z,World.block_lt_of_cell? _ _ d0,hp,d0,d1,d2,d3,d4⟩
theorem ritem_any(c r b cap:Nat)(s:PoolS)(gs:List PageV)(hush:RTail)(x:RX)(ok:ROk s gs x)(look:Int→Option PageV)(hl:RLooks s gs look)(M:List Int)(keys:Int)(hk:0≤keys∧keys≤4611686018427387904)(it:ItemV)(rg:RangeV)(h:Hp)(iv rv:Value)(hi:ItemIn h iv it)(hr:RangeIn h rv rg)(nx:it.key.length≤140737488355328)(hs:it.size≤3840)(F:Pr)(w:World)(hle:h.le w)(hF:OwnL (ckRL c r b cap s gs hush x M keys [F]) w):
 Calls Tryz.prog 79 #[.pointer (some ⟨c,0,none⟩),iv,rv] w fun e w'=>Stays w w'∧e= .returned (.int .i64 (itemK look it rg (M,keys)).1)∧OwnL (ckRL c r b cap s gs hush x (itemK look it rg (M,keys)).2.1 (itemK look it rg (M,keys)).2.2 [F]) w':=by
 obtain⟨kv,vv,rfl,hkb,hvb⟩:=hi;obtain⟨lo,hi,rfl,hlo,hhi⟩:=id hr;obtain⟨ak,ck,rfl,_⟩:=bytes_rd hkb;obtain⟨av,cv,rfl,_⟩:=bytes_rd hvb;obtain⟨rl,dl,rfl,_⟩:=bytes_rd hlo;obtain⟨rh,dh,rfl,_⟩:=bytes_rd hhi
 have hs0:=(hF.alloc (.cells #[.slice ak it.key.length ck,.slice av it.value.length cv,.int .i64 it.child,.int .i64 it.size] 89)).alloc (rangeC (.slice rl rg.lo.length dl) (.slice rh rg.hi.length dh) rg.op);rw [show (w.alloc (.cells #[.slice ak it.key.length ck,.slice av it.value.length cv,.int .i64 it.child,.int .i64 it.size] 89)).heap.size=w.heap.size+1 by simp] at hs0
 have hol:Only w ((w.alloc (.cells #[.slice ak it.key.length ck,.slice av it.value.length cv,.int .i64 it.child,.int .i64 it.size] 89)).alloc (rangeC (.slice rl rg.lo.length dl) (.slice rh rg.hi.length dh) rg.op)):=((Only.refl w).alloc _).alloc _;have HH:=hQ (rhas_any h _ _ rg it.key hr hkb nx _ (hle.only hol))
 have HST:=hQ (((Stays.refl w).alloc (.cells #[.slice ak it.key.length ck,.slice av it.value.length cv,.int .i64 it.child,.int .i64 it.size] 89)).alloc (rangeC (.slice rl rg.lo.length dl) (.slice rh rg.hi.length dh) rg.op));have HS0:=hQ hs0;have HL:=hQ (And.intro ok hl);have c1:=hs0.facts;simp only [CellsAt,Nat.reduceAdd,and_true] at c1;clear hF hs0 hkb hvb hlo hhi hr nx hl ok hle hol
 cases hhas:hasR rg it.key with
 | false=>
   rw [hhas] at HH;have HV:=hQ (show itemK look it rg (M,keys)=(11,(M,keys)) from by unfold itemK;rw [if_pos hhas]);clear hhas HL;go_enter Tryz.func79,Tryz.ntmps79
   go_wp2_with fail
   refine HH.out.mono ?_;rintro e w1 ⟨rfl,ho⟩;have hs1:=HS0.out.ext ho.heap;have HST1:=hQ (HST.out.trans ho.st);clear HH HS0 HST ho c1;have HE:=hQ (hs1.to (M:=ckRL c r b cap s gs hush x M keys [F]));go_wp2;go_ret;rw [HV.out];exact⟨HST1.out,rfl,HE.out⟩
 | true=>
   rw [hhas] at HH;by_cases h32:it.size≤32
   · have HV:=hQ (show itemK look it rg (M,keys)=(0,(M,keys+1)) from by unfold itemK;rw [if_neg (by rw [hhas];simp),if_pos h32])
     clear hhas HL;go_enter Tryz.func79,Tryz.ntmps79
     go_wp2_with fail
     refine HH.out.mono ?_;rintro e w1 ⟨rfl,ho⟩;have hs1:=HS0.out.ext ho.heap;have HST1:=hQ (HST.out.trans ho.st);clear c1;have c1:=hs1.facts;simp only [CellsAt,Nat.reduceAdd,and_true] at c1;have HE:=hQ ((hs1.set c 2 (.int .i64 (keys+1))).to (M:=ckRL c r b cap s gs hush x M (keys+1) [F]));clear HH HS0 HST ho hs1;go_wp2;go_ret;rw [HV.out];exact⟨HST1.out.setCell _ _,rfl,HE.out⟩
   · have HV:=hQ (show itemK look it rg (M,keys)=((chainK look it.size.toNat it.size it.child M).1,((chainK look it.size.toNat it.size it.child M).2,keys+1)) from by unfold itemK;rw [if_neg (by rw [hhas];simp),if_neg h32])
     clear hhas;go_enter Tryz.func79,Tryz.ntmps79
     go_wp2_with fail
     refine HH.out.mono ?_;rintro e w1 ⟨rfl,ho⟩;have hs1:=HS0.out.ext ho.heap;have HST1:=hQ ((HST.out.trans ho.st).setCell ⟨c,2,none⟩ (.int .i64 (keys+1)));clear c1;have c1:=hs1.facts;simp only [CellsAt,Nat.reduceAdd,and_true] at c1;have hs2:=hs1.set c 2 (.int .i64 (keys+1));generalize w.heap.size+1=BG at*;generalize w.heap.size=BI at*
     have HS2:=hQ (hs2.to (M:=ckRL c r b cap s gs hush x M (keys+1) [Pr.pts BG (rangeC (.slice rl rg.lo.length dl) (.slice rh rg.hi.length dh) rg.op),Pr.pts BI (.cells #[.slice ak it.key.length ck,.slice av it.value.length cv,.int .i64 it.child,.int .i64 it.size] 89),F]));clear HH HS0 HST ho hs1 hs2;go_wp2;clear c1
     go_loopw [7,8] (fun lf nn wr=> ∃(lack n:Int) (M':List Int),lf= .int .i64 lack∧nn= .int .i64 n∧lack≤3840∧Stays w wr∧Hid (chainK look it.size.toNat it.size it.child M=chainK look lack.toNat lack n M')∧OwnL (ckRL c r b cap s gs hush x M' (keys+1) [Pr.pts BG (rangeC (.slice rl rg.lo.length dl) (.slice rh rg.hi.length dh) rg.op),Pr.pts BI (.cells #[.slice ak it.key.length ck,.slice av it.value.length cv,.int .i64 it.child,.int .i64 it.size] 89),F]) wr) (fun lf _ _=>(intOf lf).toNat)
     case atStart=>exact⟨it.size,it.child,M,rfl,rfl,hs,HST1.out,hQ rfl,HS2.out⟩
     case round=>
      obtain⟨lack,n,M',rfl,rfl,hlk,hst,heq,hsr⟩:=hrel;clear HST1 HS2;have HST:=hQ hst;have c1:=hsr.facts;simp only [CellsAt,Nat.reduceAdd,and_true] at c1;by_cases hz:0<lack
      · have EN:=hQ (renter_any c r b cap s gs hush x HL.out.1 look HL.out.2 M' (keys+1) n _ _ (OwnL.in3 (hsr.pull3 (A1:=RefAt r s gs hush x) (A2:=Pr.pts c (ckR r b cap s.counts.length (keys+1))) (A3:=MetA b cap s.counts.length M'))))
        have HEQ:=hQ (heq.out.trans (chainK_step hz));clear hst heq hsr;go_wp2_with fail
        refine EN.out.mono ?_;rintro e w3 ⟨st3,(⟨hen,rfl,hs3⟩ | ⟨g,hen,rfl,hs3⟩)⟩
        · have heq:=HEQ.out
          rw [hen] at heq;simp only at heq;have HQ:=hQ heq;have hs4:=hs3.flat;have HST3:=hQ (HST.out.trans st3);have HE:=hQ (hs4.to (M:=ckRL c r b cap s gs hush x M' (keys+1) [F]));clear c1 heq;have c1:=hs4.facts;simp only [CellsAt,Nat.reduceAdd,and_true] at c1;clear hs3 hs4 st3 EN HEQ hen;go_wp2;go_ret;rw [HV.out,HQ.out];exact⟨HST3.out,rfl,HE.out⟩
        · have heq:=HEQ.out
          rw [hen] at heq;simp only at heq
          have hlk2:look n=some g:=by
           unfold enterK at hen;split at hen
           · cases hen
           · exact hen
          have hs4:=hs3.flat;obtain⟨j,cp,bp,tai,tad,tci,tcd,rfl,hj,q3,z1,z2,_,d0,d1,d2,d3,d4⟩:=page_cells HL.out.1 HL.out.2 hlk2 (hs4.pull1 (A1:=RefAt r s gs hush x));have hj2:(j:Int)<(s.counts.length:Int):=by omega
          have hn2:=HL.out.1.n2;have hj3:(j:Int)≤65536:=by omega
          have HSTQ:=hQ (HST.out.trans st3);have HST3:=hQ ((HST.out.trans st3).alloc (pageC g.kind g.level (.slice tai g.items.length tci) (.slice tad g.data.length tcd) g.next));have HSQ:=hQ hs4;have HS5:=hQ (hs4.alloc (pageC g.kind g.level (.slice tai g.items.length tci) (.slice tad g.data.length tcd) g.next));clear c1;have c1:=hs4.facts;simp only [CellsAt,Nat.reduceAdd,and_true] at c1
          clear hs3 hs4 st3 EN HEQ hen hlk2;by_cases hk3:g.kind≠3
          · rw [if_pos hk3] at heq
            have HQ:=hQ heq;have HE:=hQ (HSQ.out.to (M:=ckRL c r b cap s gs hush x (((j:Int)+1) :: M') (keys+1) [F]));have hkb:(g.kind != 3)=true:=bne_iff_ne.2 hk3;clear heq hk3;go_wp2;go_ret;rw [HV.out,HQ.out];exact⟨HSTQ.out,rfl,HE.out⟩
          · rw [if_neg hk3] at heq
            have hkb:(g.kind != 3)=false:=by rw [bne_eq_false_iff_eq];omega
            clear hk3;obtain⟨m,hm⟩:∃m,min lack 480=m:=⟨_,rfl⟩;have hmb:0<m∧m≤lack∧m≤480∧(m=lack∨m=480):=by omega
            have hm2:min 480 lack=m:=by omega
            rw [hm] at heq;by_cases hd:(g.data.length:Int)=m
            · have hbd:((g.data.length:Int) != m)=false:=by rw [bne_eq_false_iff_eq];exact hd
              by_cases hx:g.next=0↔lack≤480
              · rw [if_neg (by intro h;rcases h with h | h;exact h hd;exact h hx)] at heq
                have HQ:=hQ heq;have HS6:=hQ (HS5.out.to (M:=ckRL c r b cap s gs hush x (((j:Int)+1) :: M') (keys+1) [Pr.pts BG (rangeC (.slice rl rg.lo.length dl) (.slice rh rg.hi.length dh) rg.op),Pr.pts BI (.cells #[.slice ak it.key.length ck,.slice av it.value.length cv,.int .i64 it.child,.int .i64 it.size] 89),F]))
                have hbb:(g.next == 0)=(lack-m == 0):=by
                 rw [Bool.eq_iff_iff,beq_iff_eq,beq_iff_eq,hx];omega
                clear hx hd heq HS5;go_wp2_with (refine wpList_min rfl _ _ rfl rfl 480 lack m hm2.symm rfl rfl ?_)
                go_roundw
                case rel=>exact⟨lack-m,g.next,((j:Int)+1) :: M',rfl,rfl,by omega,HST3.out,HQ,HS6.out⟩
                case measure=>simp [intOf];omega
              · rw [if_pos (.inr hx)] at heq
                have HQ:=hQ heq;have HE:=hQ (HS5.out.to (M:=ckRL c r b cap s gs hush x (((j:Int)+1) :: M') (keys+1) [F]))
                have hbb:(g.next == 0)= !(lack-m == 0):=by
                 rw [Bool.eq_iff_iff,beq_iff_eq,Bool.not_eq_true',beq_eq_false_iff_ne];omega
                clear hx hd heq;go_wp2_with (refine wpList_min rfl _ _ rfl rfl 480 lack m hm2.symm rfl rfl ?_)
                go_ret;rw [HV.out,HQ.out];exact⟨HST3.out,rfl,HE.out⟩
            · rw [if_pos (.inl hd)] at heq
              have HQ:=hQ heq;have HE:=hQ (HS5.out.to (M:=ckRL c r b cap s gs hush x (((j:Int)+1) :: M') (keys+1) [F]));have hbd:((g.data.length:Int) != m)=true:=bne_iff_ne.2 hd;clear heq hd;go_wp2_with (refine wpList_min rfl _ _ rfl rfl 480 lack m hm2.symm rfl rfl ?_)
              go_ret;rw [HV.out,HQ.out];exact⟨HST3.out,rfl,HE.out⟩
      · have h0:chainK look lack.toNat lack n M'=(0,M'):=by
         rw [show lack.toNat=0 by omega];rfl
        have HQ:=hQ (heq.out.trans h0);have HE:=hQ (hsr.to (M:=ckRL c r b cap s gs hush x M' (keys+1) [F]));clear hst heq hsr h0;go_wp2;go_ret;rw [HV.out,HQ.out];exact⟨HST.out,rfl,HE.out⟩
end Go.Proofs.YtiegeadmgpanoaaGreatDoor.Q7
