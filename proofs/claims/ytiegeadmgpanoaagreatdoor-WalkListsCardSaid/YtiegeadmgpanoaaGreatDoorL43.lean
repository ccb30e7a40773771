/- The image of the law's lives: two leaves under an index; the conditions stand as hypotheses. -/
import Derived.Test.YtiegeadmgpanoaaGreatDoorL40
set_option maxRecDepth 100000
set_option maxHeartbeats 16000000
namespace Go.Sl
open Go.RowKit
theorem fe {T b n:Nat}{xs:List Value}(hl:xs.length=n)(hm:n≤maxLen):∀h,Pr.pts b (.cells xs.toArray T (0,0)) h→Row T 1 (.slice (some ⟨b,0,none⟩) n n) n xs h:=
 fun _ hp=>⟨by rw [hl,cM],.inr ⟨b,n,[],rfl,by simpa using hl,aD _,hm,by simpa using hp⟩⟩
theorem dS.turn {L R:List Pr}{w:World}(A B:Pr)(h:∀x,A x→B x)(o:dS L w) [j9 A L R]:dS (B :: R) w:=⟨(o.ej (A1:=A)).mono h⟩
end Go.Sl
namespace Go.Proofs.YtiegeadmgpanoaaGreatDoor.D2
open ChangeShapes WideShapes ChangeAt RowKit Sl fB Go.Shelf L3 Z3 E4 X5 M8 X6
abbrev cO(c:Int):Obj:= .cells #[.int .u8 c] 5 (1,2)
abbrev jO(N:Nat):Obj:= .cells #[.slice none 0 0,.slice none 0 0,.int .i64 1,.int .i64 0,.slice (some ⟨N,0,none⟩) 1 1,.slice none 0 0,.int .i64 2,.int .i64 0] 89
abbrev nO(N:Nat)(ao bo:Option Addr)(co do':Nat):Obj:= .cells #[.int .i64 1,.int .i64 1,.int .i64 0,.slice ao 4 co,.slice none 0 0,.int .i64 0,.int .i64 2,.int .i64 1,.int .i64 0,.slice bo 5 do',.slice none 0 0,.int .i64 0,.int .i64 3,.int .i64 2,.int .i64 1,.slice (some ⟨N+1,0,none⟩) 2 2,.slice none 0 0,.int .i64 0] 91
theorem uE {N:Nat}{c:Int}{h:Hp}(ha:Pr.pts N (cO c) h):Bytes h (.slice (some ⟨N,0,none⟩) 1 1) [c]:=
 ⟨by simp,_,_,rfl,aD _,by simp [maxLen],fun _=>⟨_,_,rfl,fun i hi=>by
   have:i=0:=by simp at hi;omega
   subst this
   show h.cell _ _=_
   rw [ha]
   simp [Hp.cell]⟩⟩
theorem yF {v:Value}{xs:List (Value × Value)}{l:List en}{a b h:Hp}(hl:xs.length=l.length)(ha:fO v xs l a)(hb:big rowsOf (xs.zip l) b)(s1:a.sub h)(s2:b.sub h):h_ h v l:=
 ⟨xs,hl,(Row.jh ha).sub s1,fun k hx hy=>by
   have hm:=vO hb (xs[k],l[k]) (by
    have hz:k<(xs.zip l).length:=by simp;omega
    have:=aE hz
    rwa [dp] at this)
   exact⟨hm.1.sub s2,hm.2.sub s2⟩⟩
theorem MM {CB N:Nat}{ao bo:Option Addr}{co do':Nat}{ys zs:List (Value × Value)}(wJ:ys.length=4)(hzl:zs.length=5){h:Hp}
 (hh:(eJ [Pr.pts CB (.cells #[.int .i64 1,.int .i64 1,.int .i64 1] 3),fO (.slice ao 4 co) ys fQ,big rowsOf (ys.zip fQ),fO (.slice bo 5 do') zs fh,big rowsOf (zs.zip fh),Pr.pts N (cO 109),Pr.pts (N+1) (jO N),Pr.pts (N+1+1+1) (nO N ao bo co do')]) h):
 r_ h (.slice (some ⟨CB,0,none⟩) 3 3) [1,1,1]∧o6 h (.slice (some ⟨N+1+1+1,0,none⟩) 3 3) Au:=by
 obtain⟨a1,b1,ha1,hb1,s1,t1⟩:=fF hh;obtain⟨a2,b2,ha2,hb2,s2,t2⟩:=fF hb1;obtain⟨a3,b3,ha3,yg,s3,t3⟩:=fF hb2;obtain⟨a4,b4,ha4,zu,s4,t4⟩:=fF yg;obtain⟨a5,b5,ha5,Uj,s5,t5⟩:=fF zu;obtain⟨a6,b6,ha6,hb6,s6,t6⟩:=fF Uj;obtain⟨a7,b7,ha7,hb7,s7,t7⟩:=fF hb6;obtain⟨a8,b8,ha8,_,s8,_⟩:=fF hb7
 have tt {a b c:Hp} (h1:a.sub b) (h2:b.sub c):a.sub c:=fun k o e=>h2 k o (h1 k o e)
 have u1:=t1;have u2:=tt t2 u1;have u3:=tt t3 u2;have u4:=tt t4 u3;have u5:=tt t5 u4;have u6:=tt t6 u5;have u7:=tt t7 u6;have I1:h_ h (.slice ao 4 co) fQ:=yF wJ ha2 ha3 (tt s2 u1) (tt s3 u2);have I2:h_ h (.slice bo 5 do') fh:=yF hzl ha4 ha5 (tt s4 u3) (tt s5 u4)
 have I3:h_ h (.slice (some ⟨N+1,0,none⟩) 2 2) Rf.items:=by
  refine⟨[(.slice none 0 0,.slice none 0 0),(.slice (some ⟨N,0,none⟩) 1 1,.slice none 0 0)],rfl,(pd (xs:= [.slice none 0 0,.slice none 0 0,.int .i64 1,.int .i64 0,.slice (some ⟨N,0,none⟩) 1 1,.slice none 0 0,.int .i64 2,.int .i64 0]) ha7 rfl rfl (by simp [maxLen])).sub (tt s7 u6),fun i hx hl=> ?_⟩;have:i=0∨i=1:=by simp at hx;omega
  rcases this with rfl | rfl
  · exact⟨gj.nil _ _,gj.nil _ _⟩
  · exact⟨(uE ha6).sub (tt s6 u5),gj.nil _ _⟩
 refine⟨(pd (xs:= [.int .i64 1,.int .i64 1,.int .i64 1]) ha1 rfl rfl (by simp [maxLen])).sub s1,[(.slice ao 4 co,.slice none 0 0),(.slice bo 5 do',.slice none 0 0),(.slice (some ⟨N+1,0,none⟩) 2 2,.slice none 0 0)],rfl,(pd (xs:=_) ha8 rfl rfl (by simp [maxLen])).sub (tt s8 u7),fun i hx hl=> ?_⟩;have:i=0∨i=1∨i=2:=by simp at hx;omega
 rcases this with rfl | rfl | rfl
 · exact⟨I1,gj.nil _ _⟩
 · exact⟨I2,gj.nil _ _⟩
 · exact⟨I3,gj.nil _ _⟩
theorem J5 {α:Type}:∀ {l:List α},l.length=3→∃a b c,l= [a,b,c]
 | [a,b,c],_=>⟨a,b,c,rfl⟩
 | [],h=>by cases h
 | [_],h=>by simp at h
 | [_,_],h=>by simp at h
 | _ :: _ :: _ :: _ :: _,h=>by simp at h
theorem Eb {a:Option Addr}{c:Nat}{l:List Int}{F:Pr}{w:World}(h:Sat ((dM (.slice a l.length c) l).star F) w)(hl:l≠ []):(convert 42 9 (.slice a l.length c)).run Tryz.prog w= .ok (.string (strOfNums l)) w:=by
 have hp:0<l.length:=List.length_pos_iff.2 hl;obtain⟨_,_,e,_,hc⟩:=Row.read h;cases e;obtain⟨b,rfl,hd⟩:=hc hp;refine run_convert_bytes_arg w 42 5 Tryz.underlying42 Tryz.underlying5 b 0 l.length c l rfl (fun i hi=> ?_) 9 Tryz.underlying9;rw [Nat.zero_add,(hd i (by omega)).1,aO,ag hi,az,ag hi];rfl
theorem rW(hg:Hp)(GE:qj hg)(F:Pr)(w:World)(hF:dS [Pr.own hg,F] w):
 Calls Tryz.prog 8 #[] w fun e w'=>e= .returned (.bool true)∧dN w w'∧dS [Pr.own hg,F] w':=by
 have es:∀(u:World) (o:Obj),(u.alloc o).heap.size=u.heap.size+1:=fun u o=>by simp
 have hs0:=(((hF.alloc (iZ 2 (.slice (some ⟨w.heap.size+1,0,none⟩) 3 3) (.slice none 0 0) (.slice none 0 0))).alloc (.cells #[.int .i64 1,.int .i64 1,.int .i64 1] 3)).alloc (dV 1 0 (.slice none 0 0) (.slice none 0 0) 0)).alloc (dV 1 0 (.slice none 0 0) (.slice none 0 0) 0);simp only [es] at hs0
 have Np:=((((dN.refl w).alloc (iZ 2 (.slice (some ⟨w.heap.size+1,0,none⟩) 3 3) (.slice none 0 0) (.slice none 0 0))).alloc (.cells #[.int .i64 1,.int .i64 1,.int .i64 1] 3)).alloc (dV 1 0 (.slice none 0 0) (.slice none 0 0) 0)).alloc (dV 1 0 (.slice none 0 0) (.slice none 0 0) 0);have jC:=hQ hs0;have oI:=hQ Np;obtain⟨i0,lk,hz0,hz1,jg⟩:=info_parts tM;clear hF hs0 Np es
 go_enter Tryz.func8,Tryz.ntmps8
 go_wp2_with fail
 have hs0:=jC.af;have Np:=oI.af;clear jC oI;generalize ((((w.alloc (iZ 2 (.slice (some ⟨w.heap.size+1,0,none⟩) 3 3) (.slice none 0 0) (.slice none 0 0))).alloc (.cells #[.int .i64 1,.int .i64 1,.int .i64 1] 3)).alloc (dV 1 0 (.slice none 0 0) (.slice none 0 0) 0)).alloc (dV 1 0 (.slice none 0 0) (.slice none 0 0) 0))=w0 at*;generalize w.heap.size+1+1+1=PB at*
 generalize w.heap.size+1+1=PA at*;generalize w.heap.size+1=CB at*;generalize w.heap.size=IB at*;have jC:=hQ hs0;have oI:=hQ Np;clear hs0 Np
 go_loopw [6] (fun i wr=> ∃(k:Nat) (iv:Value) (ys:List (Value × Value)),k≤4∧ys.length=k∧i= .int .i64 k∧dN w wr∧dS [Pr.pts IB (iZ 2 (.slice (some ⟨CB,0,none⟩) 3 3) (.slice none 0 0) (.slice none 0 0)),Pr.pts CB (.cells #[.int .i64 1,.int .i64 1,.int .i64 1] 3),Pr.pts PA (dV 1 0 (iv) (.slice none 0 0) 0),Pr.pts PB (dV 1 0 (.slice none 0 0) (.slice none 0 0) 0),Row 89 4 iv k ((ys.zip (fQ.take k)).flatMap eZ),big rowsOf (ys.zip (fQ.take k)),Pr.own hg,F] wr) (fun i _=>4-(intOf i).toNat)
 case atStart=>
  refine⟨0,.slice none 0 0,[],by omega,rfl,rfl,oI.af,?_⟩;have h1:=(jC.af.emp).nothing rowsOf;rw [← Row.nil 89 4] at h1
  exact h1.to (M:= [Pr.pts IB (iZ 2 (.slice (some ⟨CB,0,none⟩) 3 3) (.slice none 0 0) (.slice none 0 0)),Pr.pts CB (.cells #[.int .i64 1,.int .i64 1,.int .i64 1] 3),Pr.pts PA (dV 1 0 (.slice none 0 0) (.slice none 0 0) 0),Pr.pts PB (dV 1 0 (.slice none 0 0) (.slice none 0 0) 0),Row 89 4 (.slice none 0 0) 0 [],big rowsOf [],Pr.own hg,F])
 case round=>
  obtain⟨k,iv,ys,hk,wJ,rfl,hst,hs⟩:=hrel;clear jC oI;obtain⟨ao,co,rfl⟩:=Row.shape (hs.ej (A1:=Row 89 4 iv k ((ys.zip (fQ.take k)).flatMap eZ)));have Yy:k=0∨k=1∨k=2∨k=3∨k=4:=by omega
  have HS:=hQ hs;have eR:=hQ hst;have yK:=hQ wJ;have c1:=hs.fx;clear hs hst wJ hk;rcases Yy with rfl | rfl | rfl | rfl | rfl
  · go_wp2_with fail
    refine fS (sz:=155) (by kernel_rfl) [0,1,2,3,4,6,7,8,9,10,11] [(5,[],[0,1,2,3,6,7,8,9,10,11],[(12,[13],[0,1,2,3,6,7,9,10]),(14,[],[0,1,2,3,6,7,9,10]),(15,[16],[0,2,3,6,7,9,10]),(17,[],[])]),(12,[],[0,1,2,3,4,6,7,9,10],[(5,[13],[0,1,2,3,6,7,9,10]),(14,[],[0,1,2,3,6,7,9,10]),(15,[16],[0,2,3,6,7,9,10]),(17,[],[])])] rfl (by kernel_rfl) (by kernel_rfl) (by kernel_rfl) ?_
    refine dY _ rfl rfl ?_;simp only [pick,pQ];iterate 11 (go_big_quiet_step (fail))
    refine wpQuiet_nil ?_;rw [show (((ByteArray.mk #[97,99,101,103])[0]'(by decide)).toNat:Int)=97 from rfl];intro sx mR;rcases aR.1 mR with rfl | mR
    · have hs1:=(HS.af.alloc (.cells #[.int .u8 97] 5)).alloc (.cells #[.int .u8 97,.int .u8 97] 5)
      rw [show (wr.alloc (.cells #[.int .u8 97] 5)).heap.size=wr.heap.size+1 by simp] at hs1;have fN:=(eR.af.alloc (.cells #[.int .u8 97] 5)).alloc (.cells #[.int .u8 97,.int .u8 97] 5);have ig:=hQ hs1;have eQ:=hQ fN;clear hs1 fN;refine dK rfl ?_;go_wp2;refine dQ ?_;refine dU ⟨?_,?_⟩
      · exact cQ
      refine dK rfl ?_;go_wp2;refine dQ ?_;refine dY _ rfl rfl ?_;simp only [pick,pQ];iterate 1 (go_big_quiet_step (fail))
      refine wpQuiet_nil ⟨?_,?_⟩
      · exact cQ
      refine dK rfl ?_;have hs1:=ig.af;have fN:=eQ.af;clear ig eQ c1;generalize (wr.alloc (.cells #[.int .u8 97] 5)).alloc (.cells #[.int .u8 97,.int .u8 97] 5)=w2 at*;generalize wr.heap.size=BN at*;have c1:=hs1.fx
      have hs2:=(hs1.alloc (.cells #[.slice (some ⟨BN,0,none⟩) 1 1,.slice (some ⟨BN+1,0,none⟩) 2 2,.int .i64 0,.int .i64 2] 89)).drew;have H1:=hQ (hs2.ej (A1:=Row 89 4 (.slice ao 0 co) 0 ((ys.zip (fQ.take 0)).flatMap eZ)));have HC:=hQ (eW w2 [.slice (some ⟨BN,0,none⟩) 1 1,.slice (some ⟨BN+1,0,none⟩) 2 2,.int .i64 0,.int .i64 2] 89 w2.heap.size rfl)
      have fa:=hQ (fN.alloc (.cells #[.slice (some ⟨BN,0,none⟩) 1 1,.slice (some ⟨BN+1,0,none⟩) 2 2,.int .i64 0,.int .i64 2] 89)).drew;clear hs1 hs2 fN;go_wp2;refine dQ ?_;refine dU ⟨?_,?_⟩
      · exact cQ
      refine dK rfl ?_;refine ff rfl _ _ _ rfl 89 i0 _ 4 64 Tryz.underlying81 lk hz0 hz1 jg rfl _ _ _ rfl H1.af ⟨w2.heap.size,0,none⟩ 1 1 _ rfl rfl HC.af (by simp [Value.oneCell']) (by simp only [maxLen];omega) (by omega) (fun v7 w7 gZ lC K0 lS=> ?_);obtain⟨a7,c7,e7,_,_⟩:=Row.read gZ;subst e7;clear c1;have gp:=dS.kS gZ;have c1:=gp.fx;have mI:=hQ gp;have iN:=hQ (fa.af.eH lC);clear gZ gp lC H1 HC fa;go_simp;refine lS _ ?_;clear lS K0;refine wpList_nil ?_;refine dQ ?_;refine dY _ rfl rfl ?_;simp only [pick,pQ];iterate 1 (go_big_quiet_step (fail))
      refine wpQuiet_nil ⟨?_,?_⟩
      · exact cQ
      refine dK rfl ?_;go_wp2;refine dQ ?_;refine dU ⟨?_,?_⟩
      · exact eM
      refine dW ?_;go_wp2;go_roundw
      case rel=>
       have h9:=mI.af.set PA 2 (.slice a7 1 c7);have h10:=(h9.turn (Pr.pts (BN) (.cells #[.int .u8 97] 5)) (dM (.slice (some ⟨BN,0,none⟩) 1 1) [97]) (fe rfl (by simp [maxLen]))).turn (Pr.pts (BN+1) (.cells #[.int .u8 97,.int .u8 97] 5)) (dM (.slice (some ⟨BN+1,0,none⟩) 2 2) [97,97]) (fe rfl (by simp [maxLen]))
       have h12:=h10.jk (dM (.slice (some ⟨BN,0,none⟩) 1 1) [97]) (dM (.slice (some ⟨BN+1,0,none⟩) 2 2) [97,97]);have qt:dS (rowsOf ((.slice (some ⟨BN,0,none⟩) 1 1,.slice (some ⟨BN+1,0,none⟩) 2 2),eG 97) :: _) _:=h12;have rk:=qt.snoc rowsOf (ys.zip (fQ.take 0)) ((.slice (some ⟨BN,0,none⟩) 1 1,.slice (some ⟨BN+1,0,none⟩) 2 2),eG 97)
       have e:(ys++ [(Value.slice (some ⟨BN,0,none⟩) 1 1,Value.slice (some ⟨BN+1,0,none⟩) 2 2)]).zip (fQ.take 1)=ys.zip (fQ.take 0)++ [((Value.slice (some ⟨BN,0,none⟩) 1 1,Value.slice (some ⟨BN+1,0,none⟩) 2 2),eG 97)]:=by
        rw [show fQ.take 1=fQ.take 0++ [eG 97] from rfl,bD (by rw [yK.af];rfl)];rfl
       refine⟨1,.slice a7 1 c7,ys++ [(.slice (some ⟨BN,0,none⟩) 1 1,.slice (some ⟨BN+1,0,none⟩) 2 2)],by omega,by rw [au,yK.af];rfl,rfl,iN.af.setCell _ _,?_⟩;rw [e,aN]
       exact rk.to (M:= [Pr.pts IB (iZ 2 (.slice (some ⟨CB,0,none⟩) 3 3) (.slice none 0 0) (.slice none 0 0)),Pr.pts CB (.cells #[.int .i64 1,.int .i64 1,.int .i64 1] 3),Pr.pts PA (dV 1 0 (.slice a7 1 c7) (.slice none 0 0) 0),Pr.pts PB (dV 1 0 (.slice none 0 0) (.slice none 0 0) 0),Row 89 4 (.slice a7 1 c7) 1 ((ys.zip (fQ.take 0)).flatMap eZ++ [.slice (some ⟨BN,0,none⟩) 1 1,.slice (some ⟨BN+1,0,none⟩) 2 2,.int .i64 0,.int .i64 2]),big rowsOf (ys.zip (fQ.take 0)++ [((.slice (some ⟨BN,0,none⟩) 1 1,.slice (some ⟨BN+1,0,none⟩) 2 2),eG 97)]),Pr.own hg,F])
      case measure=>simp [intOf]
    · cases aC.1 mR
      have hs1:=(HS.af.alloc (.cells #[.int .u8 97,.int .u8 97] 5)).alloc (.cells #[.int .u8 97] 5);rw [show (wr.alloc (.cells #[.int .u8 97,.int .u8 97] 5)).heap.size=wr.heap.size+1 by simp] at hs1;have fN:=(eR.af.alloc (.cells #[.int .u8 97,.int .u8 97] 5)).alloc (.cells #[.int .u8 97] 5);have ig:=hQ hs1;have eQ:=hQ fN;clear hs1 fN;refine dK rfl ?_;go_wp2;refine dQ ?_
      refine dU ⟨?_,?_⟩
      · exact cQ
      refine dK rfl ?_;go_wp2;refine dQ ?_;refine dY _ rfl rfl ?_;simp only [pick,pQ];iterate 1 (go_big_quiet_step (fail))
      refine wpQuiet_nil ⟨?_,?_⟩
      · exact cQ
      refine dK rfl ?_;have hs1:=ig.af;have fN:=eQ.af;clear ig eQ c1;generalize (wr.alloc (.cells #[.int .u8 97,.int .u8 97] 5)).alloc (.cells #[.int .u8 97] 5)=w2 at*;generalize wr.heap.size=BN at*;have c1:=hs1.fx
      have hs2:=(hs1.alloc (.cells #[.slice (some ⟨BN+1,0,none⟩) 1 1,.slice (some ⟨BN,0,none⟩) 2 2,.int .i64 0,.int .i64 2] 89)).drew;have H1:=hQ (hs2.ej (A1:=Row 89 4 (.slice ao 0 co) 0 ((ys.zip (fQ.take 0)).flatMap eZ)));have HC:=hQ (eW w2 [.slice (some ⟨BN+1,0,none⟩) 1 1,.slice (some ⟨BN,0,none⟩) 2 2,.int .i64 0,.int .i64 2] 89 w2.heap.size rfl)
      have fa:=hQ (fN.alloc (.cells #[.slice (some ⟨BN+1,0,none⟩) 1 1,.slice (some ⟨BN,0,none⟩) 2 2,.int .i64 0,.int .i64 2] 89)).drew;clear hs1 hs2 fN;go_wp2;refine dQ ?_;refine dU ⟨?_,?_⟩
      · exact cQ
      refine dK rfl ?_;refine ff rfl _ _ _ rfl 89 i0 _ 4 64 Tryz.underlying81 lk hz0 hz1 jg rfl _ _ _ rfl H1.af ⟨w2.heap.size,0,none⟩ 1 1 _ rfl rfl HC.af (by simp [Value.oneCell']) (by simp only [maxLen];omega) (by omega) (fun v7 w7 gZ lC K0 lS=> ?_);obtain⟨a7,c7,e7,_,_⟩:=Row.read gZ;subst e7;clear c1;have gp:=dS.kS gZ;have c1:=gp.fx;have mI:=hQ gp;have iN:=hQ (fa.af.eH lC);clear gZ gp lC H1 HC fa;go_simp;refine lS _ ?_;clear lS K0;refine wpList_nil ?_;refine dQ ?_;refine dY _ rfl rfl ?_;simp only [pick,pQ];iterate 1 (go_big_quiet_step (fail))
      refine wpQuiet_nil ⟨?_,?_⟩
      · exact cQ
      refine dK rfl ?_;go_wp2;refine dQ ?_;refine dU ⟨?_,?_⟩
      · exact eM
      refine dW ?_;go_wp2;go_roundw
      case rel=>
       have h9:=mI.af.set PA 2 (.slice a7 1 c7);have h10:=(h9.turn (Pr.pts (BN+1) (.cells #[.int .u8 97] 5)) (dM (.slice (some ⟨BN+1,0,none⟩) 1 1) [97]) (fe rfl (by simp [maxLen]))).turn (Pr.pts (BN) (.cells #[.int .u8 97,.int .u8 97] 5)) (dM (.slice (some ⟨BN,0,none⟩) 2 2) [97,97]) (fe rfl (by simp [maxLen]))
       have h12:=h10.jk (dM (.slice (some ⟨BN+1,0,none⟩) 1 1) [97]) (dM (.slice (some ⟨BN,0,none⟩) 2 2) [97,97]);have qt:dS (rowsOf ((.slice (some ⟨BN+1,0,none⟩) 1 1,.slice (some ⟨BN,0,none⟩) 2 2),eG 97) :: _) _:=h12;have rk:=qt.snoc rowsOf (ys.zip (fQ.take 0)) ((.slice (some ⟨BN+1,0,none⟩) 1 1,.slice (some ⟨BN,0,none⟩) 2 2),eG 97)
       have e:(ys++ [(Value.slice (some ⟨BN+1,0,none⟩) 1 1,Value.slice (some ⟨BN,0,none⟩) 2 2)]).zip (fQ.take 1)=ys.zip (fQ.take 0)++ [((Value.slice (some ⟨BN+1,0,none⟩) 1 1,Value.slice (some ⟨BN,0,none⟩) 2 2),eG 97)]:=by
        rw [show fQ.take 1=fQ.take 0++ [eG 97] from rfl,bD (by rw [yK.af];rfl)];rfl
       refine⟨1,.slice a7 1 c7,ys++ [(.slice (some ⟨BN+1,0,none⟩) 1 1,.slice (some ⟨BN,0,none⟩) 2 2)],by omega,by rw [au,yK.af];rfl,rfl,iN.af.setCell _ _,?_⟩;rw [e,aN]
       exact rk.to (M:= [Pr.pts IB (iZ 2 (.slice (some ⟨CB,0,none⟩) 3 3) (.slice none 0 0) (.slice none 0 0)),Pr.pts CB (.cells #[.int .i64 1,.int .i64 1,.int .i64 1] 3),Pr.pts PA (dV 1 0 (.slice a7 1 c7) (.slice none 0 0) 0),Pr.pts PB (dV 1 0 (.slice none 0 0) (.slice none 0 0) 0),Row 89 4 (.slice a7 1 c7) 1 ((ys.zip (fQ.take 0)).flatMap eZ++ [.slice (some ⟨BN+1,0,none⟩) 1 1,.slice (some ⟨BN,0,none⟩) 2 2,.int .i64 0,.int .i64 2]),big rowsOf (ys.zip (fQ.take 0)++ [((.slice (some ⟨BN+1,0,none⟩) 1 1,.slice (some ⟨BN,0,none⟩) 2 2),eG 97)]),Pr.own hg,F])
      case measure=>simp [intOf]
  · go_wp2_with fail
    refine fS (sz:=155) (by kernel_rfl) [0,1,2,3,4,6,7,8,9,10,11] [(5,[],[0,1,2,3,6,7,8,9,10,11],[(12,[13],[0,1,2,3,6,7,9,10]),(14,[],[0,1,2,3,6,7,9,10]),(15,[16],[0,2,3,6,7,9,10]),(17,[],[])]),(12,[],[0,1,2,3,4,6,7,9,10],[(5,[13],[0,1,2,3,6,7,9,10]),(14,[],[0,1,2,3,6,7,9,10]),(15,[16],[0,2,3,6,7,9,10]),(17,[],[])])] rfl (by kernel_rfl) (by kernel_rfl) (by kernel_rfl) ?_
    refine dY _ rfl rfl ?_;simp only [pick,pQ];iterate 11 (go_big_quiet_step (fail))
    refine wpQuiet_nil ?_;rw [show (((ByteArray.mk #[97,99,101,103])[1]'(by decide)).toNat:Int)=99 from rfl];intro sx mR;rcases aR.1 mR with rfl | mR
    · have hs1:=(HS.af.alloc (.cells #[.int .u8 99] 5)).alloc (.cells #[.int .u8 99,.int .u8 99] 5)
      rw [show (wr.alloc (.cells #[.int .u8 99] 5)).heap.size=wr.heap.size+1 by simp] at hs1;have fN:=(eR.af.alloc (.cells #[.int .u8 99] 5)).alloc (.cells #[.int .u8 99,.int .u8 99] 5);have ig:=hQ hs1;have eQ:=hQ fN;clear hs1 fN;refine dK rfl ?_;go_wp2;refine dQ ?_;refine dU ⟨?_,?_⟩
      · exact cQ
      refine dK rfl ?_;go_wp2;refine dQ ?_;refine dY _ rfl rfl ?_;simp only [pick,pQ];iterate 1 (go_big_quiet_step (fail))
      refine wpQuiet_nil ⟨?_,?_⟩
      · exact cQ
      refine dK rfl ?_;have hs1:=ig.af;have fN:=eQ.af;clear ig eQ c1;generalize (wr.alloc (.cells #[.int .u8 99] 5)).alloc (.cells #[.int .u8 99,.int .u8 99] 5)=w2 at*;generalize wr.heap.size=BN at*;have c1:=hs1.fx
      have hs2:=(hs1.alloc (.cells #[.slice (some ⟨BN,0,none⟩) 1 1,.slice (some ⟨BN+1,0,none⟩) 2 2,.int .i64 0,.int .i64 2] 89)).drew;have H1:=hQ (hs2.ej (A1:=Row 89 4 (.slice ao 1 co) 1 ((ys.zip (fQ.take 1)).flatMap eZ)));have HC:=hQ (eW w2 [.slice (some ⟨BN,0,none⟩) 1 1,.slice (some ⟨BN+1,0,none⟩) 2 2,.int .i64 0,.int .i64 2] 89 w2.heap.size rfl)
      have fa:=hQ (fN.alloc (.cells #[.slice (some ⟨BN,0,none⟩) 1 1,.slice (some ⟨BN+1,0,none⟩) 2 2,.int .i64 0,.int .i64 2] 89)).drew;clear hs1 hs2 fN;go_wp2;refine dQ ?_;refine dU ⟨?_,?_⟩
      · exact cQ
      refine dK rfl ?_;refine ff rfl _ _ _ rfl 89 i0 _ 4 64 Tryz.underlying81 lk hz0 hz1 jg rfl _ _ _ rfl H1.af ⟨w2.heap.size,0,none⟩ 1 1 _ rfl rfl HC.af (by simp [Value.oneCell']) (by simp only [maxLen];omega) (by omega) (fun v7 w7 gZ lC K0 lS=> ?_);obtain⟨a7,c7,e7,_,_⟩:=Row.read gZ;subst e7;clear c1;have gp:=dS.kS gZ;have c1:=gp.fx;have mI:=hQ gp;have iN:=hQ (fa.af.eH lC);clear gZ gp lC H1 HC fa;go_simp;refine lS _ ?_;clear lS K0;refine wpList_nil ?_;refine dQ ?_;refine dY _ rfl rfl ?_;simp only [pick,pQ];iterate 1 (go_big_quiet_step (fail))
      refine wpQuiet_nil ⟨?_,?_⟩
      · exact cQ
      refine dK rfl ?_;go_wp2;refine dQ ?_;refine dU ⟨?_,?_⟩
      · exact eM
      refine dW ?_;go_wp2;go_roundw
      case rel=>
       have h9:=mI.af.set PA 2 (.slice a7 2 c7);have h10:=(h9.turn (Pr.pts (BN) (.cells #[.int .u8 99] 5)) (dM (.slice (some ⟨BN,0,none⟩) 1 1) [99]) (fe rfl (by simp [maxLen]))).turn (Pr.pts (BN+1) (.cells #[.int .u8 99,.int .u8 99] 5)) (dM (.slice (some ⟨BN+1,0,none⟩) 2 2) [99,99]) (fe rfl (by simp [maxLen]))
       have h12:=h10.jk (dM (.slice (some ⟨BN,0,none⟩) 1 1) [99]) (dM (.slice (some ⟨BN+1,0,none⟩) 2 2) [99,99]);have qt:dS (rowsOf ((.slice (some ⟨BN,0,none⟩) 1 1,.slice (some ⟨BN+1,0,none⟩) 2 2),eG 99) :: _) _:=h12;have rk:=qt.snoc rowsOf (ys.zip (fQ.take 1)) ((.slice (some ⟨BN,0,none⟩) 1 1,.slice (some ⟨BN+1,0,none⟩) 2 2),eG 99)
       have e:(ys++ [(Value.slice (some ⟨BN,0,none⟩) 1 1,Value.slice (some ⟨BN+1,0,none⟩) 2 2)]).zip (fQ.take 2)=ys.zip (fQ.take 1)++ [((Value.slice (some ⟨BN,0,none⟩) 1 1,Value.slice (some ⟨BN+1,0,none⟩) 2 2),eG 99)]:=by
        rw [show fQ.take 2=fQ.take 1++ [eG 99] from rfl,bD (by rw [yK.af];rfl)];rfl
       refine⟨2,.slice a7 2 c7,ys++ [(.slice (some ⟨BN,0,none⟩) 1 1,.slice (some ⟨BN+1,0,none⟩) 2 2)],by omega,by rw [au,yK.af];rfl,rfl,iN.af.setCell _ _,?_⟩;rw [e,aN]
       exact rk.to (M:= [Pr.pts IB (iZ 2 (.slice (some ⟨CB,0,none⟩) 3 3) (.slice none 0 0) (.slice none 0 0)),Pr.pts CB (.cells #[.int .i64 1,.int .i64 1,.int .i64 1] 3),Pr.pts PA (dV 1 0 (.slice a7 2 c7) (.slice none 0 0) 0),Pr.pts PB (dV 1 0 (.slice none 0 0) (.slice none 0 0) 0),Row 89 4 (.slice a7 2 c7) 2 ((ys.zip (fQ.take 1)).flatMap eZ++ [.slice (some ⟨BN,0,none⟩) 1 1,.slice (some ⟨BN+1,0,none⟩) 2 2,.int .i64 0,.int .i64 2]),big rowsOf (ys.zip (fQ.take 1)++ [((.slice (some ⟨BN,0,none⟩) 1 1,.slice (some ⟨BN+1,0,none⟩) 2 2),eG 99)]),Pr.own hg,F])
      case measure=>simp [intOf]
    · cases aC.1 mR
      have hs1:=(HS.af.alloc (.cells #[.int .u8 99,.int .u8 99] 5)).alloc (.cells #[.int .u8 99] 5);rw [show (wr.alloc (.cells #[.int .u8 99,.int .u8 99] 5)).heap.size=wr.heap.size+1 by simp] at hs1;have fN:=(eR.af.alloc (.cells #[.int .u8 99,.int .u8 99] 5)).alloc (.cells #[.int .u8 99] 5);have ig:=hQ hs1;have eQ:=hQ fN;clear hs1 fN;refine dK rfl ?_;go_wp2;refine dQ ?_
      refine dU ⟨?_,?_⟩
      · exact cQ
      refine dK rfl ?_;go_wp2;refine dQ ?_;refine dY _ rfl rfl ?_;simp only [pick,pQ];iterate 1 (go_big_quiet_step (fail))
      refine wpQuiet_nil ⟨?_,?_⟩
      · exact cQ
      refine dK rfl ?_;have hs1:=ig.af;have fN:=eQ.af;clear ig eQ c1;generalize (wr.alloc (.cells #[.int .u8 99,.int .u8 99] 5)).alloc (.cells #[.int .u8 99] 5)=w2 at*;generalize wr.heap.size=BN at*;have c1:=hs1.fx
      have hs2:=(hs1.alloc (.cells #[.slice (some ⟨BN+1,0,none⟩) 1 1,.slice (some ⟨BN,0,none⟩) 2 2,.int .i64 0,.int .i64 2] 89)).drew;have H1:=hQ (hs2.ej (A1:=Row 89 4 (.slice ao 1 co) 1 ((ys.zip (fQ.take 1)).flatMap eZ)));have HC:=hQ (eW w2 [.slice (some ⟨BN+1,0,none⟩) 1 1,.slice (some ⟨BN,0,none⟩) 2 2,.int .i64 0,.int .i64 2] 89 w2.heap.size rfl)
      have fa:=hQ (fN.alloc (.cells #[.slice (some ⟨BN+1,0,none⟩) 1 1,.slice (some ⟨BN,0,none⟩) 2 2,.int .i64 0,.int .i64 2] 89)).drew;clear hs1 hs2 fN;go_wp2;refine dQ ?_;refine dU ⟨?_,?_⟩
      · exact cQ
      refine dK rfl ?_;refine ff rfl _ _ _ rfl 89 i0 _ 4 64 Tryz.underlying81 lk hz0 hz1 jg rfl _ _ _ rfl H1.af ⟨w2.heap.size,0,none⟩ 1 1 _ rfl rfl HC.af (by simp [Value.oneCell']) (by simp only [maxLen];omega) (by omega) (fun v7 w7 gZ lC K0 lS=> ?_);obtain⟨a7,c7,e7,_,_⟩:=Row.read gZ;subst e7;clear c1;have gp:=dS.kS gZ;have c1:=gp.fx;have mI:=hQ gp;have iN:=hQ (fa.af.eH lC);clear gZ gp lC H1 HC fa;go_simp;refine lS _ ?_;clear lS K0;refine wpList_nil ?_;refine dQ ?_;refine dY _ rfl rfl ?_;simp only [pick,pQ];iterate 1 (go_big_quiet_step (fail))
      refine wpQuiet_nil ⟨?_,?_⟩
      · exact cQ
      refine dK rfl ?_;go_wp2;refine dQ ?_;refine dU ⟨?_,?_⟩
      · exact eM
      refine dW ?_;go_wp2;go_roundw
      case rel=>
       have h9:=mI.af.set PA 2 (.slice a7 2 c7);have h10:=(h9.turn (Pr.pts (BN+1) (.cells #[.int .u8 99] 5)) (dM (.slice (some ⟨BN+1,0,none⟩) 1 1) [99]) (fe rfl (by simp [maxLen]))).turn (Pr.pts (BN) (.cells #[.int .u8 99,.int .u8 99] 5)) (dM (.slice (some ⟨BN,0,none⟩) 2 2) [99,99]) (fe rfl (by simp [maxLen]))
       have h12:=h10.jk (dM (.slice (some ⟨BN+1,0,none⟩) 1 1) [99]) (dM (.slice (some ⟨BN,0,none⟩) 2 2) [99,99]);have qt:dS (rowsOf ((.slice (some ⟨BN+1,0,none⟩) 1 1,.slice (some ⟨BN,0,none⟩) 2 2),eG 99) :: _) _:=h12;have rk:=qt.snoc rowsOf (ys.zip (fQ.take 1)) ((.slice (some ⟨BN+1,0,none⟩) 1 1,.slice (some ⟨BN,0,none⟩) 2 2),eG 99)
       have e:(ys++ [(Value.slice (some ⟨BN+1,0,none⟩) 1 1,Value.slice (some ⟨BN,0,none⟩) 2 2)]).zip (fQ.take 2)=ys.zip (fQ.take 1)++ [((Value.slice (some ⟨BN+1,0,none⟩) 1 1,Value.slice (some ⟨BN,0,none⟩) 2 2),eG 99)]:=by
        rw [show fQ.take 2=fQ.take 1++ [eG 99] from rfl,bD (by rw [yK.af];rfl)];rfl
       refine⟨2,.slice a7 2 c7,ys++ [(.slice (some ⟨BN+1,0,none⟩) 1 1,.slice (some ⟨BN,0,none⟩) 2 2)],by omega,by rw [au,yK.af];rfl,rfl,iN.af.setCell _ _,?_⟩;rw [e,aN]
       exact rk.to (M:= [Pr.pts IB (iZ 2 (.slice (some ⟨CB,0,none⟩) 3 3) (.slice none 0 0) (.slice none 0 0)),Pr.pts CB (.cells #[.int .i64 1,.int .i64 1,.int .i64 1] 3),Pr.pts PA (dV 1 0 (.slice a7 2 c7) (.slice none 0 0) 0),Pr.pts PB (dV 1 0 (.slice none 0 0) (.slice none 0 0) 0),Row 89 4 (.slice a7 2 c7) 2 ((ys.zip (fQ.take 1)).flatMap eZ++ [.slice (some ⟨BN+1,0,none⟩) 1 1,.slice (some ⟨BN,0,none⟩) 2 2,.int .i64 0,.int .i64 2]),big rowsOf (ys.zip (fQ.take 1)++ [((.slice (some ⟨BN+1,0,none⟩) 1 1,.slice (some ⟨BN,0,none⟩) 2 2),eG 99)]),Pr.own hg,F])
      case measure=>simp [intOf]
  · go_wp2_with fail
    refine fS (sz:=155) (by kernel_rfl) [0,1,2,3,4,6,7,8,9,10,11] [(5,[],[0,1,2,3,6,7,8,9,10,11],[(12,[13],[0,1,2,3,6,7,9,10]),(14,[],[0,1,2,3,6,7,9,10]),(15,[16],[0,2,3,6,7,9,10]),(17,[],[])]),(12,[],[0,1,2,3,4,6,7,9,10],[(5,[13],[0,1,2,3,6,7,9,10]),(14,[],[0,1,2,3,6,7,9,10]),(15,[16],[0,2,3,6,7,9,10]),(17,[],[])])] rfl (by kernel_rfl) (by kernel_rfl) (by kernel_rfl) ?_
    refine dY _ rfl rfl ?_;simp only [pick,pQ];iterate 11 (go_big_quiet_step (fail))
    refine wpQuiet_nil ?_;rw [show (((ByteArray.mk #[97,99,101,103])[2]'(by decide)).toNat:Int)=101 from rfl];intro sx mR;rcases aR.1 mR with rfl | mR
    · have hs1:=(HS.af.alloc (.cells #[.int .u8 101] 5)).alloc (.cells #[.int .u8 101,.int .u8 101] 5)
      rw [show (wr.alloc (.cells #[.int .u8 101] 5)).heap.size=wr.heap.size+1 by simp] at hs1;have fN:=(eR.af.alloc (.cells #[.int .u8 101] 5)).alloc (.cells #[.int .u8 101,.int .u8 101] 5);have ig:=hQ hs1;have eQ:=hQ fN;clear hs1 fN;refine dK rfl ?_;go_wp2;refine dQ ?_;refine dU ⟨?_,?_⟩
      · exact cQ
      refine dK rfl ?_;go_wp2;refine dQ ?_;refine dY _ rfl rfl ?_;simp only [pick,pQ];iterate 1 (go_big_quiet_step (fail))
      refine wpQuiet_nil ⟨?_,?_⟩
      · exact cQ
      refine dK rfl ?_;have hs1:=ig.af;have fN:=eQ.af;clear ig eQ c1;generalize (wr.alloc (.cells #[.int .u8 101] 5)).alloc (.cells #[.int .u8 101,.int .u8 101] 5)=w2 at*;generalize wr.heap.size=BN at*;have c1:=hs1.fx
      have hs2:=(hs1.alloc (.cells #[.slice (some ⟨BN,0,none⟩) 1 1,.slice (some ⟨BN+1,0,none⟩) 2 2,.int .i64 0,.int .i64 2] 89)).drew;have H1:=hQ (hs2.ej (A1:=Row 89 4 (.slice ao 2 co) 2 ((ys.zip (fQ.take 2)).flatMap eZ)));have HC:=hQ (eW w2 [.slice (some ⟨BN,0,none⟩) 1 1,.slice (some ⟨BN+1,0,none⟩) 2 2,.int .i64 0,.int .i64 2] 89 w2.heap.size rfl)
      have fa:=hQ (fN.alloc (.cells #[.slice (some ⟨BN,0,none⟩) 1 1,.slice (some ⟨BN+1,0,none⟩) 2 2,.int .i64 0,.int .i64 2] 89)).drew;clear hs1 hs2 fN;go_wp2;refine dQ ?_;refine dU ⟨?_,?_⟩
      · exact cQ
      refine dK rfl ?_;refine ff rfl _ _ _ rfl 89 i0 _ 4 64 Tryz.underlying81 lk hz0 hz1 jg rfl _ _ _ rfl H1.af ⟨w2.heap.size,0,none⟩ 1 1 _ rfl rfl HC.af (by simp [Value.oneCell']) (by simp only [maxLen];omega) (by omega) (fun v7 w7 gZ lC K0 lS=> ?_);obtain⟨a7,c7,e7,_,_⟩:=Row.read gZ;subst e7;clear c1;have gp:=dS.kS gZ;have c1:=gp.fx;have mI:=hQ gp;have iN:=hQ (fa.af.eH lC);clear gZ gp lC H1 HC fa;go_simp;refine lS _ ?_;clear lS K0;refine wpList_nil ?_;refine dQ ?_;refine dY _ rfl rfl ?_;simp only [pick,pQ];iterate 1 (go_big_quiet_step (fail))
      refine wpQuiet_nil ⟨?_,?_⟩
      · exact cQ
      refine dK rfl ?_;go_wp2;refine dQ ?_;refine dU ⟨?_,?_⟩
      · exact eM
      refine dW ?_;go_wp2;go_roundw
      case rel=>
       have h9:=mI.af.set PA 2 (.slice a7 3 c7);have h10:=(h9.turn (Pr.pts (BN) (.cells #[.int .u8 101] 5)) (dM (.slice (some ⟨BN,0,none⟩) 1 1) [101]) (fe rfl (by simp [maxLen]))).turn (Pr.pts (BN+1) (.cells #[.int .u8 101,.int .u8 101] 5)) (dM (.slice (some ⟨BN+1,0,none⟩) 2 2) [101,101]) (fe rfl (by simp [maxLen]))
       have h12:=h10.jk (dM (.slice (some ⟨BN,0,none⟩) 1 1) [101]) (dM (.slice (some ⟨BN+1,0,none⟩) 2 2) [101,101]);have qt:dS (rowsOf ((.slice (some ⟨BN,0,none⟩) 1 1,.slice (some ⟨BN+1,0,none⟩) 2 2),eG 101) :: _) _:=h12;have rk:=qt.snoc rowsOf (ys.zip (fQ.take 2)) ((.slice (some ⟨BN,0,none⟩) 1 1,.slice (some ⟨BN+1,0,none⟩) 2 2),eG 101)
       have e:(ys++ [(Value.slice (some ⟨BN,0,none⟩) 1 1,Value.slice (some ⟨BN+1,0,none⟩) 2 2)]).zip (fQ.take 3)=ys.zip (fQ.take 2)++ [((Value.slice (some ⟨BN,0,none⟩) 1 1,Value.slice (some ⟨BN+1,0,none⟩) 2 2),eG 101)]:=by
        rw [show fQ.take 3=fQ.take 2++ [eG 101] from rfl,bD (by rw [yK.af];rfl)];rfl
       refine⟨3,.slice a7 3 c7,ys++ [(.slice (some ⟨BN,0,none⟩) 1 1,.slice (some ⟨BN+1,0,none⟩) 2 2)],by omega,by rw [au,yK.af];rfl,rfl,iN.af.setCell _ _,?_⟩;rw [e,aN]
       exact rk.to (M:= [Pr.pts IB (iZ 2 (.slice (some ⟨CB,0,none⟩) 3 3) (.slice none 0 0) (.slice none 0 0)),Pr.pts CB (.cells #[.int .i64 1,.int .i64 1,.int .i64 1] 3),Pr.pts PA (dV 1 0 (.slice a7 3 c7) (.slice none 0 0) 0),Pr.pts PB (dV 1 0 (.slice none 0 0) (.slice none 0 0) 0),Row 89 4 (.slice a7 3 c7) 3 ((ys.zip (fQ.take 2)).flatMap eZ++ [.slice (some ⟨BN,0,none⟩) 1 1,.slice (some ⟨BN+1,0,none⟩) 2 2,.int .i64 0,.int .i64 2]),big rowsOf (ys.zip (fQ.take 2)++ [((.slice (some ⟨BN,0,none⟩) 1 1,.slice (some ⟨BN+1,0,none⟩) 2 2),eG 101)]),Pr.own hg,F])
      case measure=>simp [intOf]
    · cases aC.1 mR
      have hs1:=(HS.af.alloc (.cells #[.int .u8 101,.int .u8 101] 5)).alloc (.cells #[.int .u8 101] 5);rw [show (wr.alloc (.cells #[.int .u8 101,.int .u8 101] 5)).heap.size=wr.heap.size+1 by simp] at hs1;have fN:=(eR.af.alloc (.cells #[.int .u8 101,.int .u8 101] 5)).alloc (.cells #[.int .u8 101] 5);have ig:=hQ hs1;have eQ:=hQ fN;clear hs1 fN;refine dK rfl ?_;go_wp2
      refine dQ ?_;refine dU ⟨?_,?_⟩
      · exact cQ
      refine dK rfl ?_;go_wp2;refine dQ ?_;refine dY _ rfl rfl ?_;simp only [pick,pQ];iterate 1 (go_big_quiet_step (fail))
      refine wpQuiet_nil ⟨?_,?_⟩
      · exact cQ
      refine dK rfl ?_;have hs1:=ig.af;have fN:=eQ.af;clear ig eQ c1;generalize (wr.alloc (.cells #[.int .u8 101,.int .u8 101] 5)).alloc (.cells #[.int .u8 101] 5)=w2 at*;generalize wr.heap.size=BN at*;have c1:=hs1.fx
      have hs2:=(hs1.alloc (.cells #[.slice (some ⟨BN+1,0,none⟩) 1 1,.slice (some ⟨BN,0,none⟩) 2 2,.int .i64 0,.int .i64 2] 89)).drew;have H1:=hQ (hs2.ej (A1:=Row 89 4 (.slice ao 2 co) 2 ((ys.zip (fQ.take 2)).flatMap eZ)));have HC:=hQ (eW w2 [.slice (some ⟨BN+1,0,none⟩) 1 1,.slice (some ⟨BN,0,none⟩) 2 2,.int .i64 0,.int .i64 2] 89 w2.heap.size rfl)
      have fa:=hQ (fN.alloc (.cells #[.slice (some ⟨BN+1,0,none⟩) 1 1,.slice (some ⟨BN,0,none⟩) 2 2,.int .i64 0,.int .i64 2] 89)).drew;clear hs1 hs2 fN;go_wp2;refine dQ ?_;refine dU ⟨?_,?_⟩
      · exact cQ
      refine dK rfl ?_;refine ff rfl _ _ _ rfl 89 i0 _ 4 64 Tryz.underlying81 lk hz0 hz1 jg rfl _ _ _ rfl H1.af ⟨w2.heap.size,0,none⟩ 1 1 _ rfl rfl HC.af (by simp [Value.oneCell']) (by simp only [maxLen];omega) (by omega) (fun v7 w7 gZ lC K0 lS=> ?_);obtain⟨a7,c7,e7,_,_⟩:=Row.read gZ;subst e7;clear c1;have gp:=dS.kS gZ;have c1:=gp.fx;have mI:=hQ gp;have iN:=hQ (fa.af.eH lC);clear gZ gp lC H1 HC fa;go_simp;refine lS _ ?_;clear lS K0;refine wpList_nil ?_;refine dQ ?_;refine dY _ rfl rfl ?_;simp only [pick,pQ];iterate 1 (go_big_quiet_step (fail))
      refine wpQuiet_nil ⟨?_,?_⟩
      · exact cQ
      refine dK rfl ?_;go_wp2;refine dQ ?_;refine dU ⟨?_,?_⟩
      · exact eM
      refine dW ?_;go_wp2;go_roundw
      case rel=>
       have h9:=mI.af.set PA 2 (.slice a7 3 c7);have h10:=(h9.turn (Pr.pts (BN+1) (.cells #[.int .u8 101] 5)) (dM (.slice (some ⟨BN+1,0,none⟩) 1 1) [101]) (fe rfl (by simp [maxLen]))).turn (Pr.pts (BN) (.cells #[.int .u8 101,.int .u8 101] 5)) (dM (.slice (some ⟨BN,0,none⟩) 2 2) [101,101]) (fe rfl (by simp [maxLen]))
       have h12:=h10.jk (dM (.slice (some ⟨BN+1,0,none⟩) 1 1) [101]) (dM (.slice (some ⟨BN,0,none⟩) 2 2) [101,101]);have qt:dS (rowsOf ((.slice (some ⟨BN+1,0,none⟩) 1 1,.slice (some ⟨BN,0,none⟩) 2 2),eG 101) :: _) _:=h12;have rk:=qt.snoc rowsOf (ys.zip (fQ.take 2)) ((.slice (some ⟨BN+1,0,none⟩) 1 1,.slice (some ⟨BN,0,none⟩) 2 2),eG 101)
       have e:(ys++ [(Value.slice (some ⟨BN+1,0,none⟩) 1 1,Value.slice (some ⟨BN,0,none⟩) 2 2)]).zip (fQ.take 3)=ys.zip (fQ.take 2)++ [((Value.slice (some ⟨BN+1,0,none⟩) 1 1,Value.slice (some ⟨BN,0,none⟩) 2 2),eG 101)]:=by
        rw [show fQ.take 3=fQ.take 2++ [eG 101] from rfl,bD (by rw [yK.af];rfl)];rfl
       refine⟨3,.slice a7 3 c7,ys++ [(.slice (some ⟨BN+1,0,none⟩) 1 1,.slice (some ⟨BN,0,none⟩) 2 2)],by omega,by rw [au,yK.af];rfl,rfl,iN.af.setCell _ _,?_⟩;rw [e,aN]
       exact rk.to (M:= [Pr.pts IB (iZ 2 (.slice (some ⟨CB,0,none⟩) 3 3) (.slice none 0 0) (.slice none 0 0)),Pr.pts CB (.cells #[.int .i64 1,.int .i64 1,.int .i64 1] 3),Pr.pts PA (dV 1 0 (.slice a7 3 c7) (.slice none 0 0) 0),Pr.pts PB (dV 1 0 (.slice none 0 0) (.slice none 0 0) 0),Row 89 4 (.slice a7 3 c7) 3 ((ys.zip (fQ.take 2)).flatMap eZ++ [.slice (some ⟨BN+1,0,none⟩) 1 1,.slice (some ⟨BN,0,none⟩) 2 2,.int .i64 0,.int .i64 2]),big rowsOf (ys.zip (fQ.take 2)++ [((.slice (some ⟨BN+1,0,none⟩) 1 1,.slice (some ⟨BN,0,none⟩) 2 2),eG 101)]),Pr.own hg,F])
      case measure=>simp [intOf]
  · go_wp2_with fail
    refine fS (sz:=155) (by kernel_rfl) [0,1,2,3,4,6,7,8,9,10,11] [(5,[],[0,1,2,3,6,7,8,9,10,11],[(12,[13],[0,1,2,3,6,7,9,10]),(14,[],[0,1,2,3,6,7,9,10]),(15,[16],[0,2,3,6,7,9,10]),(17,[],[])]),(12,[],[0,1,2,3,4,6,7,9,10],[(5,[13],[0,1,2,3,6,7,9,10]),(14,[],[0,1,2,3,6,7,9,10]),(15,[16],[0,2,3,6,7,9,10]),(17,[],[])])] rfl (by kernel_rfl) (by kernel_rfl) (by kernel_rfl) ?_
    refine dY _ rfl rfl ?_;simp only [pick,pQ];iterate 11 (go_big_quiet_step (fail))
    refine wpQuiet_nil ?_;rw [show (((ByteArray.mk #[97,99,101,103])[3]'(by decide)).toNat:Int)=103 from rfl];intro sx mR;rcases aR.1 mR with rfl | mR
    · have hs1:=(HS.af.alloc (.cells #[.int .u8 103] 5)).alloc (.cells #[.int .u8 103,.int .u8 103] 5)
      rw [show (wr.alloc (.cells #[.int .u8 103] 5)).heap.size=wr.heap.size+1 by simp] at hs1;have fN:=(eR.af.alloc (.cells #[.int .u8 103] 5)).alloc (.cells #[.int .u8 103,.int .u8 103] 5);have ig:=hQ hs1;have eQ:=hQ fN;clear hs1 fN;refine dK rfl ?_;go_wp2;refine dQ ?_;refine dU ⟨?_,?_⟩
      · exact cQ
      refine dK rfl ?_;go_wp2;refine dQ ?_;refine dY _ rfl rfl ?_;simp only [pick,pQ];iterate 1 (go_big_quiet_step (fail))
      refine wpQuiet_nil ⟨?_,?_⟩
      · exact cQ
      refine dK rfl ?_;have hs1:=ig.af;have fN:=eQ.af;clear ig eQ c1;generalize (wr.alloc (.cells #[.int .u8 103] 5)).alloc (.cells #[.int .u8 103,.int .u8 103] 5)=w2 at*;generalize wr.heap.size=BN at*;have c1:=hs1.fx
      have hs2:=(hs1.alloc (.cells #[.slice (some ⟨BN,0,none⟩) 1 1,.slice (some ⟨BN+1,0,none⟩) 2 2,.int .i64 0,.int .i64 2] 89)).drew;have H1:=hQ (hs2.ej (A1:=Row 89 4 (.slice ao 3 co) 3 ((ys.zip (fQ.take 3)).flatMap eZ)));have HC:=hQ (eW w2 [.slice (some ⟨BN,0,none⟩) 1 1,.slice (some ⟨BN+1,0,none⟩) 2 2,.int .i64 0,.int .i64 2] 89 w2.heap.size rfl)
      have fa:=hQ (fN.alloc (.cells #[.slice (some ⟨BN,0,none⟩) 1 1,.slice (some ⟨BN+1,0,none⟩) 2 2,.int .i64 0,.int .i64 2] 89)).drew;clear hs1 hs2 fN;go_wp2;refine dQ ?_;refine dU ⟨?_,?_⟩
      · exact cQ
      refine dK rfl ?_;refine ff rfl _ _ _ rfl 89 i0 _ 4 64 Tryz.underlying81 lk hz0 hz1 jg rfl _ _ _ rfl H1.af ⟨w2.heap.size,0,none⟩ 1 1 _ rfl rfl HC.af (by simp [Value.oneCell']) (by simp only [maxLen];omega) (by omega) (fun v7 w7 gZ lC K0 lS=> ?_);obtain⟨a7,c7,e7,_,_⟩:=Row.read gZ;subst e7;clear c1;have gp:=dS.kS gZ;have c1:=gp.fx;have mI:=hQ gp;have iN:=hQ (fa.af.eH lC);clear gZ gp lC H1 HC fa;go_simp;refine lS _ ?_;clear lS K0;refine wpList_nil ?_;refine dQ ?_;refine dY _ rfl rfl ?_;simp only [pick,pQ];iterate 1 (go_big_quiet_step (fail))
      refine wpQuiet_nil ⟨?_,?_⟩
      · exact cQ
      refine dK rfl ?_;go_wp2;refine dQ ?_;refine dU ⟨?_,?_⟩
      · exact eM
      refine dW ?_;go_wp2;go_roundw
      case rel=>
       have h9:=mI.af.set PA 2 (.slice a7 4 c7);have h10:=(h9.turn (Pr.pts (BN) (.cells #[.int .u8 103] 5)) (dM (.slice (some ⟨BN,0,none⟩) 1 1) [103]) (fe rfl (by simp [maxLen]))).turn (Pr.pts (BN+1) (.cells #[.int .u8 103,.int .u8 103] 5)) (dM (.slice (some ⟨BN+1,0,none⟩) 2 2) [103,103]) (fe rfl (by simp [maxLen]))
       have h12:=h10.jk (dM (.slice (some ⟨BN,0,none⟩) 1 1) [103]) (dM (.slice (some ⟨BN+1,0,none⟩) 2 2) [103,103]);have qt:dS (rowsOf ((.slice (some ⟨BN,0,none⟩) 1 1,.slice (some ⟨BN+1,0,none⟩) 2 2),eG 103) :: _) _:=h12;have rk:=qt.snoc rowsOf (ys.zip (fQ.take 3)) ((.slice (some ⟨BN,0,none⟩) 1 1,.slice (some ⟨BN+1,0,none⟩) 2 2),eG 103)
       have e:(ys++ [(Value.slice (some ⟨BN,0,none⟩) 1 1,Value.slice (some ⟨BN+1,0,none⟩) 2 2)]).zip (fQ.take 4)=ys.zip (fQ.take 3)++ [((Value.slice (some ⟨BN,0,none⟩) 1 1,Value.slice (some ⟨BN+1,0,none⟩) 2 2),eG 103)]:=by
        rw [show fQ.take 4=fQ.take 3++ [eG 103] from rfl,bD (by rw [yK.af];rfl)];rfl
       refine⟨4,.slice a7 4 c7,ys++ [(.slice (some ⟨BN,0,none⟩) 1 1,.slice (some ⟨BN+1,0,none⟩) 2 2)],by omega,by rw [au,yK.af];rfl,rfl,iN.af.setCell _ _,?_⟩;rw [e,aN]
       exact rk.to (M:= [Pr.pts IB (iZ 2 (.slice (some ⟨CB,0,none⟩) 3 3) (.slice none 0 0) (.slice none 0 0)),Pr.pts CB (.cells #[.int .i64 1,.int .i64 1,.int .i64 1] 3),Pr.pts PA (dV 1 0 (.slice a7 4 c7) (.slice none 0 0) 0),Pr.pts PB (dV 1 0 (.slice none 0 0) (.slice none 0 0) 0),Row 89 4 (.slice a7 4 c7) 4 ((ys.zip (fQ.take 3)).flatMap eZ++ [.slice (some ⟨BN,0,none⟩) 1 1,.slice (some ⟨BN+1,0,none⟩) 2 2,.int .i64 0,.int .i64 2]),big rowsOf (ys.zip (fQ.take 3)++ [((.slice (some ⟨BN,0,none⟩) 1 1,.slice (some ⟨BN+1,0,none⟩) 2 2),eG 103)]),Pr.own hg,F])
      case measure=>simp [intOf]
    · cases aC.1 mR
      have hs1:=(HS.af.alloc (.cells #[.int .u8 103,.int .u8 103] 5)).alloc (.cells #[.int .u8 103] 5);rw [show (wr.alloc (.cells #[.int .u8 103,.int .u8 103] 5)).heap.size=wr.heap.size+1 by simp] at hs1;have fN:=(eR.af.alloc (.cells #[.int .u8 103,.int .u8 103] 5)).alloc (.cells #[.int .u8 103] 5);have ig:=hQ hs1;have eQ:=hQ fN;clear hs1 fN;refine dK rfl ?_;go_wp2
      refine dQ ?_;refine dU ⟨?_,?_⟩
      · exact cQ
      refine dK rfl ?_;go_wp2;refine dQ ?_;refine dY _ rfl rfl ?_;simp only [pick,pQ];iterate 1 (go_big_quiet_step (fail))
      refine wpQuiet_nil ⟨?_,?_⟩
      · exact cQ
      refine dK rfl ?_;have hs1:=ig.af;have fN:=eQ.af;clear ig eQ c1;generalize (wr.alloc (.cells #[.int .u8 103,.int .u8 103] 5)).alloc (.cells #[.int .u8 103] 5)=w2 at*;generalize wr.heap.size=BN at*;have c1:=hs1.fx
      have hs2:=(hs1.alloc (.cells #[.slice (some ⟨BN+1,0,none⟩) 1 1,.slice (some ⟨BN,0,none⟩) 2 2,.int .i64 0,.int .i64 2] 89)).drew;have H1:=hQ (hs2.ej (A1:=Row 89 4 (.slice ao 3 co) 3 ((ys.zip (fQ.take 3)).flatMap eZ)));have HC:=hQ (eW w2 [.slice (some ⟨BN+1,0,none⟩) 1 1,.slice (some ⟨BN,0,none⟩) 2 2,.int .i64 0,.int .i64 2] 89 w2.heap.size rfl)
      have fa:=hQ (fN.alloc (.cells #[.slice (some ⟨BN+1,0,none⟩) 1 1,.slice (some ⟨BN,0,none⟩) 2 2,.int .i64 0,.int .i64 2] 89)).drew;clear hs1 hs2 fN;go_wp2;refine dQ ?_;refine dU ⟨?_,?_⟩
      · exact cQ
      refine dK rfl ?_;refine ff rfl _ _ _ rfl 89 i0 _ 4 64 Tryz.underlying81 lk hz0 hz1 jg rfl _ _ _ rfl H1.af ⟨w2.heap.size,0,none⟩ 1 1 _ rfl rfl HC.af (by simp [Value.oneCell']) (by simp only [maxLen];omega) (by omega) (fun v7 w7 gZ lC K0 lS=> ?_);obtain⟨a7,c7,e7,_,_⟩:=Row.read gZ;subst e7;clear c1;have gp:=dS.kS gZ;have c1:=gp.fx;have mI:=hQ gp;have iN:=hQ (fa.af.eH lC);clear gZ gp lC H1 HC fa;go_simp;refine lS _ ?_;clear lS K0;refine wpList_nil ?_;refine dQ ?_;refine dY _ rfl rfl ?_;simp only [pick,pQ];iterate 1 (go_big_quiet_step (fail))
      refine wpQuiet_nil ⟨?_,?_⟩
      · exact cQ
      refine dK rfl ?_;go_wp2;refine dQ ?_;refine dU ⟨?_,?_⟩
      · exact eM
      refine dW ?_;go_wp2;go_roundw
      case rel=>
       have h9:=mI.af.set PA 2 (.slice a7 4 c7);have h10:=(h9.turn (Pr.pts (BN+1) (.cells #[.int .u8 103] 5)) (dM (.slice (some ⟨BN+1,0,none⟩) 1 1) [103]) (fe rfl (by simp [maxLen]))).turn (Pr.pts (BN) (.cells #[.int .u8 103,.int .u8 103] 5)) (dM (.slice (some ⟨BN,0,none⟩) 2 2) [103,103]) (fe rfl (by simp [maxLen]))
       have h12:=h10.jk (dM (.slice (some ⟨BN+1,0,none⟩) 1 1) [103]) (dM (.slice (some ⟨BN,0,none⟩) 2 2) [103,103]);have qt:dS (rowsOf ((.slice (some ⟨BN+1,0,none⟩) 1 1,.slice (some ⟨BN,0,none⟩) 2 2),eG 103) :: _) _:=h12;have rk:=qt.snoc rowsOf (ys.zip (fQ.take 3)) ((.slice (some ⟨BN+1,0,none⟩) 1 1,.slice (some ⟨BN,0,none⟩) 2 2),eG 103)
       have e:(ys++ [(Value.slice (some ⟨BN+1,0,none⟩) 1 1,Value.slice (some ⟨BN,0,none⟩) 2 2)]).zip (fQ.take 4)=ys.zip (fQ.take 3)++ [((Value.slice (some ⟨BN+1,0,none⟩) 1 1,Value.slice (some ⟨BN,0,none⟩) 2 2),eG 103)]:=by
        rw [show fQ.take 4=fQ.take 3++ [eG 103] from rfl,bD (by rw [yK.af];rfl)];rfl
       refine⟨4,.slice a7 4 c7,ys++ [(.slice (some ⟨BN+1,0,none⟩) 1 1,.slice (some ⟨BN,0,none⟩) 2 2)],by omega,by rw [au,yK.af];rfl,rfl,iN.af.setCell _ _,?_⟩;rw [e,aN]
       exact rk.to (M:= [Pr.pts IB (iZ 2 (.slice (some ⟨CB,0,none⟩) 3 3) (.slice none 0 0) (.slice none 0 0)),Pr.pts CB (.cells #[.int .i64 1,.int .i64 1,.int .i64 1] 3),Pr.pts PA (dV 1 0 (.slice a7 4 c7) (.slice none 0 0) 0),Pr.pts PB (dV 1 0 (.slice none 0 0) (.slice none 0 0) 0),Row 89 4 (.slice a7 4 c7) 4 ((ys.zip (fQ.take 3)).flatMap eZ++ [.slice (some ⟨BN+1,0,none⟩) 1 1,.slice (some ⟨BN,0,none⟩) 2 2,.int .i64 0,.int .i64 2]),big rowsOf (ys.zip (fQ.take 3)++ [((.slice (some ⟨BN+1,0,none⟩) 1 1,.slice (some ⟨BN,0,none⟩) 2 2),eG 103)]),Pr.own hg,F])
      case measure=>simp [intOf]
  · have hs1:dS [Pr.pts IB (iZ 2 (.slice (some ⟨CB,0,none⟩) 3 3) (.slice none 0 0) (.slice none 0 0)),Pr.pts CB (.cells #[.int .i64 1,.int .i64 1,.int .i64 1] 3),Pr.pts PA (dV 1 0 (.slice ao 4 co) (.slice none 0 0) 0),Pr.pts PB (dV 1 0 (.slice none 0 0) (.slice none 0 0) 0),fO (.slice ao 4 co) ys fQ,big rowsOf (ys.zip fQ),Pr.own hg,F] wr:=HS.af
    have ig:=hQ hs1;clear HS hs1;rw [show ((4:Nat):Int)=4 from rfl];go_wp2;clear c1;have oI:=eR;clear eR
    go_loopw [7] (fun i wr=> ∃(k:Nat) (iv:Value) (zs:List (Value × Value)),k≤5∧zs.length=k∧i= .int .i64 k∧dN w wr∧dS [Pr.pts IB (iZ 2 (.slice (some ⟨CB,0,none⟩) 3 3) (.slice none 0 0) (.slice none 0 0)),Pr.pts CB (.cells #[.int .i64 1,.int .i64 1,.int .i64 1] 3),Pr.pts PA (dV 1 0 (.slice ao 4 co) (.slice none 0 0) 0),Pr.pts PB (dV 1 0 (iv) (.slice none 0 0) 0),fO (.slice ao 4 co) ys fQ,big rowsOf (ys.zip fQ),Row 89 4 iv k ((zs.zip (fh.take k)).flatMap eZ),big rowsOf (zs.zip (fh.take k)),Pr.own hg,F] wr) (fun i _=>5-(intOf i).toNat)
    case atStart=>
     refine⟨0,.slice none 0 0,[],by omega,rfl,rfl,oI.af,?_⟩;have h1:=(ig.af.emp).nothing rowsOf;rw [← Row.nil 89 4] at h1
     exact h1.to (M:= [Pr.pts IB (iZ 2 (.slice (some ⟨CB,0,none⟩) 3 3) (.slice none 0 0) (.slice none 0 0)),Pr.pts CB (.cells #[.int .i64 1,.int .i64 1,.int .i64 1] 3),Pr.pts PA (dV 1 0 (.slice ao 4 co) (.slice none 0 0) 0),Pr.pts PB (dV 1 0 (.slice none 0 0) (.slice none 0 0) 0),fO (.slice ao 4 co) ys fQ,big rowsOf (ys.zip fQ),Row 89 4 (.slice none 0 0) 0 [],big rowsOf [],Pr.own hg,F])
    case round=>
     obtain⟨k,iv,zs,hk,hzl,rfl,hst,hs⟩:=hrel;clear ig oI;obtain⟨bo,do',rfl⟩:=Row.shape (hs.ej (A1:=Row 89 4 iv k ((zs.zip (fh.take k)).flatMap eZ)));have Yy:k=0∨k=1∨k=2∨k=3∨k=4∨k=5:=by omega
     have HS:=hQ hs;have eR:=hQ hst;have sl:=hQ hzl;have c1:=hs.fx;clear hs hst hzl hk;rcases Yy with rfl | rfl | rfl | rfl | rfl | rfl
     · go_wp2_with fail
       refine fS (sz:=155) (by kernel_rfl) [0,1,2,3,4,6,7,8,9,10,11] [(5,[],[0,1,2,3,6,7,8,9,10,11],[(12,[13],[0,1,2,3,6,7,9,10]),(14,[],[0,1,2,3,6,7,9,10]),(15,[16],[0,2,3,6,7,9,10]),(17,[],[])]),(12,[],[0,1,2,3,4,6,7,9,10],[(5,[13],[0,1,2,3,6,7,9,10]),(14,[],[0,1,2,3,6,7,9,10]),(15,[16],[0,2,3,6,7,9,10]),(17,[],[])])] rfl (by kernel_rfl) (by kernel_rfl) (by kernel_rfl) ?_
       refine dY _ rfl rfl ?_;simp only [pick,pQ];iterate 11 (go_big_quiet_step (fail))
       refine wpQuiet_nil ?_;rw [show (((ByteArray.mk #[109,112,114,116,118])[0]'(by decide)).toNat:Int)=109 from rfl];intro sx mR;rcases aR.1 mR with rfl | mR
       · have hs1:=(HS.af.alloc (.cells #[.int .u8 109] 5)).alloc (.cells #[.int .u8 109,.int .u8 109] 5)
         rw [show (wr.alloc (.cells #[.int .u8 109] 5)).heap.size=wr.heap.size+1 by simp] at hs1;have fN:=(eR.af.alloc (.cells #[.int .u8 109] 5)).alloc (.cells #[.int .u8 109,.int .u8 109] 5);have ig:=hQ hs1;have eQ:=hQ fN;clear hs1 fN;refine dK rfl ?_;go_wp2;refine dQ ?_;refine dU ⟨?_,?_⟩
         · exact cQ
         refine dK rfl ?_;go_wp2;refine dQ ?_;refine dY _ rfl rfl ?_;simp only [pick,pQ];iterate 1 (go_big_quiet_step (fail))
         refine wpQuiet_nil ⟨?_,?_⟩
         · exact cQ
         refine dK rfl ?_;have hs1:=ig.af;have fN:=eQ.af;clear ig eQ c1;generalize (wr.alloc (.cells #[.int .u8 109] 5)).alloc (.cells #[.int .u8 109,.int .u8 109] 5)=w2 at*;generalize wr.heap.size=BN at*;have c1:=hs1.fx
         have hs2:=(hs1.alloc (.cells #[.slice (some ⟨BN,0,none⟩) 1 1,.slice (some ⟨BN+1,0,none⟩) 2 2,.int .i64 0,.int .i64 2] 89)).drew;have H1:=hQ (hs2.ej (A1:=Row 89 4 (.slice bo 0 do') 0 ((zs.zip (fh.take 0)).flatMap eZ)));have HC:=hQ (eW w2 [.slice (some ⟨BN,0,none⟩) 1 1,.slice (some ⟨BN+1,0,none⟩) 2 2,.int .i64 0,.int .i64 2] 89 w2.heap.size rfl)
         have fa:=hQ (fN.alloc (.cells #[.slice (some ⟨BN,0,none⟩) 1 1,.slice (some ⟨BN+1,0,none⟩) 2 2,.int .i64 0,.int .i64 2] 89)).drew;clear hs1 hs2 fN;go_wp2;refine dQ ?_;refine dU ⟨?_,?_⟩
         · exact cQ
         refine dK rfl ?_;refine ff rfl _ _ _ rfl 89 i0 _ 4 64 Tryz.underlying81 lk hz0 hz1 jg rfl _ _ _ rfl H1.af ⟨w2.heap.size,0,none⟩ 1 1 _ rfl rfl HC.af (by simp [Value.oneCell']) (by simp only [maxLen];omega) (by omega) (fun v7 w7 gZ lC K0 lS=> ?_);obtain⟨a7,c7,e7,_,_⟩:=Row.read gZ;subst e7;clear c1;have gp:=dS.kS gZ;have c1:=gp.fx;have mI:=hQ gp;have iN:=hQ (fa.af.eH lC);clear gZ gp lC H1 HC fa;go_simp;refine lS _ ?_;clear lS K0;refine wpList_nil ?_;refine dQ ?_;refine dY _ rfl rfl ?_;simp only [pick,pQ];iterate 1 (go_big_quiet_step (fail))
         refine wpQuiet_nil ⟨?_,?_⟩
         · exact cQ
         refine dK rfl ?_;go_wp2;refine dQ ?_;refine dU ⟨?_,?_⟩
         · exact eM
         refine dW ?_;go_wp2;go_roundw
         case rel=>
          have h9:=mI.af.set PB 2 (.slice a7 1 c7);have h10:=(h9.turn (Pr.pts (BN) (.cells #[.int .u8 109] 5)) (dM (.slice (some ⟨BN,0,none⟩) 1 1) [109]) (fe rfl (by simp [maxLen]))).turn (Pr.pts (BN+1) (.cells #[.int .u8 109,.int .u8 109] 5)) (dM (.slice (some ⟨BN+1,0,none⟩) 2 2) [109,109]) (fe rfl (by simp [maxLen]))
          have h12:=h10.jk (dM (.slice (some ⟨BN,0,none⟩) 1 1) [109]) (dM (.slice (some ⟨BN+1,0,none⟩) 2 2) [109,109]);have qt:dS (rowsOf ((.slice (some ⟨BN,0,none⟩) 1 1,.slice (some ⟨BN+1,0,none⟩) 2 2),eG 109) :: _) _:=h12;have rk:=qt.snoc rowsOf (zs.zip (fh.take 0)) ((.slice (some ⟨BN,0,none⟩) 1 1,.slice (some ⟨BN+1,0,none⟩) 2 2),eG 109)
          have e:(zs++ [(Value.slice (some ⟨BN,0,none⟩) 1 1,Value.slice (some ⟨BN+1,0,none⟩) 2 2)]).zip (fh.take 1)=zs.zip (fh.take 0)++ [((Value.slice (some ⟨BN,0,none⟩) 1 1,Value.slice (some ⟨BN+1,0,none⟩) 2 2),eG 109)]:=by
           rw [show fh.take 1=fh.take 0++ [eG 109] from rfl,bD (by rw [sl.af];rfl)];rfl
          refine⟨1,.slice a7 1 c7,zs++ [(.slice (some ⟨BN,0,none⟩) 1 1,.slice (some ⟨BN+1,0,none⟩) 2 2)],by omega,by rw [au,sl.af];rfl,rfl,iN.af.setCell _ _,?_⟩;rw [e,aN]
          exact rk.to (M:= [Pr.pts IB (iZ 2 (.slice (some ⟨CB,0,none⟩) 3 3) (.slice none 0 0) (.slice none 0 0)),Pr.pts CB (.cells #[.int .i64 1,.int .i64 1,.int .i64 1] 3),Pr.pts PA (dV 1 0 (.slice ao 4 co) (.slice none 0 0) 0),Pr.pts PB (dV 1 0 (.slice a7 1 c7) (.slice none 0 0) 0),fO (.slice ao 4 co) ys fQ,big rowsOf (ys.zip fQ),Row 89 4 (.slice a7 1 c7) 1 ((zs.zip (fh.take 0)).flatMap eZ++ [.slice (some ⟨BN,0,none⟩) 1 1,.slice (some ⟨BN+1,0,none⟩) 2 2,.int .i64 0,.int .i64 2]),big rowsOf (zs.zip (fh.take 0)++ [((.slice (some ⟨BN,0,none⟩) 1 1,.slice (some ⟨BN+1,0,none⟩) 2 2),eG 109)]),Pr.own hg,F])
         case measure=>simp [intOf]
       · cases aC.1 mR
         have hs1:=(HS.af.alloc (.cells #[.int .u8 109,.int .u8 109] 5)).alloc (.cells #[.int .u8 109] 5);rw [show (wr.alloc (.cells #[.int .u8 109,.int .u8 109] 5)).heap.size=wr.heap.size+1 by simp] at hs1;have fN:=(eR.af.alloc (.cells #[.int .u8 109,.int .u8 109] 5)).alloc (.cells #[.int .u8 109] 5);have ig:=hQ hs1;have eQ:=hQ fN;clear hs1 fN;refine dK rfl ?_;go_wp2
         refine dQ ?_;refine dU ⟨?_,?_⟩
         · exact cQ
         refine dK rfl ?_;go_wp2;refine dQ ?_;refine dY _ rfl rfl ?_;simp only [pick,pQ];iterate 1 (go_big_quiet_step (fail))
         refine wpQuiet_nil ⟨?_,?_⟩
         · exact cQ
         refine dK rfl ?_;have hs1:=ig.af;have fN:=eQ.af;clear ig eQ c1;generalize (wr.alloc (.cells #[.int .u8 109,.int .u8 109] 5)).alloc (.cells #[.int .u8 109] 5)=w2 at*;generalize wr.heap.size=BN at*;have c1:=hs1.fx
         have hs2:=(hs1.alloc (.cells #[.slice (some ⟨BN+1,0,none⟩) 1 1,.slice (some ⟨BN,0,none⟩) 2 2,.int .i64 0,.int .i64 2] 89)).drew;have H1:=hQ (hs2.ej (A1:=Row 89 4 (.slice bo 0 do') 0 ((zs.zip (fh.take 0)).flatMap eZ)));have HC:=hQ (eW w2 [.slice (some ⟨BN+1,0,none⟩) 1 1,.slice (some ⟨BN,0,none⟩) 2 2,.int .i64 0,.int .i64 2] 89 w2.heap.size rfl)
         have fa:=hQ (fN.alloc (.cells #[.slice (some ⟨BN+1,0,none⟩) 1 1,.slice (some ⟨BN,0,none⟩) 2 2,.int .i64 0,.int .i64 2] 89)).drew;clear hs1 hs2 fN;go_wp2;refine dQ ?_;refine dU ⟨?_,?_⟩
         · exact cQ
         refine dK rfl ?_;refine ff rfl _ _ _ rfl 89 i0 _ 4 64 Tryz.underlying81 lk hz0 hz1 jg rfl _ _ _ rfl H1.af ⟨w2.heap.size,0,none⟩ 1 1 _ rfl rfl HC.af (by simp [Value.oneCell']) (by simp only [maxLen];omega) (by omega) (fun v7 w7 gZ lC K0 lS=> ?_);obtain⟨a7,c7,e7,_,_⟩:=Row.read gZ;subst e7;clear c1;have gp:=dS.kS gZ;have c1:=gp.fx;have mI:=hQ gp;have iN:=hQ (fa.af.eH lC);clear gZ gp lC H1 HC fa;go_simp;refine lS _ ?_;clear lS K0;refine wpList_nil ?_;refine dQ ?_;refine dY _ rfl rfl ?_;simp only [pick,pQ];iterate 1 (go_big_quiet_step (fail))
         refine wpQuiet_nil ⟨?_,?_⟩
         · exact cQ
         refine dK rfl ?_;go_wp2;refine dQ ?_;refine dU ⟨?_,?_⟩
         · exact eM
         refine dW ?_;go_wp2;go_roundw
         case rel=>
          have h9:=mI.af.set PB 2 (.slice a7 1 c7);have h10:=(h9.turn (Pr.pts (BN+1) (.cells #[.int .u8 109] 5)) (dM (.slice (some ⟨BN+1,0,none⟩) 1 1) [109]) (fe rfl (by simp [maxLen]))).turn (Pr.pts (BN) (.cells #[.int .u8 109,.int .u8 109] 5)) (dM (.slice (some ⟨BN,0,none⟩) 2 2) [109,109]) (fe rfl (by simp [maxLen]))
          have h12:=h10.jk (dM (.slice (some ⟨BN+1,0,none⟩) 1 1) [109]) (dM (.slice (some ⟨BN,0,none⟩) 2 2) [109,109]);have qt:dS (rowsOf ((.slice (some ⟨BN+1,0,none⟩) 1 1,.slice (some ⟨BN,0,none⟩) 2 2),eG 109) :: _) _:=h12;have rk:=qt.snoc rowsOf (zs.zip (fh.take 0)) ((.slice (some ⟨BN+1,0,none⟩) 1 1,.slice (some ⟨BN,0,none⟩) 2 2),eG 109)
          have e:(zs++ [(Value.slice (some ⟨BN+1,0,none⟩) 1 1,Value.slice (some ⟨BN,0,none⟩) 2 2)]).zip (fh.take 1)=zs.zip (fh.take 0)++ [((Value.slice (some ⟨BN+1,0,none⟩) 1 1,Value.slice (some ⟨BN,0,none⟩) 2 2),eG 109)]:=by
           rw [show fh.take 1=fh.take 0++ [eG 109] from rfl,bD (by rw [sl.af];rfl)];rfl
          refine⟨1,.slice a7 1 c7,zs++ [(.slice (some ⟨BN+1,0,none⟩) 1 1,.slice (some ⟨BN,0,none⟩) 2 2)],by omega,by rw [au,sl.af];rfl,rfl,iN.af.setCell _ _,?_⟩;rw [e,aN]
          exact rk.to (M:= [Pr.pts IB (iZ 2 (.slice (some ⟨CB,0,none⟩) 3 3) (.slice none 0 0) (.slice none 0 0)),Pr.pts CB (.cells #[.int .i64 1,.int .i64 1,.int .i64 1] 3),Pr.pts PA (dV 1 0 (.slice ao 4 co) (.slice none 0 0) 0),Pr.pts PB (dV 1 0 (.slice a7 1 c7) (.slice none 0 0) 0),fO (.slice ao 4 co) ys fQ,big rowsOf (ys.zip fQ),Row 89 4 (.slice a7 1 c7) 1 ((zs.zip (fh.take 0)).flatMap eZ++ [.slice (some ⟨BN+1,0,none⟩) 1 1,.slice (some ⟨BN,0,none⟩) 2 2,.int .i64 0,.int .i64 2]),big rowsOf (zs.zip (fh.take 0)++ [((.slice (some ⟨BN+1,0,none⟩) 1 1,.slice (some ⟨BN,0,none⟩) 2 2),eG 109)]),Pr.own hg,F])
         case measure=>simp [intOf]
     · go_wp2_with fail
       refine fS (sz:=155) (by kernel_rfl) [0,1,2,3,4,6,7,8,9,10,11] [(5,[],[0,1,2,3,6,7,8,9,10,11],[(12,[13],[0,1,2,3,6,7,9,10]),(14,[],[0,1,2,3,6,7,9,10]),(15,[16],[0,2,3,6,7,9,10]),(17,[],[])]),(12,[],[0,1,2,3,4,6,7,9,10],[(5,[13],[0,1,2,3,6,7,9,10]),(14,[],[0,1,2,3,6,7,9,10]),(15,[16],[0,2,3,6,7,9,10]),(17,[],[])])] rfl (by kernel_rfl) (by kernel_rfl) (by kernel_rfl) ?_
       refine dY _ rfl rfl ?_;simp only [pick,pQ];iterate 11 (go_big_quiet_step (fail))
       refine wpQuiet_nil ?_;rw [show (((ByteArray.mk #[109,112,114,116,118])[1]'(by decide)).toNat:Int)=112 from rfl];intro sx mR;rcases aR.1 mR with rfl | mR
       · have hs1:=(HS.af.alloc (.cells #[.int .u8 112] 5)).alloc (.cells #[.int .u8 112,.int .u8 112] 5)
         rw [show (wr.alloc (.cells #[.int .u8 112] 5)).heap.size=wr.heap.size+1 by simp] at hs1;have fN:=(eR.af.alloc (.cells #[.int .u8 112] 5)).alloc (.cells #[.int .u8 112,.int .u8 112] 5);have ig:=hQ hs1;have eQ:=hQ fN;clear hs1 fN;refine dK rfl ?_;go_wp2;refine dQ ?_;refine dU ⟨?_,?_⟩
         · exact cQ
         refine dK rfl ?_;go_wp2;refine dQ ?_;refine dY _ rfl rfl ?_;simp only [pick,pQ];iterate 1 (go_big_quiet_step (fail))
         refine wpQuiet_nil ⟨?_,?_⟩
         · exact cQ
         refine dK rfl ?_;have hs1:=ig.af;have fN:=eQ.af;clear ig eQ c1;generalize (wr.alloc (.cells #[.int .u8 112] 5)).alloc (.cells #[.int .u8 112,.int .u8 112] 5)=w2 at*;generalize wr.heap.size=BN at*;have c1:=hs1.fx
         have hs2:=(hs1.alloc (.cells #[.slice (some ⟨BN,0,none⟩) 1 1,.slice (some ⟨BN+1,0,none⟩) 2 2,.int .i64 0,.int .i64 2] 89)).drew;have H1:=hQ (hs2.ej (A1:=Row 89 4 (.slice bo 1 do') 1 ((zs.zip (fh.take 1)).flatMap eZ)));have HC:=hQ (eW w2 [.slice (some ⟨BN,0,none⟩) 1 1,.slice (some ⟨BN+1,0,none⟩) 2 2,.int .i64 0,.int .i64 2] 89 w2.heap.size rfl)
         have fa:=hQ (fN.alloc (.cells #[.slice (some ⟨BN,0,none⟩) 1 1,.slice (some ⟨BN+1,0,none⟩) 2 2,.int .i64 0,.int .i64 2] 89)).drew;clear hs1 hs2 fN;go_wp2;refine dQ ?_;refine dU ⟨?_,?_⟩
         · exact cQ
         refine dK rfl ?_;refine ff rfl _ _ _ rfl 89 i0 _ 4 64 Tryz.underlying81 lk hz0 hz1 jg rfl _ _ _ rfl H1.af ⟨w2.heap.size,0,none⟩ 1 1 _ rfl rfl HC.af (by simp [Value.oneCell']) (by simp only [maxLen];omega) (by omega) (fun v7 w7 gZ lC K0 lS=> ?_);obtain⟨a7,c7,e7,_,_⟩:=Row.read gZ;subst e7;clear c1;have gp:=dS.kS gZ;have c1:=gp.fx;have mI:=hQ gp;have iN:=hQ (fa.af.eH lC);clear gZ gp lC H1 HC fa;go_simp;refine lS _ ?_;clear lS K0;refine wpList_nil ?_;refine dQ ?_;refine dY _ rfl rfl ?_;simp only [pick,pQ];iterate 1 (go_big_quiet_step (fail))
         refine wpQuiet_nil ⟨?_,?_⟩
         · exact cQ
         refine dK rfl ?_;go_wp2;refine dQ ?_;refine dU ⟨?_,?_⟩
         · exact eM
         refine dW ?_;go_wp2;go_roundw
         case rel=>
          have h9:=mI.af.set PB 2 (.slice a7 2 c7);have h10:=(h9.turn (Pr.pts (BN) (.cells #[.int .u8 112] 5)) (dM (.slice (some ⟨BN,0,none⟩) 1 1) [112]) (fe rfl (by simp [maxLen]))).turn (Pr.pts (BN+1) (.cells #[.int .u8 112,.int .u8 112] 5)) (dM (.slice (some ⟨BN+1,0,none⟩) 2 2) [112,112]) (fe rfl (by simp [maxLen]))
          have h12:=h10.jk (dM (.slice (some ⟨BN,0,none⟩) 1 1) [112]) (dM (.slice (some ⟨BN+1,0,none⟩) 2 2) [112,112]);have qt:dS (rowsOf ((.slice (some ⟨BN,0,none⟩) 1 1,.slice (some ⟨BN+1,0,none⟩) 2 2),eG 112) :: _) _:=h12;have rk:=qt.snoc rowsOf (zs.zip (fh.take 1)) ((.slice (some ⟨BN,0,none⟩) 1 1,.slice (some ⟨BN+1,0,none⟩) 2 2),eG 112)
          have e:(zs++ [(Value.slice (some ⟨BN,0,none⟩) 1 1,Value.slice (some ⟨BN+1,0,none⟩) 2 2)]).zip (fh.take 2)=zs.zip (fh.take 1)++ [((Value.slice (some ⟨BN,0,none⟩) 1 1,Value.slice (some ⟨BN+1,0,none⟩) 2 2),eG 112)]:=by
           rw [show fh.take 2=fh.take 1++ [eG 112] from rfl,bD (by rw [sl.af];rfl)];rfl
          refine⟨2,.slice a7 2 c7,zs++ [(.slice (some ⟨BN,0,none⟩) 1 1,.slice (some ⟨BN+1,0,none⟩) 2 2)],by omega,by rw [au,sl.af];rfl,rfl,iN.af.setCell _ _,?_⟩;rw [e,aN]
          exact rk.to (M:= [Pr.pts IB (iZ 2 (.slice (some ⟨CB,0,none⟩) 3 3) (.slice none 0 0) (.slice none 0 0)),Pr.pts CB (.cells #[.int .i64 1,.int .i64 1,.int .i64 1] 3),Pr.pts PA (dV 1 0 (.slice ao 4 co) (.slice none 0 0) 0),Pr.pts PB (dV 1 0 (.slice a7 2 c7) (.slice none 0 0) 0),fO (.slice ao 4 co) ys fQ,big rowsOf (ys.zip fQ),Row 89 4 (.slice a7 2 c7) 2 ((zs.zip (fh.take 1)).flatMap eZ++ [.slice (some ⟨BN,0,none⟩) 1 1,.slice (some ⟨BN+1,0,none⟩) 2 2,.int .i64 0,.int .i64 2]),big rowsOf (zs.zip (fh.take 1)++ [((.slice (some ⟨BN,0,none⟩) 1 1,.slice (some ⟨BN+1,0,none⟩) 2 2),eG 112)]),Pr.own hg,F])
         case measure=>simp [intOf]
       · cases aC.1 mR
         have hs1:=(HS.af.alloc (.cells #[.int .u8 112,.int .u8 112] 5)).alloc (.cells #[.int .u8 112] 5);rw [show (wr.alloc (.cells #[.int .u8 112,.int .u8 112] 5)).heap.size=wr.heap.size+1 by simp] at hs1;have fN:=(eR.af.alloc (.cells #[.int .u8 112,.int .u8 112] 5)).alloc (.cells #[.int .u8 112] 5);have ig:=hQ hs1;have eQ:=hQ fN;clear hs1 fN;refine dK rfl ?_;go_wp2
         refine dQ ?_;refine dU ⟨?_,?_⟩
         · exact cQ
         refine dK rfl ?_;go_wp2;refine dQ ?_;refine dY _ rfl rfl ?_;simp only [pick,pQ];iterate 1 (go_big_quiet_step (fail))
         refine wpQuiet_nil ⟨?_,?_⟩
         · exact cQ
         refine dK rfl ?_;have hs1:=ig.af;have fN:=eQ.af;clear ig eQ c1;generalize (wr.alloc (.cells #[.int .u8 112,.int .u8 112] 5)).alloc (.cells #[.int .u8 112] 5)=w2 at*;generalize wr.heap.size=BN at*;have c1:=hs1.fx
         have hs2:=(hs1.alloc (.cells #[.slice (some ⟨BN+1,0,none⟩) 1 1,.slice (some ⟨BN,0,none⟩) 2 2,.int .i64 0,.int .i64 2] 89)).drew;have H1:=hQ (hs2.ej (A1:=Row 89 4 (.slice bo 1 do') 1 ((zs.zip (fh.take 1)).flatMap eZ)));have HC:=hQ (eW w2 [.slice (some ⟨BN+1,0,none⟩) 1 1,.slice (some ⟨BN,0,none⟩) 2 2,.int .i64 0,.int .i64 2] 89 w2.heap.size rfl)
         have fa:=hQ (fN.alloc (.cells #[.slice (some ⟨BN+1,0,none⟩) 1 1,.slice (some ⟨BN,0,none⟩) 2 2,.int .i64 0,.int .i64 2] 89)).drew;clear hs1 hs2 fN;go_wp2;refine dQ ?_;refine dU ⟨?_,?_⟩
         · exact cQ
         refine dK rfl ?_;refine ff rfl _ _ _ rfl 89 i0 _ 4 64 Tryz.underlying81 lk hz0 hz1 jg rfl _ _ _ rfl H1.af ⟨w2.heap.size,0,none⟩ 1 1 _ rfl rfl HC.af (by simp [Value.oneCell']) (by simp only [maxLen];omega) (by omega) (fun v7 w7 gZ lC K0 lS=> ?_);obtain⟨a7,c7,e7,_,_⟩:=Row.read gZ;subst e7;clear c1;have gp:=dS.kS gZ;have c1:=gp.fx;have mI:=hQ gp;have iN:=hQ (fa.af.eH lC);clear gZ gp lC H1 HC fa;go_simp;refine lS _ ?_;clear lS K0;refine wpList_nil ?_;refine dQ ?_;refine dY _ rfl rfl ?_;simp only [pick,pQ];iterate 1 (go_big_quiet_step (fail))
         refine wpQuiet_nil ⟨?_,?_⟩
         · exact cQ
         refine dK rfl ?_;go_wp2;refine dQ ?_;refine dU ⟨?_,?_⟩
         · exact eM
         refine dW ?_;go_wp2;go_roundw
         case rel=>
          have h9:=mI.af.set PB 2 (.slice a7 2 c7);have h10:=(h9.turn (Pr.pts (BN+1) (.cells #[.int .u8 112] 5)) (dM (.slice (some ⟨BN+1,0,none⟩) 1 1) [112]) (fe rfl (by simp [maxLen]))).turn (Pr.pts (BN) (.cells #[.int .u8 112,.int .u8 112] 5)) (dM (.slice (some ⟨BN,0,none⟩) 2 2) [112,112]) (fe rfl (by simp [maxLen]))
          have h12:=h10.jk (dM (.slice (some ⟨BN+1,0,none⟩) 1 1) [112]) (dM (.slice (some ⟨BN,0,none⟩) 2 2) [112,112]);have qt:dS (rowsOf ((.slice (some ⟨BN+1,0,none⟩) 1 1,.slice (some ⟨BN,0,none⟩) 2 2),eG 112) :: _) _:=h12;have rk:=qt.snoc rowsOf (zs.zip (fh.take 1)) ((.slice (some ⟨BN+1,0,none⟩) 1 1,.slice (some ⟨BN,0,none⟩) 2 2),eG 112)
          have e:(zs++ [(Value.slice (some ⟨BN+1,0,none⟩) 1 1,Value.slice (some ⟨BN,0,none⟩) 2 2)]).zip (fh.take 2)=zs.zip (fh.take 1)++ [((Value.slice (some ⟨BN+1,0,none⟩) 1 1,Value.slice (some ⟨BN,0,none⟩) 2 2),eG 112)]:=by
           rw [show fh.take 2=fh.take 1++ [eG 112] from rfl,bD (by rw [sl.af];rfl)];rfl
          refine⟨2,.slice a7 2 c7,zs++ [(.slice (some ⟨BN+1,0,none⟩) 1 1,.slice (some ⟨BN,0,none⟩) 2 2)],by omega,by rw [au,sl.af];rfl,rfl,iN.af.setCell _ _,?_⟩;rw [e,aN]
          exact rk.to (M:= [Pr.pts IB (iZ 2 (.slice (some ⟨CB,0,none⟩) 3 3) (.slice none 0 0) (.slice none 0 0)),Pr.pts CB (.cells #[.int .i64 1,.int .i64 1,.int .i64 1] 3),Pr.pts PA (dV 1 0 (.slice ao 4 co) (.slice none 0 0) 0),Pr.pts PB (dV 1 0 (.slice a7 2 c7) (.slice none 0 0) 0),fO (.slice ao 4 co) ys fQ,big rowsOf (ys.zip fQ),Row 89 4 (.slice a7 2 c7) 2 ((zs.zip (fh.take 1)).flatMap eZ++ [.slice (some ⟨BN+1,0,none⟩) 1 1,.slice (some ⟨BN,0,none⟩) 2 2,.int .i64 0,.int .i64 2]),big rowsOf (zs.zip (fh.take 1)++ [((.slice (some ⟨BN+1,0,none⟩) 1 1,.slice (some ⟨BN,0,none⟩) 2 2),eG 112)]),Pr.own hg,F])
         case measure=>simp [intOf]
     · go_wp2_with fail
       refine fS (sz:=155) (by kernel_rfl) [0,1,2,3,4,6,7,8,9,10,11] [(5,[],[0,1,2,3,6,7,8,9,10,11],[(12,[13],[0,1,2,3,6,7,9,10]),(14,[],[0,1,2,3,6,7,9,10]),(15,[16],[0,2,3,6,7,9,10]),(17,[],[])]),(12,[],[0,1,2,3,4,6,7,9,10],[(5,[13],[0,1,2,3,6,7,9,10]),(14,[],[0,1,2,3,6,7,9,10]),(15,[16],[0,2,3,6,7,9,10]),(17,[],[])])] rfl (by kernel_rfl) (by kernel_rfl) (by kernel_rfl) ?_
       refine dY _ rfl rfl ?_;simp only [pick,pQ];iterate 11 (go_big_quiet_step (fail))
       refine wpQuiet_nil ?_;rw [show (((ByteArray.mk #[109,112,114,116,118])[2]'(by decide)).toNat:Int)=114 from rfl];intro sx mR;rcases aR.1 mR with rfl | mR
       · have hs1:=(HS.af.alloc (.cells #[.int .u8 114] 5)).alloc (.cells #[.int .u8 114,.int .u8 114] 5)
         rw [show (wr.alloc (.cells #[.int .u8 114] 5)).heap.size=wr.heap.size+1 by simp] at hs1;have fN:=(eR.af.alloc (.cells #[.int .u8 114] 5)).alloc (.cells #[.int .u8 114,.int .u8 114] 5);have ig:=hQ hs1;have eQ:=hQ fN;clear hs1 fN;refine dK rfl ?_;go_wp2;refine dQ ?_;refine dU ⟨?_,?_⟩
         · exact cQ
         refine dK rfl ?_;go_wp2;refine dQ ?_;refine dY _ rfl rfl ?_;simp only [pick,pQ];iterate 1 (go_big_quiet_step (fail))
         refine wpQuiet_nil ⟨?_,?_⟩
         · exact cQ
         refine dK rfl ?_;have hs1:=ig.af;have fN:=eQ.af;clear ig eQ c1;generalize (wr.alloc (.cells #[.int .u8 114] 5)).alloc (.cells #[.int .u8 114,.int .u8 114] 5)=w2 at*;generalize wr.heap.size=BN at*;have c1:=hs1.fx
         have hs2:=(hs1.alloc (.cells #[.slice (some ⟨BN,0,none⟩) 1 1,.slice (some ⟨BN+1,0,none⟩) 2 2,.int .i64 0,.int .i64 2] 89)).drew;have H1:=hQ (hs2.ej (A1:=Row 89 4 (.slice bo 2 do') 2 ((zs.zip (fh.take 2)).flatMap eZ)));have HC:=hQ (eW w2 [.slice (some ⟨BN,0,none⟩) 1 1,.slice (some ⟨BN+1,0,none⟩) 2 2,.int .i64 0,.int .i64 2] 89 w2.heap.size rfl)
         have fa:=hQ (fN.alloc (.cells #[.slice (some ⟨BN,0,none⟩) 1 1,.slice (some ⟨BN+1,0,none⟩) 2 2,.int .i64 0,.int .i64 2] 89)).drew;clear hs1 hs2 fN;go_wp2;refine dQ ?_;refine dU ⟨?_,?_⟩
         · exact cQ
         refine dK rfl ?_;refine ff rfl _ _ _ rfl 89 i0 _ 4 64 Tryz.underlying81 lk hz0 hz1 jg rfl _ _ _ rfl H1.af ⟨w2.heap.size,0,none⟩ 1 1 _ rfl rfl HC.af (by simp [Value.oneCell']) (by simp only [maxLen];omega) (by omega) (fun v7 w7 gZ lC K0 lS=> ?_);obtain⟨a7,c7,e7,_,_⟩:=Row.read gZ;subst e7;clear c1;have gp:=dS.kS gZ;have c1:=gp.fx;have mI:=hQ gp;have iN:=hQ (fa.af.eH lC);clear gZ gp lC H1 HC fa;go_simp;refine lS _ ?_;clear lS K0;refine wpList_nil ?_;refine dQ ?_;refine dY _ rfl rfl ?_;simp only [pick,pQ];iterate 1 (go_big_quiet_step (fail))
         refine wpQuiet_nil ⟨?_,?_⟩
         · exact cQ
         refine dK rfl ?_;go_wp2;refine dQ ?_;refine dU ⟨?_,?_⟩
         · exact eM
         refine dW ?_;go_wp2;go_roundw
         case rel=>
          have h9:=mI.af.set PB 2 (.slice a7 3 c7);have h10:=(h9.turn (Pr.pts (BN) (.cells #[.int .u8 114] 5)) (dM (.slice (some ⟨BN,0,none⟩) 1 1) [114]) (fe rfl (by simp [maxLen]))).turn (Pr.pts (BN+1) (.cells #[.int .u8 114,.int .u8 114] 5)) (dM (.slice (some ⟨BN+1,0,none⟩) 2 2) [114,114]) (fe rfl (by simp [maxLen]))
          have h12:=h10.jk (dM (.slice (some ⟨BN,0,none⟩) 1 1) [114]) (dM (.slice (some ⟨BN+1,0,none⟩) 2 2) [114,114]);have qt:dS (rowsOf ((.slice (some ⟨BN,0,none⟩) 1 1,.slice (some ⟨BN+1,0,none⟩) 2 2),eG 114) :: _) _:=h12;have rk:=qt.snoc rowsOf (zs.zip (fh.take 2)) ((.slice (some ⟨BN,0,none⟩) 1 1,.slice (some ⟨BN+1,0,none⟩) 2 2),eG 114)
          have e:(zs++ [(Value.slice (some ⟨BN,0,none⟩) 1 1,Value.slice (some ⟨BN+1,0,none⟩) 2 2)]).zip (fh.take 3)=zs.zip (fh.take 2)++ [((Value.slice (some ⟨BN,0,none⟩) 1 1,Value.slice (some ⟨BN+1,0,none⟩) 2 2),eG 114)]:=by
           rw [show fh.take 3=fh.take 2++ [eG 114] from rfl,bD (by rw [sl.af];rfl)];rfl
          refine⟨3,.slice a7 3 c7,zs++ [(.slice (some ⟨BN,0,none⟩) 1 1,.slice (some ⟨BN+1,0,none⟩) 2 2)],by omega,by rw [au,sl.af];rfl,rfl,iN.af.setCell _ _,?_⟩;rw [e,aN]
          exact rk.to (M:= [Pr.pts IB (iZ 2 (.slice (some ⟨CB,0,none⟩) 3 3) (.slice none 0 0) (.slice none 0 0)),Pr.pts CB (.cells #[.int .i64 1,.int .i64 1,.int .i64 1] 3),Pr.pts PA (dV 1 0 (.slice ao 4 co) (.slice none 0 0) 0),Pr.pts PB (dV 1 0 (.slice a7 3 c7) (.slice none 0 0) 0),fO (.slice ao 4 co) ys fQ,big rowsOf (ys.zip fQ),Row 89 4 (.slice a7 3 c7) 3 ((zs.zip (fh.take 2)).flatMap eZ++ [.slice (some ⟨BN,0,none⟩) 1 1,.slice (some ⟨BN+1,0,none⟩) 2 2,.int .i64 0,.int .i64 2]),big rowsOf (zs.zip (fh.take 2)++ [((.slice (some ⟨BN,0,none⟩) 1 1,.slice (some ⟨BN+1,0,none⟩) 2 2),eG 114)]),Pr.own hg,F])
         case measure=>simp [intOf]
       · cases aC.1 mR
         have hs1:=(HS.af.alloc (.cells #[.int .u8 114,.int .u8 114] 5)).alloc (.cells #[.int .u8 114] 5);rw [show (wr.alloc (.cells #[.int .u8 114,.int .u8 114] 5)).heap.size=wr.heap.size+1 by simp] at hs1;have fN:=(eR.af.alloc (.cells #[.int .u8 114,.int .u8 114] 5)).alloc (.cells #[.int .u8 114] 5);have ig:=hQ hs1;have eQ:=hQ fN;clear hs1 fN;refine dK rfl ?_;go_wp2
         refine dQ ?_;refine dU ⟨?_,?_⟩
         · exact cQ
         refine dK rfl ?_;go_wp2;refine dQ ?_;refine dY _ rfl rfl ?_;simp only [pick,pQ];iterate 1 (go_big_quiet_step (fail))
         refine wpQuiet_nil ⟨?_,?_⟩
         · exact cQ
         refine dK rfl ?_;have hs1:=ig.af;have fN:=eQ.af;clear ig eQ c1;generalize (wr.alloc (.cells #[.int .u8 114,.int .u8 114] 5)).alloc (.cells #[.int .u8 114] 5)=w2 at*;generalize wr.heap.size=BN at*;have c1:=hs1.fx
         have hs2:=(hs1.alloc (.cells #[.slice (some ⟨BN+1,0,none⟩) 1 1,.slice (some ⟨BN,0,none⟩) 2 2,.int .i64 0,.int .i64 2] 89)).drew;have H1:=hQ (hs2.ej (A1:=Row 89 4 (.slice bo 2 do') 2 ((zs.zip (fh.take 2)).flatMap eZ)));have HC:=hQ (eW w2 [.slice (some ⟨BN+1,0,none⟩) 1 1,.slice (some ⟨BN,0,none⟩) 2 2,.int .i64 0,.int .i64 2] 89 w2.heap.size rfl)
         have fa:=hQ (fN.alloc (.cells #[.slice (some ⟨BN+1,0,none⟩) 1 1,.slice (some ⟨BN,0,none⟩) 2 2,.int .i64 0,.int .i64 2] 89)).drew;clear hs1 hs2 fN;go_wp2;refine dQ ?_;refine dU ⟨?_,?_⟩
         · exact cQ
         refine dK rfl ?_;refine ff rfl _ _ _ rfl 89 i0 _ 4 64 Tryz.underlying81 lk hz0 hz1 jg rfl _ _ _ rfl H1.af ⟨w2.heap.size,0,none⟩ 1 1 _ rfl rfl HC.af (by simp [Value.oneCell']) (by simp only [maxLen];omega) (by omega) (fun v7 w7 gZ lC K0 lS=> ?_);obtain⟨a7,c7,e7,_,_⟩:=Row.read gZ;subst e7;clear c1;have gp:=dS.kS gZ;have c1:=gp.fx;have mI:=hQ gp;have iN:=hQ (fa.af.eH lC);clear gZ gp lC H1 HC fa;go_simp;refine lS _ ?_;clear lS K0;refine wpList_nil ?_;refine dQ ?_;refine dY _ rfl rfl ?_;simp only [pick,pQ];iterate 1 (go_big_quiet_step (fail))
         refine wpQuiet_nil ⟨?_,?_⟩
         · exact cQ
         refine dK rfl ?_;go_wp2;refine dQ ?_;refine dU ⟨?_,?_⟩
         · exact eM
         refine dW ?_;go_wp2;go_roundw
         case rel=>
          have h9:=mI.af.set PB 2 (.slice a7 3 c7);have h10:=(h9.turn (Pr.pts (BN+1) (.cells #[.int .u8 114] 5)) (dM (.slice (some ⟨BN+1,0,none⟩) 1 1) [114]) (fe rfl (by simp [maxLen]))).turn (Pr.pts (BN) (.cells #[.int .u8 114,.int .u8 114] 5)) (dM (.slice (some ⟨BN,0,none⟩) 2 2) [114,114]) (fe rfl (by simp [maxLen]))
          have h12:=h10.jk (dM (.slice (some ⟨BN+1,0,none⟩) 1 1) [114]) (dM (.slice (some ⟨BN,0,none⟩) 2 2) [114,114]);have qt:dS (rowsOf ((.slice (some ⟨BN+1,0,none⟩) 1 1,.slice (some ⟨BN,0,none⟩) 2 2),eG 114) :: _) _:=h12;have rk:=qt.snoc rowsOf (zs.zip (fh.take 2)) ((.slice (some ⟨BN+1,0,none⟩) 1 1,.slice (some ⟨BN,0,none⟩) 2 2),eG 114)
          have e:(zs++ [(Value.slice (some ⟨BN+1,0,none⟩) 1 1,Value.slice (some ⟨BN,0,none⟩) 2 2)]).zip (fh.take 3)=zs.zip (fh.take 2)++ [((Value.slice (some ⟨BN+1,0,none⟩) 1 1,Value.slice (some ⟨BN,0,none⟩) 2 2),eG 114)]:=by
           rw [show fh.take 3=fh.take 2++ [eG 114] from rfl,bD (by rw [sl.af];rfl)];rfl
          refine⟨3,.slice a7 3 c7,zs++ [(.slice (some ⟨BN+1,0,none⟩) 1 1,.slice (some ⟨BN,0,none⟩) 2 2)],by omega,by rw [au,sl.af];rfl,rfl,iN.af.setCell _ _,?_⟩;rw [e,aN]
          exact rk.to (M:= [Pr.pts IB (iZ 2 (.slice (some ⟨CB,0,none⟩) 3 3) (.slice none 0 0) (.slice none 0 0)),Pr.pts CB (.cells #[.int .i64 1,.int .i64 1,.int .i64 1] 3),Pr.pts PA (dV 1 0 (.slice ao 4 co) (.slice none 0 0) 0),Pr.pts PB (dV 1 0 (.slice a7 3 c7) (.slice none 0 0) 0),fO (.slice ao 4 co) ys fQ,big rowsOf (ys.zip fQ),Row 89 4 (.slice a7 3 c7) 3 ((zs.zip (fh.take 2)).flatMap eZ++ [.slice (some ⟨BN+1,0,none⟩) 1 1,.slice (some ⟨BN,0,none⟩) 2 2,.int .i64 0,.int .i64 2]),big rowsOf (zs.zip (fh.take 2)++ [((.slice (some ⟨BN+1,0,none⟩) 1 1,.slice (some ⟨BN,0,none⟩) 2 2),eG 114)]),Pr.own hg,F])
         case measure=>simp [intOf]
     · go_wp2_with fail
       refine fS (sz:=155) (by kernel_rfl) [0,1,2,3,4,6,7,8,9,10,11] [(5,[],[0,1,2,3,6,7,8,9,10,11],[(12,[13],[0,1,2,3,6,7,9,10]),(14,[],[0,1,2,3,6,7,9,10]),(15,[16],[0,2,3,6,7,9,10]),(17,[],[])]),(12,[],[0,1,2,3,4,6,7,9,10],[(5,[13],[0,1,2,3,6,7,9,10]),(14,[],[0,1,2,3,6,7,9,10]),(15,[16],[0,2,3,6,7,9,10]),(17,[],[])])] rfl (by kernel_rfl) (by kernel_rfl) (by kernel_rfl) ?_
       refine dY _ rfl rfl ?_;simp only [pick,pQ];iterate 11 (go_big_quiet_step (fail))
       refine wpQuiet_nil ?_;rw [show (((ByteArray.mk #[109,112,114,116,118])[3]'(by decide)).toNat:Int)=116 from rfl];intro sx mR;rcases aR.1 mR with rfl | mR
       · have hs1:=(HS.af.alloc (.cells #[.int .u8 116] 5)).alloc (.cells #[.int .u8 116,.int .u8 116] 5)
         rw [show (wr.alloc (.cells #[.int .u8 116] 5)).heap.size=wr.heap.size+1 by simp] at hs1;have fN:=(eR.af.alloc (.cells #[.int .u8 116] 5)).alloc (.cells #[.int .u8 116,.int .u8 116] 5);have ig:=hQ hs1;have eQ:=hQ fN;clear hs1 fN;refine dK rfl ?_;go_wp2;refine dQ ?_;refine dU ⟨?_,?_⟩
         · exact cQ
         refine dK rfl ?_;go_wp2;refine dQ ?_;refine dY _ rfl rfl ?_;simp only [pick,pQ];iterate 1 (go_big_quiet_step (fail))
         refine wpQuiet_nil ⟨?_,?_⟩
         · exact cQ
         refine dK rfl ?_;have hs1:=ig.af;have fN:=eQ.af;clear ig eQ c1;generalize (wr.alloc (.cells #[.int .u8 116] 5)).alloc (.cells #[.int .u8 116,.int .u8 116] 5)=w2 at*;generalize wr.heap.size=BN at*;have c1:=hs1.fx
         have hs2:=(hs1.alloc (.cells #[.slice (some ⟨BN,0,none⟩) 1 1,.slice (some ⟨BN+1,0,none⟩) 2 2,.int .i64 0,.int .i64 2] 89)).drew;have H1:=hQ (hs2.ej (A1:=Row 89 4 (.slice bo 3 do') 3 ((zs.zip (fh.take 3)).flatMap eZ)));have HC:=hQ (eW w2 [.slice (some ⟨BN,0,none⟩) 1 1,.slice (some ⟨BN+1,0,none⟩) 2 2,.int .i64 0,.int .i64 2] 89 w2.heap.size rfl)
         have fa:=hQ (fN.alloc (.cells #[.slice (some ⟨BN,0,none⟩) 1 1,.slice (some ⟨BN+1,0,none⟩) 2 2,.int .i64 0,.int .i64 2] 89)).drew;clear hs1 hs2 fN;go_wp2;refine dQ ?_;refine dU ⟨?_,?_⟩
         · exact cQ
         refine dK rfl ?_;refine ff rfl _ _ _ rfl 89 i0 _ 4 64 Tryz.underlying81 lk hz0 hz1 jg rfl _ _ _ rfl H1.af ⟨w2.heap.size,0,none⟩ 1 1 _ rfl rfl HC.af (by simp [Value.oneCell']) (by simp only [maxLen];omega) (by omega) (fun v7 w7 gZ lC K0 lS=> ?_);obtain⟨a7,c7,e7,_,_⟩:=Row.read gZ;subst e7;clear c1;have gp:=dS.kS gZ;have c1:=gp.fx;have mI:=hQ gp;have iN:=hQ (fa.af.eH lC);clear gZ gp lC H1 HC fa;go_simp;refine lS _ ?_;clear lS K0;refine wpList_nil ?_;refine dQ ?_;refine dY _ rfl rfl ?_;simp only [pick,pQ];iterate 1 (go_big_quiet_step (fail))
         refine wpQuiet_nil ⟨?_,?_⟩
         · exact cQ
         refine dK rfl ?_;go_wp2;refine dQ ?_;refine dU ⟨?_,?_⟩
         · exact eM
         refine dW ?_;go_wp2;go_roundw
         case rel=>
          have h9:=mI.af.set PB 2 (.slice a7 4 c7);have h10:=(h9.turn (Pr.pts (BN) (.cells #[.int .u8 116] 5)) (dM (.slice (some ⟨BN,0,none⟩) 1 1) [116]) (fe rfl (by simp [maxLen]))).turn (Pr.pts (BN+1) (.cells #[.int .u8 116,.int .u8 116] 5)) (dM (.slice (some ⟨BN+1,0,none⟩) 2 2) [116,116]) (fe rfl (by simp [maxLen]))
          have h12:=h10.jk (dM (.slice (some ⟨BN,0,none⟩) 1 1) [116]) (dM (.slice (some ⟨BN+1,0,none⟩) 2 2) [116,116]);have qt:dS (rowsOf ((.slice (some ⟨BN,0,none⟩) 1 1,.slice (some ⟨BN+1,0,none⟩) 2 2),eG 116) :: _) _:=h12;have rk:=qt.snoc rowsOf (zs.zip (fh.take 3)) ((.slice (some ⟨BN,0,none⟩) 1 1,.slice (some ⟨BN+1,0,none⟩) 2 2),eG 116)
          have e:(zs++ [(Value.slice (some ⟨BN,0,none⟩) 1 1,Value.slice (some ⟨BN+1,0,none⟩) 2 2)]).zip (fh.take 4)=zs.zip (fh.take 3)++ [((Value.slice (some ⟨BN,0,none⟩) 1 1,Value.slice (some ⟨BN+1,0,none⟩) 2 2),eG 116)]:=by
           rw [show fh.take 4=fh.take 3++ [eG 116] from rfl,bD (by rw [sl.af];rfl)];rfl
          refine⟨4,.slice a7 4 c7,zs++ [(.slice (some ⟨BN,0,none⟩) 1 1,.slice (some ⟨BN+1,0,none⟩) 2 2)],by omega,by rw [au,sl.af];rfl,rfl,iN.af.setCell _ _,?_⟩;rw [e,aN]
          exact rk.to (M:= [Pr.pts IB (iZ 2 (.slice (some ⟨CB,0,none⟩) 3 3) (.slice none 0 0) (.slice none 0 0)),Pr.pts CB (.cells #[.int .i64 1,.int .i64 1,.int .i64 1] 3),Pr.pts PA (dV 1 0 (.slice ao 4 co) (.slice none 0 0) 0),Pr.pts PB (dV 1 0 (.slice a7 4 c7) (.slice none 0 0) 0),fO (.slice ao 4 co) ys fQ,big rowsOf (ys.zip fQ),Row 89 4 (.slice a7 4 c7) 4 ((zs.zip (fh.take 3)).flatMap eZ++ [.slice (some ⟨BN,0,none⟩) 1 1,.slice (some ⟨BN+1,0,none⟩) 2 2,.int .i64 0,.int .i64 2]),big rowsOf (zs.zip (fh.take 3)++ [((.slice (some ⟨BN,0,none⟩) 1 1,.slice (some ⟨BN+1,0,none⟩) 2 2),eG 116)]),Pr.own hg,F])
         case measure=>simp [intOf]
       · cases aC.1 mR
         have hs1:=(HS.af.alloc (.cells #[.int .u8 116,.int .u8 116] 5)).alloc (.cells #[.int .u8 116] 5);rw [show (wr.alloc (.cells #[.int .u8 116,.int .u8 116] 5)).heap.size=wr.heap.size+1 by simp] at hs1;have fN:=(eR.af.alloc (.cells #[.int .u8 116,.int .u8 116] 5)).alloc (.cells #[.int .u8 116] 5);have ig:=hQ hs1;have eQ:=hQ fN;clear hs1 fN;refine dK rfl ?_;go_wp2
         refine dQ ?_;refine dU ⟨?_,?_⟩
         · exact cQ
         refine dK rfl ?_;go_wp2;refine dQ ?_;refine dY _ rfl rfl ?_;simp only [pick,pQ];iterate 1 (go_big_quiet_step (fail))
         refine wpQuiet_nil ⟨?_,?_⟩
         · exact cQ
         refine dK rfl ?_;have hs1:=ig.af;have fN:=eQ.af;clear ig eQ c1;generalize (wr.alloc (.cells #[.int .u8 116,.int .u8 116] 5)).alloc (.cells #[.int .u8 116] 5)=w2 at*;generalize wr.heap.size=BN at*;have c1:=hs1.fx
         have hs2:=(hs1.alloc (.cells #[.slice (some ⟨BN+1,0,none⟩) 1 1,.slice (some ⟨BN,0,none⟩) 2 2,.int .i64 0,.int .i64 2] 89)).drew;have H1:=hQ (hs2.ej (A1:=Row 89 4 (.slice bo 3 do') 3 ((zs.zip (fh.take 3)).flatMap eZ)));have HC:=hQ (eW w2 [.slice (some ⟨BN+1,0,none⟩) 1 1,.slice (some ⟨BN,0,none⟩) 2 2,.int .i64 0,.int .i64 2] 89 w2.heap.size rfl)
         have fa:=hQ (fN.alloc (.cells #[.slice (some ⟨BN+1,0,none⟩) 1 1,.slice (some ⟨BN,0,none⟩) 2 2,.int .i64 0,.int .i64 2] 89)).drew;clear hs1 hs2 fN;go_wp2;refine dQ ?_;refine dU ⟨?_,?_⟩
         · exact cQ
         refine dK rfl ?_;refine ff rfl _ _ _ rfl 89 i0 _ 4 64 Tryz.underlying81 lk hz0 hz1 jg rfl _ _ _ rfl H1.af ⟨w2.heap.size,0,none⟩ 1 1 _ rfl rfl HC.af (by simp [Value.oneCell']) (by simp only [maxLen];omega) (by omega) (fun v7 w7 gZ lC K0 lS=> ?_);obtain⟨a7,c7,e7,_,_⟩:=Row.read gZ;subst e7;clear c1;have gp:=dS.kS gZ;have c1:=gp.fx;have mI:=hQ gp;have iN:=hQ (fa.af.eH lC);clear gZ gp lC H1 HC fa;go_simp;refine lS _ ?_;clear lS K0;refine wpList_nil ?_;refine dQ ?_;refine dY _ rfl rfl ?_;simp only [pick,pQ];iterate 1 (go_big_quiet_step (fail))
         refine wpQuiet_nil ⟨?_,?_⟩
         · exact cQ
         refine dK rfl ?_;go_wp2;refine dQ ?_;refine dU ⟨?_,?_⟩
         · exact eM
         refine dW ?_;go_wp2;go_roundw
         case rel=>
          have h9:=mI.af.set PB 2 (.slice a7 4 c7);have h10:=(h9.turn (Pr.pts (BN+1) (.cells #[.int .u8 116] 5)) (dM (.slice (some ⟨BN+1,0,none⟩) 1 1) [116]) (fe rfl (by simp [maxLen]))).turn (Pr.pts (BN) (.cells #[.int .u8 116,.int .u8 116] 5)) (dM (.slice (some ⟨BN,0,none⟩) 2 2) [116,116]) (fe rfl (by simp [maxLen]))
          have h12:=h10.jk (dM (.slice (some ⟨BN+1,0,none⟩) 1 1) [116]) (dM (.slice (some ⟨BN,0,none⟩) 2 2) [116,116]);have qt:dS (rowsOf ((.slice (some ⟨BN+1,0,none⟩) 1 1,.slice (some ⟨BN,0,none⟩) 2 2),eG 116) :: _) _:=h12;have rk:=qt.snoc rowsOf (zs.zip (fh.take 3)) ((.slice (some ⟨BN+1,0,none⟩) 1 1,.slice (some ⟨BN,0,none⟩) 2 2),eG 116)
          have e:(zs++ [(Value.slice (some ⟨BN+1,0,none⟩) 1 1,Value.slice (some ⟨BN,0,none⟩) 2 2)]).zip (fh.take 4)=zs.zip (fh.take 3)++ [((Value.slice (some ⟨BN+1,0,none⟩) 1 1,Value.slice (some ⟨BN,0,none⟩) 2 2),eG 116)]:=by
           rw [show fh.take 4=fh.take 3++ [eG 116] from rfl,bD (by rw [sl.af];rfl)];rfl
          refine⟨4,.slice a7 4 c7,zs++ [(.slice (some ⟨BN+1,0,none⟩) 1 1,.slice (some ⟨BN,0,none⟩) 2 2)],by omega,by rw [au,sl.af];rfl,rfl,iN.af.setCell _ _,?_⟩;rw [e,aN]
          exact rk.to (M:= [Pr.pts IB (iZ 2 (.slice (some ⟨CB,0,none⟩) 3 3) (.slice none 0 0) (.slice none 0 0)),Pr.pts CB (.cells #[.int .i64 1,.int .i64 1,.int .i64 1] 3),Pr.pts PA (dV 1 0 (.slice ao 4 co) (.slice none 0 0) 0),Pr.pts PB (dV 1 0 (.slice a7 4 c7) (.slice none 0 0) 0),fO (.slice ao 4 co) ys fQ,big rowsOf (ys.zip fQ),Row 89 4 (.slice a7 4 c7) 4 ((zs.zip (fh.take 3)).flatMap eZ++ [.slice (some ⟨BN+1,0,none⟩) 1 1,.slice (some ⟨BN,0,none⟩) 2 2,.int .i64 0,.int .i64 2]),big rowsOf (zs.zip (fh.take 3)++ [((.slice (some ⟨BN+1,0,none⟩) 1 1,.slice (some ⟨BN,0,none⟩) 2 2),eG 116)]),Pr.own hg,F])
         case measure=>simp [intOf]
     · go_wp2_with fail
       refine fS (sz:=155) (by kernel_rfl) [0,1,2,3,4,6,7,8,9,10,11] [(5,[],[0,1,2,3,6,7,8,9,10,11],[(12,[13],[0,1,2,3,6,7,9,10]),(14,[],[0,1,2,3,6,7,9,10]),(15,[16],[0,2,3,6,7,9,10]),(17,[],[])]),(12,[],[0,1,2,3,4,6,7,9,10],[(5,[13],[0,1,2,3,6,7,9,10]),(14,[],[0,1,2,3,6,7,9,10]),(15,[16],[0,2,3,6,7,9,10]),(17,[],[])])] rfl (by kernel_rfl) (by kernel_rfl) (by kernel_rfl) ?_
       refine dY _ rfl rfl ?_;simp only [pick,pQ];iterate 11 (go_big_quiet_step (fail))
       refine wpQuiet_nil ?_;rw [show (((ByteArray.mk #[109,112,114,116,118])[4]'(by decide)).toNat:Int)=118 from rfl];intro sx mR;rcases aR.1 mR with rfl | mR
       · have hs1:=(HS.af.alloc (.cells #[.int .u8 118] 5)).alloc (.cells #[.int .u8 118,.int .u8 118] 5)
         rw [show (wr.alloc (.cells #[.int .u8 118] 5)).heap.size=wr.heap.size+1 by simp] at hs1;have fN:=(eR.af.alloc (.cells #[.int .u8 118] 5)).alloc (.cells #[.int .u8 118,.int .u8 118] 5);have ig:=hQ hs1;have eQ:=hQ fN;clear hs1 fN;refine dK rfl ?_;go_wp2;refine dQ ?_;refine dU ⟨?_,?_⟩
         · exact cQ
         refine dK rfl ?_;go_wp2;refine dQ ?_;refine dY _ rfl rfl ?_;simp only [pick,pQ];iterate 1 (go_big_quiet_step (fail))
         refine wpQuiet_nil ⟨?_,?_⟩
         · exact cQ
         refine dK rfl ?_;have hs1:=ig.af;have fN:=eQ.af;clear ig eQ c1;generalize (wr.alloc (.cells #[.int .u8 118] 5)).alloc (.cells #[.int .u8 118,.int .u8 118] 5)=w2 at*;generalize wr.heap.size=BN at*;have c1:=hs1.fx
         have hs2:=(hs1.alloc (.cells #[.slice (some ⟨BN,0,none⟩) 1 1,.slice (some ⟨BN+1,0,none⟩) 2 2,.int .i64 0,.int .i64 2] 89)).drew;have H1:=hQ (hs2.ej (A1:=Row 89 4 (.slice bo 4 do') 4 ((zs.zip (fh.take 4)).flatMap eZ)));have HC:=hQ (eW w2 [.slice (some ⟨BN,0,none⟩) 1 1,.slice (some ⟨BN+1,0,none⟩) 2 2,.int .i64 0,.int .i64 2] 89 w2.heap.size rfl)
         have fa:=hQ (fN.alloc (.cells #[.slice (some ⟨BN,0,none⟩) 1 1,.slice (some ⟨BN+1,0,none⟩) 2 2,.int .i64 0,.int .i64 2] 89)).drew;clear hs1 hs2 fN;go_wp2;refine dQ ?_;refine dU ⟨?_,?_⟩
         · exact cQ
         refine dK rfl ?_;refine ff rfl _ _ _ rfl 89 i0 _ 4 64 Tryz.underlying81 lk hz0 hz1 jg rfl _ _ _ rfl H1.af ⟨w2.heap.size,0,none⟩ 1 1 _ rfl rfl HC.af (by simp [Value.oneCell']) (by simp only [maxLen];omega) (by omega) (fun v7 w7 gZ lC K0 lS=> ?_);obtain⟨a7,c7,e7,_,_⟩:=Row.read gZ;subst e7;clear c1;have gp:=dS.kS gZ;have c1:=gp.fx;have mI:=hQ gp;have iN:=hQ (fa.af.eH lC);clear gZ gp lC H1 HC fa;go_simp;refine lS _ ?_;clear lS K0;refine wpList_nil ?_;refine dQ ?_;refine dY _ rfl rfl ?_;simp only [pick,pQ];iterate 1 (go_big_quiet_step (fail))
         refine wpQuiet_nil ⟨?_,?_⟩
         · exact cQ
         refine dK rfl ?_;go_wp2;refine dQ ?_;refine dU ⟨?_,?_⟩
         · exact eM
         refine dW ?_;go_wp2;go_roundw
         case rel=>
          have h9:=mI.af.set PB 2 (.slice a7 5 c7);have h10:=(h9.turn (Pr.pts (BN) (.cells #[.int .u8 118] 5)) (dM (.slice (some ⟨BN,0,none⟩) 1 1) [118]) (fe rfl (by simp [maxLen]))).turn (Pr.pts (BN+1) (.cells #[.int .u8 118,.int .u8 118] 5)) (dM (.slice (some ⟨BN+1,0,none⟩) 2 2) [118,118]) (fe rfl (by simp [maxLen]))
          have h12:=h10.jk (dM (.slice (some ⟨BN,0,none⟩) 1 1) [118]) (dM (.slice (some ⟨BN+1,0,none⟩) 2 2) [118,118]);have qt:dS (rowsOf ((.slice (some ⟨BN,0,none⟩) 1 1,.slice (some ⟨BN+1,0,none⟩) 2 2),eG 118) :: _) _:=h12;have rk:=qt.snoc rowsOf (zs.zip (fh.take 4)) ((.slice (some ⟨BN,0,none⟩) 1 1,.slice (some ⟨BN+1,0,none⟩) 2 2),eG 118)
          have e:(zs++ [(Value.slice (some ⟨BN,0,none⟩) 1 1,Value.slice (some ⟨BN+1,0,none⟩) 2 2)]).zip (fh.take 5)=zs.zip (fh.take 4)++ [((Value.slice (some ⟨BN,0,none⟩) 1 1,Value.slice (some ⟨BN+1,0,none⟩) 2 2),eG 118)]:=by
           rw [show fh.take 5=fh.take 4++ [eG 118] from rfl,bD (by rw [sl.af];rfl)];rfl
          refine⟨5,.slice a7 5 c7,zs++ [(.slice (some ⟨BN,0,none⟩) 1 1,.slice (some ⟨BN+1,0,none⟩) 2 2)],by omega,by rw [au,sl.af];rfl,rfl,iN.af.setCell _ _,?_⟩;rw [e,aN]
          exact rk.to (M:= [Pr.pts IB (iZ 2 (.slice (some ⟨CB,0,none⟩) 3 3) (.slice none 0 0) (.slice none 0 0)),Pr.pts CB (.cells #[.int .i64 1,.int .i64 1,.int .i64 1] 3),Pr.pts PA (dV 1 0 (.slice ao 4 co) (.slice none 0 0) 0),Pr.pts PB (dV 1 0 (.slice a7 5 c7) (.slice none 0 0) 0),fO (.slice ao 4 co) ys fQ,big rowsOf (ys.zip fQ),Row 89 4 (.slice a7 5 c7) 5 ((zs.zip (fh.take 4)).flatMap eZ++ [.slice (some ⟨BN,0,none⟩) 1 1,.slice (some ⟨BN+1,0,none⟩) 2 2,.int .i64 0,.int .i64 2]),big rowsOf (zs.zip (fh.take 4)++ [((.slice (some ⟨BN,0,none⟩) 1 1,.slice (some ⟨BN+1,0,none⟩) 2 2),eG 118)]),Pr.own hg,F])
         case measure=>simp [intOf]
       · cases aC.1 mR
         have hs1:=(HS.af.alloc (.cells #[.int .u8 118,.int .u8 118] 5)).alloc (.cells #[.int .u8 118] 5);rw [show (wr.alloc (.cells #[.int .u8 118,.int .u8 118] 5)).heap.size=wr.heap.size+1 by simp] at hs1;have fN:=(eR.af.alloc (.cells #[.int .u8 118,.int .u8 118] 5)).alloc (.cells #[.int .u8 118] 5);have ig:=hQ hs1;have eQ:=hQ fN;clear hs1 fN;refine dK rfl ?_;go_wp2
         refine dQ ?_;refine dU ⟨?_,?_⟩
         · exact cQ
         refine dK rfl ?_;go_wp2;refine dQ ?_;refine dY _ rfl rfl ?_;simp only [pick,pQ];iterate 1 (go_big_quiet_step (fail))
         refine wpQuiet_nil ⟨?_,?_⟩
         · exact cQ
         refine dK rfl ?_;have hs1:=ig.af;have fN:=eQ.af;clear ig eQ c1;generalize (wr.alloc (.cells #[.int .u8 118,.int .u8 118] 5)).alloc (.cells #[.int .u8 118] 5)=w2 at*;generalize wr.heap.size=BN at*;have c1:=hs1.fx
         have hs2:=(hs1.alloc (.cells #[.slice (some ⟨BN+1,0,none⟩) 1 1,.slice (some ⟨BN,0,none⟩) 2 2,.int .i64 0,.int .i64 2] 89)).drew;have H1:=hQ (hs2.ej (A1:=Row 89 4 (.slice bo 4 do') 4 ((zs.zip (fh.take 4)).flatMap eZ)));have HC:=hQ (eW w2 [.slice (some ⟨BN+1,0,none⟩) 1 1,.slice (some ⟨BN,0,none⟩) 2 2,.int .i64 0,.int .i64 2] 89 w2.heap.size rfl)
         have fa:=hQ (fN.alloc (.cells #[.slice (some ⟨BN+1,0,none⟩) 1 1,.slice (some ⟨BN,0,none⟩) 2 2,.int .i64 0,.int .i64 2] 89)).drew;clear hs1 hs2 fN;go_wp2;refine dQ ?_;refine dU ⟨?_,?_⟩
         · exact cQ
         refine dK rfl ?_;refine ff rfl _ _ _ rfl 89 i0 _ 4 64 Tryz.underlying81 lk hz0 hz1 jg rfl _ _ _ rfl H1.af ⟨w2.heap.size,0,none⟩ 1 1 _ rfl rfl HC.af (by simp [Value.oneCell']) (by simp only [maxLen];omega) (by omega) (fun v7 w7 gZ lC K0 lS=> ?_);obtain⟨a7,c7,e7,_,_⟩:=Row.read gZ;subst e7;clear c1;have gp:=dS.kS gZ;have c1:=gp.fx;have mI:=hQ gp;have iN:=hQ (fa.af.eH lC);clear gZ gp lC H1 HC fa;go_simp;refine lS _ ?_;clear lS K0;refine wpList_nil ?_;refine dQ ?_;refine dY _ rfl rfl ?_;simp only [pick,pQ];iterate 1 (go_big_quiet_step (fail))
         refine wpQuiet_nil ⟨?_,?_⟩
         · exact cQ
         refine dK rfl ?_;go_wp2;refine dQ ?_;refine dU ⟨?_,?_⟩
         · exact eM
         refine dW ?_;go_wp2;go_roundw
         case rel=>
          have h9:=mI.af.set PB 2 (.slice a7 5 c7);have h10:=(h9.turn (Pr.pts (BN+1) (.cells #[.int .u8 118] 5)) (dM (.slice (some ⟨BN+1,0,none⟩) 1 1) [118]) (fe rfl (by simp [maxLen]))).turn (Pr.pts (BN) (.cells #[.int .u8 118,.int .u8 118] 5)) (dM (.slice (some ⟨BN,0,none⟩) 2 2) [118,118]) (fe rfl (by simp [maxLen]))
          have h12:=h10.jk (dM (.slice (some ⟨BN+1,0,none⟩) 1 1) [118]) (dM (.slice (some ⟨BN,0,none⟩) 2 2) [118,118]);have qt:dS (rowsOf ((.slice (some ⟨BN+1,0,none⟩) 1 1,.slice (some ⟨BN,0,none⟩) 2 2),eG 118) :: _) _:=h12;have rk:=qt.snoc rowsOf (zs.zip (fh.take 4)) ((.slice (some ⟨BN+1,0,none⟩) 1 1,.slice (some ⟨BN,0,none⟩) 2 2),eG 118)
          have e:(zs++ [(Value.slice (some ⟨BN+1,0,none⟩) 1 1,Value.slice (some ⟨BN,0,none⟩) 2 2)]).zip (fh.take 5)=zs.zip (fh.take 4)++ [((Value.slice (some ⟨BN+1,0,none⟩) 1 1,Value.slice (some ⟨BN,0,none⟩) 2 2),eG 118)]:=by
           rw [show fh.take 5=fh.take 4++ [eG 118] from rfl,bD (by rw [sl.af];rfl)];rfl
          refine⟨5,.slice a7 5 c7,zs++ [(.slice (some ⟨BN+1,0,none⟩) 1 1,.slice (some ⟨BN,0,none⟩) 2 2)],by omega,by rw [au,sl.af];rfl,rfl,iN.af.setCell _ _,?_⟩;rw [e,aN]
          exact rk.to (M:= [Pr.pts IB (iZ 2 (.slice (some ⟨CB,0,none⟩) 3 3) (.slice none 0 0) (.slice none 0 0)),Pr.pts CB (.cells #[.int .i64 1,.int .i64 1,.int .i64 1] 3),Pr.pts PA (dV 1 0 (.slice ao 4 co) (.slice none 0 0) 0),Pr.pts PB (dV 1 0 (.slice a7 5 c7) (.slice none 0 0) 0),fO (.slice ao 4 co) ys fQ,big rowsOf (ys.zip fQ),Row 89 4 (.slice a7 5 c7) 5 ((zs.zip (fh.take 4)).flatMap eZ++ [.slice (some ⟨BN+1,0,none⟩) 1 1,.slice (some ⟨BN,0,none⟩) 2 2,.int .i64 0,.int .i64 2]),big rowsOf (zs.zip (fh.take 4)++ [((.slice (some ⟨BN+1,0,none⟩) 1 1,.slice (some ⟨BN,0,none⟩) 2 2),eG 118)]),Pr.own hg,F])
         case measure=>simp [intOf]
     · have hs1:dS [Pr.pts IB (iZ 2 (.slice (some ⟨CB,0,none⟩) 3 3) (.slice none 0 0) (.slice none 0 0)),Pr.pts CB (.cells #[.int .i64 1,.int .i64 1,.int .i64 1] 3),Pr.pts PA (dV 1 0 (.slice ao 4 co) (.slice none 0 0) 0),Pr.pts PB (dV 1 0 (.slice bo 5 do') (.slice none 0 0) 0),fO (.slice ao 4 co) ys fQ,big rowsOf (ys.zip fQ),fO (.slice bo 5 do') zs fh,big rowsOf (zs.zip fh),Pr.own hg,F] wr:=HS.af
       have es:∀(u:World) (o:Obj),(u.alloc o).heap.size=u.heap.size+1:=fun u o=>by simp
       have SY:=Go.Joins.run_convert_bytes_const_at (P:=Tryz.prog) wr 42 5 #[.int .u8 109] 1 1 wr.heap.size rfl Tryz.underlying42 Tryz.underlying5;have Rj:=((hs1.alloc (cO 109)).alloc (jO wr.heap.size)).alloc (dV 2 1 (.slice (some ⟨wr.heap.size+1,0,none⟩) 2 2) (.slice none 0 0) 0);simp only [es] at Rj;have c2:=Rj.fx
       have hs2:=(((hs1.alloc (cO 109)).alloc (jO wr.heap.size)).alloc (dV 2 1 (.slice (some ⟨wr.heap.size+1,0,none⟩) 2 2) (.slice none 0 0) 0)).alloc (nO wr.heap.size ao bo co do');simp only [es] at hs2;have c3:=hs2.fx;have fP:=hs2.set IB 2 (.slice (some ⟨wr.heap.size+1+1+1,0,none⟩) 3 3)
       have mF:=((((eR.af.alloc (cO 109)).alloc (jO wr.heap.size)).alloc (dV 2 1 (.slice (some ⟨wr.heap.size+1,0,none⟩) 2 2) (.slice none 0 0) 0)).alloc (nO wr.heap.size ao bo co do')).setCell ⟨IB,2,none⟩ (.slice (some ⟨wr.heap.size+1+1+1,0,none⟩) 3 3)
       have fp:=fP.to (M:= [Pr.pts CB (.cells #[.int .i64 1,.int .i64 1,.int .i64 1] 3),fO (.slice ao 4 co) ys fQ,big rowsOf (ys.zip fQ),fO (.slice bo 5 do') zs fh,big rowsOf (zs.zip fh),Pr.pts wr.heap.size (cO 109),Pr.pts (wr.heap.size+1) (jO wr.heap.size),Pr.pts (wr.heap.size+1+1+1) (nO wr.heap.size ao bo co do'),Pr.own hg,F])
       obtain⟨h,hh,gu⟩:=Sat.sf (A:=eJ [Pr.pts CB (.cells #[.int .i64 1,.int .i64 1,.int .i64 1] 3),fO (.slice ao 4 co) ys fQ,big rowsOf (ys.zip fQ),fO (.slice bo 5 do') zs fh,big rowsOf (zs.zip fh),Pr.pts wr.heap.size (cO 109),Pr.pts (wr.heap.size+1) (jO wr.heap.size),Pr.pts (wr.heap.size+1+1+1) (nO wr.heap.size ao bo co do')]) (F:=(Pr.own hg).star F) (fp.sat.perm (by simp only [eJ,Pr.ei,Pr.dP]))
       obtain⟨hii,Wk⟩:=MM yK.af sl.af hh;have LO:=hQ (yq 2 h _ _ none 0 0 [1,1,1] Au hii Wk yC (by decide) _ _ gu);have gg:=hQ mF;clear HS hs1 hs2 Rj fP fp gu mF hh hii Wk eR yK sl es;go_wp2_with fail
       refine LO.af.mono ?_;rintro e w1 ⟨fN,(⟨vj,_⟩ | ⟨_,_,v,r,rfl,gQ⟩)⟩
       · rcases vj with h1 | h1
         · exact absurd uD h1
         · exact absurd h1 (by decide)
       have HL:D2.Looks (lN 2 [1,1,1] Uw) pL:=DN (sX uD);have Tm:iT pL:=yD uD yC;have gZ:dS [dZ v (lN 2 [1,1,1] Uw),kJ r (fA 2 [1,1,1] 0) (jK 3 Uw) (fM true),Pr.own h,Pr.own hg,F] w1:=⟨gQ.perm (by simp only [eJ,Pr.ei];rfl)⟩;generalize lN 2 [1,1,1] Uw=s at*;have ij:=hQ (gg.af.trans fN)
       have qo:=hQ (And.intro HL Tm);have rQ:=hQ (gZ.to (M:= [dZ v s,Pr.own hg,F]));clear gQ gZ fN LO gg c1 c2 c3 SY HL Tm;have SY:=Go.Joins.run_convert_bytes_const_at (P:=Tryz.prog) (w1.alloc (eT 3 2 9)) 42 5 #[.int .u8 112] 1 1 (w1.heap.size+1) (by simp) Tryz.underlying42 Tryz.underlying5;have gp:=(rQ.af.alloc (eT 3 2 9)).alloc (cO 112)
       rw [show (w1.alloc (eT 3 2 9)).heap.size=w1.heap.size+1 by simp] at gp;obtain⟨hk,hhk,gY⟩:=gp.arena (Pr.pts (w1.heap.size+1) (cO 112));have GT:=O1 v s pL qo.af.1 qo.af.2 hk _ [112] (uE hhk) (by simp [U8]) (by decide) 3 2 9 _ MJ _ _ (dS.xp (gY.iQ (A1:=dZ v s) (A2:=Pr.own hk)));rw [Rh.1,Rh.2.1,Rh.2.2] at GT;have HGT:=hQ GT
       have iM:=hQ ((ij.af.alloc (eT 3 2 9)).alloc (cO 112));clear gp gY hhk GT ij rQ;go_wp2_with fail
       refine HGT.af.mono ?_;rintro e w2 ⟨kU,o,rfl,gA⟩;have lu:=(gA.flat).to (M:= [dM o [112,112],Pr.pts w1.heap.size (eT 3 2 9),dZ v s,Pr.own hg,F]);obtain⟨Yz,gc,rfl⟩:=Row.shape (lu.ej (A1:=dM o [112,112]));generalize w1.heap.size=TB at*;have l9:=hQ (iM.af.trans kU);have Uz:=hQ lu;have c1:=lu.fx
       clear gA lu kU HGT iM SY;have YA:=Go.Joins.run_convert_bytes_const_at (P:=Tryz.prog) w2 42 5 #[.int .u8 101] 1 1 w2.heap.size rfl Tryz.underlying42 Tryz.underlying5;have YB:=Go.Joins.run_convert_bytes_const_at (P:=Tryz.prog) (w2.alloc (cO 101)) 42 5 #[.int .u8 112] 1 1 (w2.heap.size+1) (by simp) Tryz.underlying42 Tryz.underlying5
       have Rk:=(Uz.af.alloc (cO 101)).alloc (cO 112);rw [show (w2.alloc (cO 101)).heap.size=w2.heap.size+1 by simp] at Rk;obtain⟨hk2,UA,UB⟩:=(Rk.jk (Pr.pts w2.heap.size (cO 101)) (Pr.pts (w2.heap.size+1) (cO 112))).arena ((Pr.pts w2.heap.size (cO 101)).star (Pr.pts (w2.heap.size+1) (cO 112)));obtain⟨a1,a2,ha1,ha2,q1,q2⟩:=fF UA
       have LI:=D' v s pL qo.af.1 qo.af.2 3 2 9 _ MJ (.agg #[.slice (some ⟨w2.heap.size,0,none⟩) 1 1,.slice (some ⟨w2.heap.size+1,0,none⟩) 1 1,.bool false]) B5 hk2 ⟨_,_,rfl,(uE ha1).sub q1,(uE ha2).sub q2⟩ ⟨by simp [U8,B5],by simp [U8,B5]⟩ ⟨by decide,by decide⟩ _ _ (dS.xp (UB.iQ (A1:=dZ v s) (A2:=Pr.own hk2)));rw [Ux] at LI;have HLI:=hQ LI
       have iN:=hQ ((l9.af.alloc (cO 101)).alloc (cO 112));clear Rk UB UA ha1 ha2 q1 q2 LI l9 Uz;go_wp2_with fail
       refine HLI.af.mono ?_;rintro e w3 ⟨mF,lo,ps,rfl,hps,UC⟩;have Gt:=(UC.flat).to (M:= [eN lo ps,big d_ ps,dM (.slice Yz [112,112].length gc) [112,112],Pr.pts TB (eT 3 2 9),dZ v s,Pr.own hg,F]);have Cf:ps.length=3:=by have:=congrArg List.length hps;simpa using this
       obtain⟨⟨⟨k0,v0⟩,q0⟩,⟨⟨k1,v1⟩,q1⟩,⟨⟨k2,v2⟩,q2⟩,rfl⟩:=J5 Cf;simp only [aT,aZ,List.cons.injEq,and_true] at hps;obtain⟨rfl,rfl,rfl⟩:=hps;obtain⟨la,lc,rfl⟩:=Row.shape (Gt.ej (A1:=eN lo [((k0,v0),([101],[101,101])),((k1,v1),([103],[103,103])),((k2,v2),([109],[109,109]))]))
       obtain⟨_,_,e,_,PN⟩:=Row.read (Gt.ej (A1:=eN (.slice la 3 lc) [((k0,v0),([101],[101,101])),((k1,v1),([103],[103,103])),((k2,v2),([109],[109,109]))]));cases e;obtain⟨lb,rfl,UD⟩:=PN (by simp);have l4:w3.cell? ⟨lb,4,none⟩=some k2:=(UD 4 (by simp)).1;have lz:=ay _ _ l4;simp only at lz
       have yg:dS [dM k2 [109],dM v2 [109,109]] w3:=by
        have h1:=(((Gt.sE d_ ((k0,v0),([101],[101,101])) [((k1,v1),([103],[103,103])),((k2,v2),([109],[109,109]))]).yO (d_ ((k0,v0),([101],[101,101])))).sE d_ ((k1,v1),([103],[103,103])) [((k2,v2),([109],[109,109]))]).yO (d_ ((k1,v1),([103],[103,103])));have h2:=(h1.sE d_ ((k2,v2),([109],[109,109])) []).ER (A1:=d_ ((k2,v2),([109],[109,109])))
        exact⟨h2.perm (B:=(dM k2 [109]).star ((dM v2 [109,109]).star Pr.emp)) (by rw [Pr.ei];rfl)⟩
       obtain⟨ka,kc,rfl⟩:=Row.shape (yg.ej (A1:=dM k2 [109]));have hc1:(convert 42 9 (.slice Yz 2 gc)).run Tryz.prog w3= .ok (.string { data:= #[112,112] }) w3:=Eb (Gt.ej (A1:=dM (.slice Yz [112,112].length gc) [112,112])) (by simp)
       have o7:(convert 42 9 (.slice ka 1 kc)).run Tryz.prog w3= .ok (.string { data:= #[109] }) w3:=Eb (yg.ej (A1:=dM (.slice ka [109].length kc) [109])) (by simp);have YC:=hQ (Gt.to (M:= [Pr.pts TB (eT 3 2 9),dZ v s,Pr.own hg,F]));have YD:=rR v s pL qo.af.1 qo.af.2 3 2 9 (by decide) hg GE _ _ (dS.xp (YC.af.iQ (A1:=dZ v s) (A2:=Pr.own hg)))
       rw [Ea] at YD;have HC9:=hQ YD;have wE:=hQ (iN.af.trans mF);clear c1;have c1:=Gt.fx;have hpp:({ data:= #[112,112] } == ({ data:= #[112,112] }:ByteArray))=true:=by decide
       clear UC Gt yg mF HLI iN PN UD Cf YD YA YB;go_wp2_with fail
       refine HC9.af.mono ?_;rintro e w4 ⟨nz,rfl,UE⟩;have UF:=UE.flat;have YE:=rR v s pL qo.af.1 qo.af.2 3 2 8 (by decide) hg GE _ _ (dS.xp (UF.iQ (A1:=dZ v s) (A2:=Pr.own hg)));rw [MH] at YE;have HC8:=hQ YE;have lV:=hQ (wE.af.trans nz);clear UE UF nz HC9 wE YE c1 hc1 o7 l4 lz;go_wp2_with fail
       refine HC8.af.mono ?_;rintro e w5 ⟨iL,rfl,UG⟩;have HE:=hQ (UG.flat.to (M:= [Pr.own hg,F]));have pF:=hQ (lV.af.trans iL);clear UG iL HC8 lV;go_wp2;go_ret;exact⟨rfl,pF.af,HE.af⟩
end Go.Proofs.YtiegeadmgpanoaaGreatDoor.D2
