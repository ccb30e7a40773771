/- The least key that is not below a row, ranges that are empty; the conditions stand as hypotheses. -/
import Derived.Test.YtiegeadmgpanoaaGreatDoorL26
import Derived.Test.YtiegeadmgpanoaaGreatDoorL24
set_option maxRecDepth 100000
set_option maxHeartbeats 16000000
namespace Go.fB
theorem Ac(x:Int)(l:List Int):∀m,jJ (x :: l) (m+1)=if jJ l m=0 then(if x=255 then 0 else 1) else jJ l m+1
 | 0=>by
   show (if(x :: l).getD 0 0=255 then jJ (x :: l) 0 else 1)=_
   rfl
 | m+1=>by
   have ih:=Ac x l m;show (if(x :: l).getD (m+1) 0=255 then jJ (x :: l) (m+1) else m+1+1)=_
   have e:(x :: l).getD (m+1) 0=l.getD m 0:=by simp
   have e2:jJ l (m+1)=if l.getD m 0=255 then jJ l m else m+1:=rfl
   rw [e,e2,ih];by_cases h:l.getD m 0=255
   · rw [if_pos h,if_pos h]
   · rw [if_neg h,if_neg h,if_neg (by omega)]
theorem OC(k:List Int)(m:Nat)(h:jJ k k.length=m+1):k.getD m 0≠255:=by
 have key:∀n,jJ k n=m+1→k.getD m 0≠255:=by
  intro n;induction n with
  | zero=>intro h;cases h
  | succ n ih=>
    intro h;unfold jJ at h;split at h
    · exact ih h
    · rename_i h2
      obtain rfl:n=m:=by omega
      exact h2
 exact key _ h
theorem Hg:∀k:List Int,uG k=if jJ k k.length=0 then [] else k.take (jJ k k.length-1)++ [k.getD (jJ k k.length-1) 0+1]
 | []=>rfl
 | x :: l=>by
   have ih:=Hg l;rw [show (x :: l).length=l.length+1 from rfl,Ac];unfold uG;by_cases h:jJ l l.length=0
   · rw [if_pos h] at ih
     rw [if_pos h,if_pos ih];by_cases h2:x=255
     · rw [if_pos h2,if_pos h2,if_pos rfl]
     · rw [if_neg h2,if_neg h2,if_neg (by omega)]
       simp
   · rw [if_neg h] at ih
     have hne:uG l≠ []:=by rw [ih];simp
     obtain⟨n,hn⟩:∃n,jJ l l.length=n+1:=⟨jJ l l.length-1,by omega⟩;rw [if_neg h,if_neg hne,if_neg (by omega),ih,hn];simp
theorem LZ(k:List Int):(pw k).length≤24:=by
 unfold pw;split
 · rename_i h
   unfold oM at h;have:=of_decide_eq_true h
   omega
 · split
   · simp;omega
   · have:=Fv (k.take 24)
     simp at this
     omega
theorem OD {k:List Int}(h:U8 k):U8 (pw k):=by
 unfold pw;split
 · exact h
 · split
   · intro z hz
     rcases aK.1 hz with hz | hz
     · exact h z hz
     · cases aC.1 hz;omega
   · exact PQ fun z hz=>h z (dj hz)
end Go.fB
namespace Go.Sl
theorem gj.take {h:Hp}{k:Nat}{a:Option Addr}{n c:Nat}{xs:List Value}(hr:gj h k (.slice a n c) n xs)(m:Nat)(hm:m≤n):gj h k (.slice a m m) m (xs.take (m*k)):=by
 obtain⟨hl,a',c',e,h1,h2,h3⟩:=hr;cases e;have hmk:m*k≤n*k:=bM k hm;refine⟨by rw [aW];omega,a,m,rfl,aD _,by omega,fun h0=> ?_⟩;obtain⟨b,off,e,hc⟩:=h3 (by omega);refine⟨b,off,e,fun i hi=> ?_⟩;rw [hc i (by omega),List.getElem?_take,if_pos hi]
end Go.Sl
namespace Go.Proofs.YtiegeadmgpanoaaGreatDoor.D2
open ChangeShapes WideShapes ChangeAt RowKit Sl fB L3 X5 Z3
theorem yj {h:Hp}{a:Option Addr}{k:List Int}{c:Nat}(hk:Bytes h (.slice a k.length c) k)(m:Nat)(hm:m≤k.length):Bytes h (.slice a m m) (k.take m):=by
 have:=hk.take m hm
 unfold Bytes;rw [aW,Nat.min_eq_left hm,List.map_take];rwa [cM] at this
theorem Ga(h:Hp)(v:Value)(l:List Int)(hx:Bytes h v l)(hn:l.length≤140737488355000)(F:Pr)(w:World)(hF:Sat ((Pr.own h).star F) w):
 Calls Tryz.prog 125 #[v,.int .i64 1] w fun e w'=> ∃o,e= .returned o∧dN w w'∧Sat ((dM o l).star ((Pr.own h).star F)) w':=by
 obtain⟨a,c,rfl,rd⟩:=eL hx;obtain⟨i0,hi,hz0,hz1,jg⟩:=info_parts kY;obtain⟨Z,hZ⟩:∃Z:List Value,Z=List.replicate (l.length+1) (Value.int .u8 0):=⟨_,rfl⟩;have Tp:Z.length=l.length+1:=by rw [hZ];simp
 have hmk:∀wx:World,(Instr.makeSlice 42 (.int .i64 (l.length:Int)) (.int .i64 ((l.length:Int)+1))).run Tryz.prog wx= .ok (.slice (some ⟨wx.heap.size,0,none⟩) l.length (l.length+1)) (wx.alloc (.cells Z.toArray 5)):=by
  intro wx;have:=run_make (P:=Tryz.prog) wx 42 5 i0 (.int .u8 0) Tryz.underlying42 hi hz0 .i64 .i64 l.length ((l.length:Int)+1) (by omega) (by omega) (by rw [jg];omega) (by omega)
  rw [hz1,Int.toNat_natCast,show ((l.length:Int)+1).toNat=l.length+1 by omega,cM,show (Value.int .u8 0).cells= #[Value.int .u8 0] from rfl,tL, ← hZ] at this;exact this
 have rH:(l.length:Int)≤140737488355000:=by omega
 have h2:=hF.alloc (.cells Z.toArray 5);have hle:=h2.right.own;have hsz:(Tryz.prog.info? 5).map (·.size)=some 1:=by rw [hi,Option.map_some,hz1]
 have hpos:0<(l.map (Value.int .u8)).length→(some (⟨w.heap.size,0,none⟩:Addr)=some ⟨w.heap.size,0,none⟩∧∃ad,a=some ad∧∀j u,(l.map (Value.int .u8))[j]? =some u→(w.alloc (.cells Z.toArray 5)).cell? (ad.add j)=some u):=by
  intro h0;rw [aH] at h0;obtain⟨b,off,e0,_⟩:=rd 0 h0;refine⟨rfl,⟨b,off,none⟩,e0,fun j u hj=> ?_⟩;obtain⟨rY,hj2⟩:=cE.1 hj;rw [aH] at rY;obtain⟨b2,Dm,e,hc⟩:=rd j rY;rw [e0] at e;cases e;have:=hc _ hle
  rw [show (⟨b,off,none⟩:Addr).add j=⟨b,off+j,none⟩ by unfold Addr.add;simp,this, ← hj2,bQ,az,ag rY];rfl
 have Jb:=hQ hpos;have H2:=hQ h2;have Wp:=hQ Tp;have HZ:=hQ hZ;have HN:=hQ hn;have HB:=hQ (show Below w.heap.size w (w.alloc (.cells Z.toArray 5)) from(Below.refl w.heap.size w).alloc (aD _) _);clear hF hx h2 rd hle hpos hZ Tp;go_enter Tryz.func125,Tryz.ntmps125
 go_wp2_with
  (refine wpList_copy_splice rfl _ _ _ _ rfl 5 Tryz.underlying42 hsz _ _ _ _ _ _ rfl rfl w.heap.size 0 Z 5 H2.af.dL (l.map (Value.int .u8)) (by simp) Jb.af (by rw [Wp.af];simp) (by simp [Value.oneCell']) w.heap.size w HB.af (aD _) ?_
   intro w4 mD zu
   have qx:=hQ (And.intro mD.af zu)
   clear mD zu)
 go_ret;obtain⟨g1,g2⟩:=qx.af;refine⟨_,rfl,dN.Cd g2,?_⟩
 have h3:=H2.af.put g1 fun k hk hne=>by
  have hk2:k<w.heap.size:=by simp at hk;omega
  rw [g2.block k hk2];exact(Below.heap_alloc w _ k hk2).symm
 refine Row.mk' (sp:= [.int .u8 0]) (by simp) (by simp) (by omega) (by have:=HN.af;simp only [maxLen];omega) ?_
 have e1:splice Z 0 (l.map (Value.int .u8))=l.map (Value.int .u8)++ [.int .u8 0]:=by
  unfold splice;rw [List.take_zero,List.nil_append,Nat.zero_add,aH,HZ.af,List.drop_replicate,show l.length+1-l.length=1 by omega];rfl
 rw [← e1];exact h3
theorem QL(h:Hp)(a:Option Addr)(k:List Int)(c:Nat)(hk:Bytes h (.slice a k.length c) k)(uk:U8 k)(nk:k.length≤140737488355000)(F:Pr)(w:World)(hF:Sat ((Pr.own h).star F) w):
 Calls Tryz.prog 158 #[.slice a k.length c] w fun e w'=> ∃o,e= .returned o∧dN w w'∧Sat ((dM o (uG k)).star ((Pr.own h).star F)) w':=by
 have ST:=hQ (LX h a k c hk (by omega) w hF.own);have hs:=Dy k k.length;have FR:=hQ (fun(wx:World) hG=>nW h _ (k.take (jJ k k.length)) (yj hk _ hs) (by rw [aW];omega) F wx hG);have HS:=hQ (dS.Ii hF);have HU:=hQ (Hg k);have HK:=hQ uk;have QM:=hQ (fun m (h:jJ k k.length=m+1)=>OC k m h);have hnk:(k.length:Int)≤140737488355000:=by omega
 clear hF hk uk;obtain⟨n,hn⟩:∃n,jJ k k.length=n:=⟨_,rfl⟩;rw [hn] at ST FR HU hs QM;clear hn;go_enter Tryz.func158,Tryz.ntmps158
 go_wp2_with fail
 refine ST.af.mono ?_;rintro e w1 ⟨rfl,ho⟩;have hs1:=HS.af.ext ho.heap;have F1:=hQ (FR.af w1 (hs1.sat.perm (by simp only [eJ,Pr.ei])));have eR:=hQ ho.st;clear ST FR HS hs1 ho;go_wp2_with fail
 refine F1.af.mono ?_;rintro e w2 ⟨o,rfl,kU,hs2⟩;have hlt:(k.take n).length=n:=by rw [aW];omega
 obtain⟨ao,co,rfl⟩:=Row.shape hs2;rw [hlt];have fa:=hQ (eR.af.trans kU);cases n with
 | zero=>
   have HQ:=hQ (HU.af.trans (if_pos rfl));have lK:=hQ hs2;clear hs2 kU HU eR F1;go_wp2;go_ret;rw [HQ.af];refine⟨_,rfl,fa.af,?_⟩;have:=lK.af
   rw [hlt] at this;exact this
 | succ m=>
   have HQ:=hQ (HU.af.trans (if_neg (by omega)))
   have fP:Sat ((Row 5 1 (.slice ao (m+1) co) (m+1) ((k.take (m+1)).map (Value.int .u8))).star ((Pr.own h).star F)) w2:=by
    have:=hs2
    unfold dM at this;rw [hlt] at this;exact this
   obtain⟨b,u,rfl,hu,c1,f1,z1⟩:=Row.sF fP m (by omega)
   have Nc:u= .int .u8 (k.getD m 0):=by
    have h1:m<(k.take (m+1)).length:=by omega
    rw [aO,ag h1,List.getElem_take] at hu;rw [az,ag (by omega)];exact(Option.some.inj hu).symm
   subst Nc;have hx:=HK.af (k.getD m 0) (by rw [az,ag (by omega)];exact aE _);have hx2:k.getD m 0≠255:=QM.af m rfl;have hxl:k.getD m 0+1≤255:=by omega
   have hx0:0≤k.getD m 0:=by omega
   have j8:=hQ fP;have Kj:=hQ (show k.take (m+1)=k.take m++ [k.getD m 0] by rw [aF (by omega),az,ag (by omega)];rfl);have XT:=hQ (show m+1≤k.length from hs);rw [Nat.add_sub_cancel] at HQ;clear hs2 fP kU HU eR F1 hu hx hx2 HK QM;have Px:(m:Int)+1≤140737488355000:=by omega
   generalize k.getD m 0=x at*;go_wp2;go_ret;rw [HQ.af];refine⟨_,rfl,fa.af.setCell _ _,?_⟩;have h9:=Row.Cr j8.af m (by rw [aH,aW];have:=XT.af;omega) (.int .u8 (x+1));have hl2:(k.take m++ [x+1]).length=m+1:=by rw [au,aW];have:=XT.af;simp;omega
   unfold dM;rw [hl2];rw [Kj.af] at h9
   have e:((k.take m++ [x]).map (Value.int .u8)).set m (.int .u8 (x+1))=(k.take m++ [x+1]).map (Value.int .u8):=by
    rw [aI,aI,bY _ _ (by rw [aH,aW];omega),aH,aW,Nat.min_eq_left (by have:=XT.af;omega),b_];rfl
   rw [e] at h9;exact h9
theorem L0(h:Hp)(v:Value)(k:List Int)(hk:Bytes h v k)(uk:U8 k)(nk:k.length≤140737488355000)(F:Pr)(w:World)(hF:Sat ((Pr.own h).star F) w):
 Calls Tryz.prog 156 #[v] w fun e w'=> ∃o,e= .returned o∧dN w w'∧Sat ((dM o (if k.length<24 then k++ [0] else uG (k.take 24))).star ((Pr.own h).star F)) w':=by
 obtain⟨a,c,rfl,_⟩:=eL hk;obtain⟨i0,lk,hz0,hz1,jg⟩:=info_parts kY
 have hkc:(k.length:Int)≤(c:Int):=by
  obtain⟨_,_,_,e,h1,_⟩:=id hk;cases e;omega
 have hnk:(k.length:Int)≤140737488355000:=by omega
 by_cases ZR:k.length<24
 · rw [if_pos ZR]
   have FR:=hQ (Ga h _ k hk nk F w hF);have XU:(k.length:Int)<24:=by omega
   clear hF hk uk;go_enter Tryz.func156,Tryz.ntmps156
   go_wp2_with fail
   refine FR.af.mono ?_;rintro e w1 ⟨o,rfl,fN,hs1⟩;obtain⟨ao,co,rfl⟩:=Row.shape hs1;have H1:=hQ (hs1.alloc (.cells #[.int .u8 0] 5)).right;have HC:=hQ (eW w1 [.int .u8 0] 5 _ rfl);have eR:=hQ (fN.alloc (.cells #[.int .u8 0] 5));clear hs1 fN FR
   go_wp2_with (at_builtin;refine eu rfl _ _ _ rfl 5 i0 (.int .u8 0) 1 1 Tryz.underlying42 lk hz0 hz1 jg rfl _ _ _ rfl H1.af ⟨w1.heap.size,0,none⟩ 1 1 [.int .u8 0] rfl rfl HC.af (by simp [Value.oneCell']) (by simp only [maxLen];omega) (by omega) ?_;intro v7 w4 fp mD _;obtain⟨Ke,Kf,xJ,_,_⟩:=Row.read fp;subst xJ;have lZ:=hQ fp;have qx:=hQ (eR.af.eH mD);clear fp mD)
   go_ret;refine⟨_,rfl,qx.af,?_⟩;unfold dM;rw [au,aI];exact lZ.af
 · rw [if_neg ZR]
   have hle:24≤k.length:=by omega
   have hl:(k.take 24).length=24:=by rw [aW];omega
   have ZS:=yj hk 24 hle;have UP:=QL h a (k.take 24) 24 (by rw [hl];exact ZS) (fun z hz=>uk z (dj hz)) (by omega) F w hF;rw [hl] at UP;have ZT:=hQ UP;have XU:¬(k.length:Int)<24:=by omega
   have aan:(24:Int)≤(c:Int):=by omega
   clear hF hk uk ZS UP hl;go_enter Tryz.func156,Tryz.ntmps156
   go_wp2_with fail
   refine ZT.af.mono ?_;rintro e w1 ⟨o,rfl,fN,hs1⟩;have eR:=hQ fN;have HS:=hQ hs1;clear hs1 fN ZT;go_wp2;go_ret;exact⟨_,rfl,eR.af,HS.af⟩
theorem L6(h:Hp)(v:Value)(k:List Int)(hk:Bytes h v k)(uk:U8 k)(nk:k.length≤140737488355000)(F:Pr)(w:World)(hF:Sat ((Pr.own h).star F) w):
 Calls Tryz.prog 150 #[v] w fun e w'=> ∃o,e= .returned o∧dN w w'∧Sat ((dM o (pw k)).star ((Pr.own h).star F)) w':=by
 obtain⟨a,c,rfl,_⟩:=eL hk;have IK:=z_ a k.length c (by omega) w;unfold pw oM;by_cases Ni:1≤k.length∧k.length≤24
 · rw [decide_eq_true Ni] at IK ⊢
   rw [if_pos rfl];have XV:=hQ IK;have FR:=hQ (nW h _ k hk nk F w hF);clear IK hF hk uk Ni;go_enter Tryz.func150,Tryz.ntmps150
   go_wp2_with fail
   refine XV.af.mono ?_;rintro e w1 ⟨rfl,rfl⟩;go_wp2_with fail
   refine FR.af.mono ?_;rintro e w1 ⟨o,rfl,fN,hs1⟩;have eR:=hQ fN;have HS:=hQ hs1;clear hs1 fN FR;go_wp2;go_ret;exact⟨_,rfl,eR.af,HS.af⟩
 · rw [decide_eq_false Ni] at IK ⊢
   rw [if_neg (by simp)];have XV:=hQ IK;have FR:=hQ (L0 h _ k hk uk nk F w hF);clear IK hF hk uk Ni;generalize (if k.length<24 then k++ [0] else uG (k.take 24))=N at*;go_enter Tryz.func150,Tryz.ntmps150
   go_wp2_with fail
   refine XV.af.mono ?_;rintro e w1 ⟨rfl,rfl⟩;go_wp2_with fail
   refine FR.af.mono ?_;rintro e w1 ⟨o,rfl,fN,hs1⟩;have eR:=hQ fN;have HS:=hQ hs1;clear hs1 fN FR;go_wp2;go_ret;exact⟨_,rfl,eR.af,HS.af⟩
theorem Ad(h:Hp)(rv:Value)(r:fw)(hr:gJ h rv r)(ur:wT r)(nr:r.lo.length≤140737488355000)(F:Pr)(w:World)(hF:Sat ((Pr.own h).star F) w):
 Calls Tryz.prog 131 #[rv] w fun e w'=>e= .returned (.bool (nE r))∧dN w w'∧Sat ((Pr.own h).star F) w':=by
 obtain⟨lo,hi,rfl,hlo,mK⟩:=id hr;obtain⟨al,cl,rfl,_⟩:=eL hlo;obtain⟨ah,ch,rfl,_⟩:=eL mK;have hs0:=((dS.Ii hF).alloc (dO (.slice al r.lo.length cl) (.slice ah r.hi.length ch) r.op)).drew;have FR:=hQ (L6 h _ r.lo hlo ur.lo nr _ _ (hs0.ej (A1:=Pr.own h)));have HR:=hQ (And.intro hr ur)
 have eR:=hQ ((dN.refl w).alloc (dO (.slice al r.lo.length cl) (.slice ah r.hi.length ch) r.op)).drew;have c1:=hs0.fx;unfold nE;have HL:=hQ (And.intro (LZ r.lo) (OD ur.lo));clear hF hr ur hlo mK hs0 nr;generalize pw r.lo=N at*;go_enter Tryz.func131,Tryz.ntmps131
 go_wp2_with fail
 refine wS 9 [0,1,2] [(3,[],[0,1]),(4,[5,6],[1])] ?_;refine dY _ rfl rfl ?_;simp only [pick,pQ];iterate 3 (go_big_quiet_step (fail))
 refine wpQuiet_nil ?_;refine dK rfl ?_;go_wp2_with fail
 refine FR.af.mono ?_;rintro e w1 ⟨o,rfl,fN,hs1⟩;have hs2:=dS.mH hs1;obtain⟨a,ha,fP⟩:=hs2.arena (dM o N);obtain⟨hd,fp⟩:=Sat.jT (fP.iQ (A1:=Pr.own a) (A2:=Pr.own h));obtain⟨ao,co,rfl,_⟩:=eL (iP ha);clear c1;have c1:=hs2.fx
 have HA:=hQ (Bz (a.un h) _ _ r N (HR.af.1.sub (Hp.fZ hd)) ((iP ha).sub (Hp.fE a h)) HR.af.2 HL.af.2 (by have:=HL.af.1;omega) w1 fp.own);have eQ:=hQ (eR.af.trans fN);have ig:=hQ (hs2.to (M:= [Pr.own h,F]));clear hs1 hs2 fP fp fN FR ha hd;go_wp2;refine dQ ?_;refine dU ⟨?_,?_⟩
 · exact cQ
 refine dK rfl ?_;go_wp2_with fail
 refine HA.af.mono ?_;rintro e w2 ⟨rfl,ho⟩;have gu:=ig.af.ext ho.heap;have kh:=hQ (And.intro (eQ.af.trans ho.st) (gu.sat.perm (B:=(Pr.own h).star F) (by simp only [eJ,Pr.ei])));clear gu ho HA ig eQ c1;go_wp2;refine dQ ?_;refine dY _ rfl rfl ?_;simp only [pick,pQ];iterate 2 (go_big_quiet_step (fail))
 refine wpQuiet_nil ⟨?_,?_⟩
 · exact cQ
 refine dW ?_;go_wp2;go_ret;exact⟨rfl,kh.af.1,kh.af.2⟩
end Go.Proofs.YtiegeadmgpanoaaGreatDoor.D2
namespace Go.fB
def j5(l:List en)(r:fw):Nat→List Int
 | 0=> []
 | n+1=>if nE (gW (gG l (l.length-(n+1))) r) then j5 l r n else j5 l r n++ [(d5 l (l.length-(n+1))).child]
theorem DC(l:List en)(r:fw):∀n,(j5 l r n).length≤n
 | 0=>aD _
 | n+1=>by
   have:=DC l r n
   unfold j5;split
   · omega
   · simp;omega
theorem Hh(l:List en)(r:fw):∀n,n≤l.length→j5 l r n=(((List.range' (l.length-n) n).filter fun i=> !nE (gW (gG l i) r)).map fun i=>(d5 l i).child).reverse
 | 0,_=>rfl
 | n+1,h=>by
   have ih:=Hh l r n (by omega);rw [List.range'_succ,show l.length-(n+1)+1=l.length-n by omega];unfold j5;split
   · rename_i h2
     rw [dt (by rw [h2];simp),ih]
   · rename_i h2
     rw [du (by simpa using h2),aT,List.reverse_cons,ih]
theorem L8(g:dR)(r:fw):j5 g.items r g.items.length=(oV g r).reverse:=by
 rw [Hh _ _ _ (aD _),b_, ← List.range_eq_range'];rfl
end Go.fB
namespace Go.Proofs.YtiegeadmgpanoaaGreatDoor.E4
open ChangeShapes WideShapes ChangeAt RowKit Sl fB Go.Shelf D2 L3 Z3 X5
attribute [local go_sem] Oper.semAt_some
theorem Js(a:Option Addr)(n c:Nat)(w:World):
 Calls Tryz.prog 130 #[.slice a n c] w fun e w'=>e= .returned (.func (.func 149) #[] #[.pointer (some ⟨w.heap.size,0,none⟩)])∧w'=w.alloc (.cells #[.slice a n c] 81):=by
 go_enter Tryz.func130,Tryz.ntmps130
 go_wp2;go_ret;exact⟨rfl,rfl⟩
def WI(ob pb rb:Nat)(g:dR)(r:fw)(vi vd lo hi:Value)(F:Pr)(n:Nat):Pr:=
 Pr.ex fun ov:Value=>(Pr.pts ob (.cells #[ov] 22)).star ((dX ov (j5 g.items r n)).star ((Pr.pts pb (dV g.kind g.level vi vd g.next)).star ((Pr.pts rb (dO lo hi r.op)).star F)))
theorem pU(h:Hp)(pv rv:Value)(g:dR)(r:fw)(hp:fV h pv g)(hr:gJ h rv r)(hfit:Fit g)(wC:∀x∈g.items,U8 x.key)(ur:wT r)(nr:nN 140737488355000 r)(F:Pr)(w:World)(hF:Sat ((Pr.own h).star F) w):
 Calls Tryz.prog 93 #[pv,rv] w fun e w'=> ∃o,e= .returned o∧dN w w'∧Sat ((dX o (oV g r).reverse).star ((Pr.own h).star F)) w':=by
 obtain⟨vi,vd,rfl,hit,hb'⟩:=hp;obtain⟨iE,iF,rfl⟩:=eB hb';obtain⟨iG,gX,rfl,_,rd⟩:=fL hit;obtain⟨lo,hi,rfl,hlo,mK⟩:=id hr;obtain⟨al,cl,rfl,_⟩:=eL hlo;obtain⟨ah,ch,rfl,_⟩:=eL mK;obtain⟨i0,lk,hz0,hz1,jg⟩:=info_parts mA;have Hf:g.items.length≤8:=by have:=hfit.n;omega
 have hs0:=(((dS.Ii hF).alloc (dV g.kind g.level (.slice iG g.items.length gX) (.slice iE g.data.length iF) g.next)).alloc (dO (.slice al r.lo.length cl) (.slice ah r.hi.length ch) r.op)).alloc (.cells #[.slice none 0 0] 22);have e1:(w.alloc (dV g.kind g.level (.slice iG g.items.length gX) (.slice iE g.data.length iF) g.next)).heap.size=w.heap.size+1:=by simp
 have e2:((w.alloc (dV g.kind g.level (.slice iG g.items.length gX) (.slice iE g.data.length iF) g.next)).alloc (dO (.slice al r.lo.length cl) (.slice ah r.hi.length ch) r.op)).heap.size=w.heap.size+1+1:=by simp
 rw [e1,e2] at hs0;have eR:=hQ ((((dN.refl w).alloc (dV g.kind g.level (.slice iG g.items.length gX) (.slice iE g.data.length iF) g.next)).alloc (dO (.slice al r.lo.length cl) (.slice ah r.hi.length ch) r.op)).alloc (.cells #[.slice none 0 0] 22));have jC:=hQ hs0;have RD:=hQ rd;have HH:=hQ (And.intro hit (And.intro hr (And.intro wC (And.intro ur (And.intro nr hfit)))))
 clear hF hs0 e1 e2 rd hit hb' hr hlo mK wC ur nr hfit;refine iC (n:=9) Tryz.func93 rfl ?_;simp only [Tryz.ntmps93,bu,List.length_cons,List.length_nil,Nat.reduceAdd,Nat.reduceSub,Array.replicate_succ,Array.replicate_zero,bB,a_,List.nil_append,List.cons_append];go_wp2_with fail
 have U1:=eR.af;have U2:=jC.af;clear eR jC;generalize (((w.alloc (dV g.kind g.level (.slice iG g.items.length gX) (.slice iE g.data.length iF) g.next)).alloc (dO (.slice al r.lo.length cl) (.slice ah r.hi.length ch) r.op)).alloc (.cells #[.slice none 0 0] 22))=w0 at*;generalize w.heap.size+1+1=OB at*;generalize w.heap.size+1=RB at*;generalize w.heap.size=PB at*;have c1:=U2.fx;have eR:=hQ U1;have jC:=hQ U2;clear U1 U2;refine(Js _ _ _ _).mono ?_;rintro e w2 ⟨rfl,rfl⟩;have U1:=eR.af.alloc (.cells #[.slice iG g.items.length gX] 81);have U2:=jC.af.alloc (.cells #[.slice iG g.items.length gX] 81);clear eR jC c1;generalize w0.heap.size=SB at*
 generalize w0.alloc (.cells #[.slice iG g.items.length gX] 81)=w1 at*;have eR:=hQ U1;have ig:=hQ U2;clear U1 U2;go_wp2
 refine jM 9 (gf:=149) rfl (enters_of Tryz.func149 (by kernel_rfl) rfl) (Jg SB (.slice iG g.items.length gX) h g.items HH.af.1 (by omega)) (fun _=>rfl)
  (fun pre=>WI OB PB RB g r (.slice iG g.items.length gX) (.slice iE g.data.length iF) (.slice al r.lo.length cl) (.slice ah r.hi.length ch) F pre.length) (fun _ _=>Pr.pure False) ?start ?round ?done ?stop
 case start=>
  have h1:=ig.af.emp;rw [← Row.nil 3 1] at h1;have h2:=h1.to (M:= [Pr.pts OB (.cells #[.slice none 0 0] 22),Row 3 1 (.slice none 0 0) 0 [],Pr.pts PB (dV g.kind g.level (.slice iG g.items.length gX) (.slice iE g.data.length iF) g.next),Pr.pts RB (dO (.slice al r.lo.length cl) (.slice ah r.hi.length ch) r.op),F,Pr.pts SB (.cells #[.slice iG g.items.length gX] 81),Pr.own h]);unfold WI
  rw [Pr.fC];exact Sat.qk.2 ⟨.slice none 0 0,h2.sat.perm (by simp only [eJ,Pr.ei,Pr.dP,lp];rfl)⟩
 case round=>
  intro l' pre x Nj F1 hok hs;obtain⟨i,En,L9,hx1,ak,ck,av,cv,hx2,hbk⟩:=hok;obtain⟨x1,x2⟩:=x;dsimp only at hx1 hx2;subst hx1 hx2;unfold WI at hs;rw [Pr.fC,Pr.fC] at hs;obtain⟨ov,hs⟩:=Sat.qk.1 hs;obtain⟨n,hn⟩:∃n,pre.length=n:=⟨_,rfl⟩;rw [hn] at hs L9;have hidx:g.items.length-(n+1)=i:=by omega
  have Qx:=DC g.items r n;have aao:n≤8:=by omega
  have hX:=gn En;have TC:=hQ (show j5 g.items r (n+1)=if nE (gW (gG g.items i) r) then j5 g.items r n else j5 g.items r n++ [(d5 g.items i).child] from by rw [← hidx];rfl);have PY:=hQ (And.intro (Lb (l:=g.items) HH.af.2.2.1 En) (N7 (n:=140737488355000) (l:=g.items) (fun x hx=>by have:=HH.af.2.2.2.2.2.k x hx;omega) En))
  have hs1:dS [Pr.pts OB (.cells #[ov] 22),dX ov (j5 g.items r n),Pr.pts PB (dV g.kind g.level (.slice iG g.items.length gX) (.slice iE g.data.length iF) g.next),Pr.pts RB (dO (.slice al r.lo.length cl) (.slice ah r.hi.length ch) r.op),F,Pr.pts SB (.cells #[.slice iG g.items.length gX] 81),Pr.own h,F1] Nj:=⟨hs.perm (by simp only [eJ,Pr.ei,Pr.dP,lp])⟩
  obtain⟨ao,co,rfl⟩:=Row.shape (hs1.ej (A1:=dX ov (j5 g.items r n)));have hlo:(gG g.items i).lo=g.items[i].key:=by rw [Fy,hX]
  have hnx:i+1<g.items.length→(gG g.items i).hi=(d5 g.items (i+1)).key∧(gG g.items i).op=false:=fun h=>⟨(Bl h).2,(Bl h).1⟩
  have Jt:¬i+1<g.items.length→(gG g.items i).hi= []∧(gG g.items i).op=true:=fun h=>by unfold gG;rw [if_neg h];exact⟨rfl,rfl⟩
  rw [hX] at TC;generalize hXX:g.items[i]=X at*;have HN:=hQ hn;have Wu:=hQ (show ∀z:Int × Value,(pre++ [z]).length=n+1 from fun z=>by rw [au,hn];rfl);have ig:=hQ hs1;have HB:=hQ hbk;have HOW:=hQ (And.intro hlo (And.intro hnx Jt));clear hs hs1 hn hbk hXX hlo hnx Jt hidx hX;simp only [Tv,l6];gi_wp2
  have ny:=ig.af.alloc (.cells #[.slice ak X.key.length ck,.slice av X.value.length cv,.int .i64 X.child,.int .i64 X.size] 89);obtain⟨B,hB⟩:∃B,Nj.heap.size=B:=⟨_,rfl⟩;rw [hB] at ny ⊢
  refine⟨eJ [Pr.pts B (.cells #[.slice ak X.key.length ck,.slice av X.value.length cv,.int .i64 X.child,.int .i64 X.size] 89),Pr.pts OB (.cells #[.slice ao (j5 g.items r n).length co] 22),dX (.slice ao (j5 g.items r n).length co) (j5 g.items r n),Pr.pts PB (dV g.kind g.level (.slice iG g.items.length gX) (.slice iE g.data.length iF) g.next),Pr.pts RB (dO (.slice al r.lo.length cl) (.slice ah r.hi.length ch) r.op),F,Pr.pts SB (.cells #[.slice iG g.items.length gX] 81),Pr.own h],(dN.refl _).alloc _,ny.sat.perm (by simp only [eJ,Pr.ei,Pr.dP]),?_⟩
  clear ny ig hB;intro F2 W2 _ hs2
  have fP:dS [Pr.pts B (.cells #[.slice ak X.key.length ck,.slice av X.value.length cv,.int .i64 X.child,.int .i64 X.size] 89),Pr.pts OB (.cells #[.slice ao (j5 g.items r n).length co] 22),dX (.slice ao (j5 g.items r n).length co) (j5 g.items r n),Pr.pts PB (dV g.kind g.level (.slice iG g.items.length gX) (.slice iE g.data.length iF) g.next),Pr.pts RB (dO (.slice al r.lo.length cl) (.slice ah r.hi.length ch) r.op),F,Pr.pts SB (.cells #[.slice iG g.items.length gX] 81),Pr.own h,F2] W2:=⟨hs2.perm (by simp only [eJ,Pr.ei,Pr.dP])⟩
  have fp:=fP.alloc (dO (.slice ak X.key.length ck) (.slice none 0 0) true);have c1:=fP.fx;have fa:=hQ ((dN.refl W2).alloc (dO (.slice ak X.key.length ck) (.slice none 0 0) true));clear hs2 fP;by_cases hlt:i+1<g.items.length
  · obtain⟨b2,Dm,Kh,Ki,XJ,XK,e2,sd,_,o7⟩:=RD.af (i+1) hlt
    subst e2;have Ot:(i:Int)+1<(g.items.length:Int):=by omega
    have XW:=hQ (show gJ h (.agg #[.slice ak X.key.length ck,.slice Kh g.items[i+1].key.length Ki,.bool false]) (gG g.items i) from⟨_,_,by rw [(HOW.af.2.1 hlt).2],by rw [HOW.af.1];exact HB.af,by rw [(HOW.af.2.1 hlt).1,gn hlt];exact sd⟩);have TD:=hQ fp;have F5:=hQ o7;clear sd o7 fp;gi_wp2_with fail
    have fp:=TD.af;have kU:=fa.af;clear TD fa c1;generalize W2.alloc (dO (.slice ak X.key.length ck) (.slice none 0 0) true)=W3 at*;generalize W2.heap.size=CB at*;obtain⟨d0,_,_,_⟩:=F5.af W3 (fp.le (a:=h));have zb:=ay _ _ d0;generalize g.items[i+1].key.length=ZU at*;have c1:=fp.fx
    have lZ:=hQ ((fp.drew.set CB 2 (.bool false)).set CB 1 (.slice Kh ZU Ki));have iM:=hQ ((kU.drew.setCell ⟨CB,2,none⟩ (.bool false)).setCell ⟨CB,1,none⟩ (.slice Kh ZU Ki));clear fp kU F5;refine sC (sz:=43) (by kernel_rfl) [0,1,2,3,4,5,6,7] [(8,[9],[0,1,2,3,4,5,6]),(10,[],[])] rfl (by kernel_rfl) (by kernel_rfl) (by kernel_rfl) (by kernel_rfl) ?_
    refine dY _ rfl rfl ?_;simp only [pick,pQ];iterate 8 (go_big_quiet_step (fail))
    refine wpQuiet_nil ?_;refine dK rfl ?_;go_wp2;refine dQ ?_;refine dY _ rfl rfl ?_;simp only [pick,pQ];iterate 1 (go_big_quiet_step (fail))
    refine wpQuiet_nil ⟨?_,?_⟩
    · exact cQ
    refine dK rfl ?_;go_wp2;refine dQ ?_;refine dU ⟨?_,?_⟩
    · exact eM
    refine dW ?_;have ME:=hQ (um h _ _ (gG g.items i) r XW.af HH.af.2.1 PY.af.1 HH.af.2.2.2.1 PY.af.2 HH.af.2.2.2.2.1 _ _ (lZ.af.ej (A1:=Pr.own h)));have Nk:=hQ (And.intro (tV PY.af.1 HH.af.2.2.2.1) (rI PY.af.2 HH.af.2.2.2.2.1));gi_wp2_with fail
    refine⟨trivial,?_⟩;refine(CallsIn.inRound _ (callsIn_wide.2 ME.af)).mono ?_;rintro e w3 ⟨mF,h3,XX,rfl,TE,fp⟩;have gu:=dS.mH fp;have EM:=hQ (Ad h3 XX _ TE Nk.af.1 Nk.af.2.lo _ _ (gu.ej (A1:=Pr.own h3)));have pN:=hQ (gu.yO (Pr.own h3));have gg:=hQ (iM.af.trans mF);clear c1 fp gu mF TE ME lZ iM;gi_wp2_with fail
    refine⟨trivial,?_⟩;refine(CallsIn.inRound _ (callsIn_wide.2 EM.af)).mono ?_;rintro e w4 ⟨rfl,nz,gQ⟩;have gZ:=(dS.kS gQ).yO (Pr.own h3);have ij:=hQ (gg.af.trans nz);have c1:=gZ.fx;have rQ:=hQ gZ;clear gQ gZ nz EM pN gg;cases hem:nE (gW (gG g.items i) r) with
    | true=>
      have HW:=hQ (TC.af.trans (if_pos hem));clear hem;gi_wp2
      refine⟨ij.af,?_⟩
      have h8:=rQ.af.to (M:= [Pr.pts OB (.cells #[.slice ao (j5 g.items r n).length co] 22),dX (.slice ao (j5 g.items r n).length co) (j5 g.items r n),Pr.pts PB (dV g.kind g.level (.slice (some ⟨b2,Dm,none⟩) g.items.length gX) (.slice iE g.data.length iF) g.next),Pr.pts RB (dO (.slice al r.lo.length cl) (.slice ah r.hi.length ch) r.op),F,Pr.pts SB (.cells #[.slice (some ⟨b2,Dm,none⟩) g.items.length gX] 81),Pr.own h,F2])
      simp only [Wu.af];unfold WI;rw [HW.af,Pr.fC,Pr.fC];exact Sat.qk.2 ⟨.slice ao (j5 g.items r n).length co,h8.sat.perm (by simp only [eJ,Pr.ei,Pr.dP,lp])⟩
    | false=>
      have HW:=hQ (TC.af.trans (if_neg (by rw [hem];simp)));have H1:=hQ ((rQ.af.alloc (.cells #[.int .i64 X.child] 3)).ej (A1:=dX (.slice ao (j5 g.items r n).length co) (j5 g.items r n)));have HC:=hQ (eW w4 [.int .i64 X.child] 3 _ rfl);have iM:=hQ (ij.af.alloc (.cells #[.int .i64 X.child] 3));clear hem rQ ij
      gi_wp2_with (refine lT rfl _ _ _ rfl 3 i0 (.int .i64 0) 1 8 Tryz.underlying22 lk hz0 hz1 jg rfl _ _ _ rfl H1.af ⟨w4.heap.size,0,none⟩ 1 1 [.int .i64 X.child] rfl rfl HC.af (by simp [Value.oneCell']) (by simp only [maxLen];omega) (by omega) ?_;intro v7 w5 gp tB;obtain⟨a7,c7,e7,_,_⟩:=Row.read gp;subst e7;have gY:=(dS.kS gp);clear c1;have c1:=gY.fx;have se:=hQ gY;have l9:=hQ (iM.af.eH tB);clear gp gY tB)
      refine⟨l9.af.setCell _ _,?_⟩
      have h8:=(se.af.set OB 0 (.slice a7 ((j5 g.items r n).length+1) c7)).to (M:= [Pr.pts OB (.cells #[.slice a7 ((j5 g.items r n).length+1) c7] 22),Row 3 1 (.slice a7 ((j5 g.items r n).length+1) c7) ((j5 g.items r n).length+1) ((j5 g.items r n).map (Value.int .i64)++ [.int .i64 X.child]),Pr.pts PB (dV g.kind g.level (.slice (some ⟨b2,Dm,none⟩) g.items.length gX) (.slice iE g.data.length iF) g.next),Pr.pts RB (dO (.slice al r.lo.length cl) (.slice ah r.hi.length ch) r.op),F,Pr.pts SB (.cells #[.slice (some ⟨b2,Dm,none⟩) g.items.length gX] 81),Pr.own h,F2])
      simp only [Wu.af];unfold WI;rw [HW.af,Pr.fC,Pr.fC];refine Sat.qk.2 ⟨.slice a7 ((j5 g.items r n).length+1) c7,h8.sat.perm ?_⟩;unfold dX;rw [au,aI];simp only [eJ,Pr.ei,Pr.dP,lp,List.length_singleton,aT,aZ]
  · have Ot:¬(i:Int)+1<(g.items.length:Int):=by omega
    have XW:=hQ (show gJ h (.agg #[.slice ak X.key.length ck,.slice none 0 0,.bool true]) (gG g.items i) from⟨_,_,by rw [(HOW.af.2.2 hlt).2],by rw [HOW.af.1];exact HB.af,by rw [(HOW.af.2.2 hlt).1];exact gj.nil _ _⟩);have lZ:=hQ fp;clear fp
    have ME:=hQ (um h _ _ (gG g.items i) r XW.af HH.af.2.1 PY.af.1 HH.af.2.2.2.1 PY.af.2 HH.af.2.2.2.2.1 _ _ (lZ.af.ej (A1:=Pr.own h)));have Nk:=hQ (And.intro (tV PY.af.1 HH.af.2.2.2.1) (rI PY.af.2 HH.af.2.2.2.2.1));gi_wp2_with fail
    refine⟨trivial,?_⟩;refine(CallsIn.inRound _ (callsIn_wide.2 ME.af)).mono ?_;rintro e w3 ⟨mF,h3,XX,rfl,TE,fp⟩;have gu:=dS.mH fp;have EM:=hQ (Ad h3 XX _ TE Nk.af.1 Nk.af.2.lo _ _ (gu.ej (A1:=Pr.own h3)));have pN:=hQ (gu.yO (Pr.own h3));have gg:=hQ (fa.af.trans mF);clear c1 fp gu mF TE ME lZ fa;gi_wp2_with fail
    refine⟨trivial,?_⟩;refine(CallsIn.inRound _ (callsIn_wide.2 EM.af)).mono ?_;rintro e w4 ⟨rfl,nz,gQ⟩;have gZ:=(dS.kS gQ).yO (Pr.own h3);have ij:=hQ (gg.af.trans nz);have c1:=gZ.fx;have rQ:=hQ gZ;clear gQ gZ nz EM pN gg;cases hem:nE (gW (gG g.items i) r) with
    | true=>
      have HW:=hQ (TC.af.trans (if_pos hem));clear hem;gi_wp2
      refine⟨ij.af,?_⟩
      have h8:=rQ.af.to (M:= [Pr.pts OB (.cells #[.slice ao (j5 g.items r n).length co] 22),dX (.slice ao (j5 g.items r n).length co) (j5 g.items r n),Pr.pts PB (dV g.kind g.level (.slice iG g.items.length gX) (.slice iE g.data.length iF) g.next),Pr.pts RB (dO (.slice al r.lo.length cl) (.slice ah r.hi.length ch) r.op),F,Pr.pts SB (.cells #[.slice iG g.items.length gX] 81),Pr.own h,F2])
      simp only [Wu.af];unfold WI;rw [HW.af,Pr.fC,Pr.fC];exact Sat.qk.2 ⟨.slice ao (j5 g.items r n).length co,h8.sat.perm (by simp only [eJ,Pr.ei,Pr.dP,lp])⟩
    | false=>
      have HW:=hQ (TC.af.trans (if_neg (by rw [hem];simp)));have H1:=hQ ((rQ.af.alloc (.cells #[.int .i64 X.child] 3)).ej (A1:=dX (.slice ao (j5 g.items r n).length co) (j5 g.items r n)));have HC:=hQ (eW w4 [.int .i64 X.child] 3 _ rfl);have iM:=hQ (ij.af.alloc (.cells #[.int .i64 X.child] 3));clear hem rQ ij
      gi_wp2_with (refine lT rfl _ _ _ rfl 3 i0 (.int .i64 0) 1 8 Tryz.underlying22 lk hz0 hz1 jg rfl _ _ _ rfl H1.af ⟨w4.heap.size,0,none⟩ 1 1 [.int .i64 X.child] rfl rfl HC.af (by simp [Value.oneCell']) (by simp only [maxLen];omega) (by omega) ?_;intro v7 w5 gp tB;obtain⟨a7,c7,e7,_,_⟩:=Row.read gp;subst e7;have gY:=(dS.kS gp);clear c1;have c1:=gY.fx;have se:=hQ gY;have l9:=hQ (iM.af.eH tB);clear gp gY tB)
      refine⟨l9.af.setCell _ _,?_⟩
      have h8:=(se.af.set OB 0 (.slice a7 ((j5 g.items r n).length+1) c7)).to (M:= [Pr.pts OB (.cells #[.slice a7 ((j5 g.items r n).length+1) c7] 22),Row 3 1 (.slice a7 ((j5 g.items r n).length+1) c7) ((j5 g.items r n).length+1) ((j5 g.items r n).map (Value.int .i64)++ [.int .i64 X.child]),Pr.pts PB (dV g.kind g.level (.slice iG g.items.length gX) (.slice iE g.data.length iF) g.next),Pr.pts RB (dO (.slice al r.lo.length cl) (.slice ah r.hi.length ch) r.op),F,Pr.pts SB (.cells #[.slice iG g.items.length gX] 81),Pr.own h,F2])
      simp only [Wu.af];unfold WI;rw [HW.af,Pr.fC,Pr.fC];refine Sat.qk.2 ⟨.slice a7 ((j5 g.items r n).length+1) c7,h8.sat.perm ?_⟩;unfold dX;rw [au,aI];simp only [eJ,Pr.ei,Pr.dP,lp,List.length_singleton,aT,aZ]
 case done=>
  intro D xs W2 hxs hst hs;rw [hxs] at hs;unfold WI at hs;rw [Pr.fC,Pr.fC] at hs;obtain⟨ov,hs⟩:=Sat.qk.1 hs;obtain⟨N,hN⟩:∃N,N=(oV g r).reverse:=⟨_,rfl⟩
  have fP:dS [Pr.pts D (.deferred (some [])),Pr.pts OB (.cells #[ov] 22),dX ov (j5 g.items r g.items.length),Pr.pts PB (dV g.kind g.level (.slice iG g.items.length gX) (.slice iE g.data.length iF) g.next),Pr.pts RB (dO (.slice al r.lo.length cl) (.slice ah r.hi.length ch) r.op),F,Pr.pts SB (.cells #[.slice iG g.items.length gX] 81),Pr.own h] W2:=⟨hs.perm (by simp only [eJ,Pr.ei,Pr.dP,lp];ac_rfl)⟩
  rw [L8, ← hN] at fP;have PE:=hQ hN;clear hN;obtain⟨ao,co,rfl⟩:=Row.shape (fP.ej (A1:=dX ov N));have c1:=fP.fx;have j8:=hQ fP;have gg:=hQ (eR.af.trans hst);clear hs fP hst ig;go_wp2;have q1:=j8.af.ej (A1:=Pr.pts D (.deferred (some [])));have q2:=dS.Ql (q1.putObj (.deferred none)).right
  refine j7 (D:=D) rfl q1.dL ⟨_,results_tmp rfl _ _ _,.slice ao N.length co,rfl,gg.af.putObj _ _,?_⟩;rw [← PE.af];exact(q2.to (M:= [dX (.slice ao N.length co) N,Pr.own h,F])).sat.perm (by simp only [eJ,Pr.ei])
 case stop=>
  intro D c pre W2 _ hst hs;exact(Sat.pure.1 (hs.perm (Pr.dP _ _ _))).1.elim
end Go.Proofs.YtiegeadmgpanoaaGreatDoor.E4
