/- The document's copies of items and pages; the conditions stand as hypotheses. -/
import Derived.Test.YtiegeadmgpanoaaGreatDoorL20
set_option maxRecDepth 100000
set_option maxHeartbeats 16000000
namespace Go.Proofs.YtiegeadmgpanoaaGreatDoor.E4
open ChangeShapes WideShapes ChangeAt RowKit Sl fB D2 L3 Z3
abbrev eG(kv vv:Value)(c s:Int):Obj:= .cells #[kv,vv,.int .i64 c,.int .i64 s] 89
theorem zG:(Tryz.prog.info? 89).map (·.size)=some 4:=by kernel_rfl
theorem sR {b T:Nat}{v0 v1 v2 v3:Value}{F:Pr}{w:World}(h:Sat ((Pr.pts b (.cells #[v0,v1,v2,v3] T)).star F) w):
 w.cell? ⟨b,0,none⟩=some v0∧w.cell? ⟨b,1,none⟩=some v1∧w.cell? ⟨b,2,none⟩=some v2∧w.cell? ⟨b,3,none⟩=some v3∧(w.frozen? ⟨b,0,none⟩=false∧w.frozen? ⟨b,1,none⟩=false∧w.frozen? ⟨b,2,none⟩=false∧w.frozen? ⟨b,3,none⟩=false)∧b<w.heap.size:=by
 have h1:=h.dL;exact⟨by rw [cell_of_heap h1];rfl,by rw [cell_of_heap h1];rfl,by rw [cell_of_heap h1];rfl,by rw [cell_of_heap h1];rfl,⟨frozen_of_heap h1 0,frozen_of_heap h1 1,frozen_of_heap h1 2,frozen_of_heap h1 3⟩,h.lt⟩
theorem Bt(h:Hp)(v:Value)(x:en)(hv:nD h v x)(hn:x.key.length≤140737488355328∧x.value.length≤140737488355328)(F:Pr)(w:World)(hF:Sat ((Pr.own h).star F) w):
 Calls Tryz.prog 148 #[v] w fun e w'=> ∃kv vv,e= .returned (l6 kv vv x.child x.size)∧Sat ((dM kv x.key).star ((dM vv x.value).star ((Pr.own h).star F))) w'∧dN w w':=by
 obtain⟨kv,vv,rfl,hk,hvv⟩:=hv;obtain⟨ak,ck,rfl⟩:=eB hk;obtain⟨av,cv,rfl⟩:=eB hvv;obtain⟨FO,rH⟩:=hn;have h1:=(hF.alloc (eG (.slice ak x.key.length ck) (.slice av x.value.length cv) x.child x.size)).alloc (eG (.slice none 0 0) (.slice none 0 0) 0 0)
 rw [show (w.alloc (eG (.slice ak x.key.length ck) (.slice av x.value.length cv) x.child x.size)).heap.size=w.heap.size+1 by simp] at h1;have h2:=h1.drew.perm (B:=(Pr.own h).star ((Pr.pts w.heap.size (eG (.slice ak x.key.length ck) (.slice av x.value.length cv) x.child x.size)).star ((Pr.pts (w.heap.size+1) (eG (.slice none 0 0) (.slice none 0 0) 0 0)).star F))) (by ac_rfl)
 have CB:=hQ (jf h _ x.key _ _ h2 hk (by omega));have HV:=hQ hvv;have HN:=hQ rH;have eR:=hQ (((dN.refl w).alloc (eG (.slice ak x.key.length ck) (.slice av x.value.length cv) x.child x.size)).alloc (eG (.slice none 0 0) (.slice none 0 0) 0 0)).drew;clear h1 h2 hk hvv hF FO rH;go_enter Tryz.func148,Tryz.ntmps148
 go_wp2_with fail
 refine wS 14 [0,1,3,4,6,7,8,9] [(2,[],[0,3,4,6,7,8,9]),(5,[10],[0,3,6,7,8,9]),(11,[],[])] ?_;refine dY _ rfl rfl ?_;simp only [pick,pQ];iterate 8 (go_big_quiet_step (fail))
 refine wpQuiet_nil ?_;refine dK rfl ?_;go_wp2_with fail
 refine CB.af.mono ?_;rintro e w1 ⟨v1,rfl,hs2,kU⟩;obtain⟨a1,c1,e1,_,_⟩:=Row.read hs2;subst e1;have fP:Sat ((Pr.own h).star ((Pr.pts w.heap.size (eG (.slice ak x.key.length ck) (.slice av x.value.length cv) x.child x.size)).star ((Pr.pts (w.heap.size+1) (eG (.slice none 0 0) (.slice none 0 0) 0 0)).star ((dM (.slice a1 x.key.length c1) x.key).star F)))) w1:=hs2.perm (by ac_rfl)
 obtain⟨q0,q1,q2,q3,_,z0⟩:=sR fP.right;have Ly:=hQ (jf h _ x.value _ _ fP HV.af (by have:=HN.af;omega));have fa:=hQ (eR.af.trans kU);clear hs2 fP kU CB HV;go_wp2;refine dQ ?_;refine dU ⟨?_,?_⟩
 · exact cQ
 refine dK rfl ?_;go_wp2_with fail
 refine Ly.af.mono ?_;rintro e w2 ⟨v2,rfl,fp,nz⟩;obtain⟨a2,c2,e2,_,_⟩:=Row.read fp;subst e2
 have gu:Sat ((Pr.pts w.heap.size (eG (.slice ak x.key.length ck) (.slice av x.value.length cv) x.child x.size)).star ((Pr.pts (w.heap.size+1) (eG (.slice none 0 0) (.slice none 0 0) 0 0)).star ((dM (.slice a1 x.key.length c1) x.key).star ((dM (.slice a2 x.value.length c2) x.value).star ((Pr.own h).star F))))) w2:=fp.perm (by ac_rfl);clear q0 q1 q2 q3 z0
 obtain⟨q0,q1,q2,q3,_,z0⟩:=sR gu;obtain⟨p0,p1,p2,p3,⟨f0,f1,f2,f3⟩,z1⟩:=sR gu.right;have H5:=hQ gu.right;have ij:=hQ (fa.af.trans nz);clear fp gu nz Ly;go_wp2;refine dQ ?_;refine dY _ rfl rfl ?_;simp only [pick,pQ];iterate 1 (go_big_quiet_step (fail))
 refine wpQuiet_nil ⟨?_,?_⟩
 · exact cQ
 refine dK rfl ?_;go_wp2;refine dQ (dU ⟨eM,dW ?_⟩);go_wp2;have s6:=(((H5.af.setCell (i:=0) (.slice a1 x.key.length c1)).setCell (i:=1) (.slice a2 x.value.length c2)).setCell (i:=2) (.int .i64 x.child)).setCell (i:=3) (.int .i64 x.size)
 have s7:Sat ((Pr.pts (w.heap.size+1) (eG (.slice a1 x.key.length c1) (.slice a2 x.value.length c2) x.child x.size)).star ((dM (.slice a1 x.key.length c1) x.key).star ((dM (.slice a2 x.value.length c2) x.value).star ((Pr.own h).star F)))) _:=s6;refine bodyPost_ret (results_cell_row rfl _ _ (w.heap.size+1) _ _ _ _ rfl s7.dL Tryz.underlying89 rfl zG) rfl ?_
 exact⟨_,_,rfl,s7.right,(((ij.af.setCell _ _).setCell _ _).setCell _ _).setCell _ _⟩
theorem FY {kv vv:Value}{x:en}{F:Pr}{w:World}(h:Sat ((dM kv x.key).star ((dM vv x.value).star F)) w):∃h',nD h' (l6 kv vv x.child x.size) x∧Sat ((Pr.own h').star F) w:=by
 rw [← Pr.dP] at h;obtain⟨h',hq,hs⟩:=h.sf;obtain⟨a,b,ha,hb,s1,s2⟩:=fF hq;exact⟨h',⟨kv,vv,rfl,(Row.jh ha).sub s1,(Row.jh hb).sub s2⟩,hs⟩
structure uj(hk:Hp)(xs:List (Value × Value))(l:List en):Prop where
 len:xs.length=l.length
 at':∀i (hx:i<xs.length) (hl:i<l.length),Bytes hk xs[i].1 l[i].key∧Bytes hk xs[i].2 l[i].value
def fO(v:Value)(xs:List (Value × Value))(l:List en):Pr:=Row 89 4 v l.length ((xs.zip l).flatMap eZ)
theorem uj.snoc {hk h':Hp}(hd:hk.zj h'){xs:List (Value × Value)}{l:List en}(ha:uj hk xs l){kv vv:Value}{x:en}(hx:nD h' (l6 kv vv x.child x.size) x):uj (hk.un h') (xs++ [(kv,vv)]) (l++ [x]):=by
 obtain⟨k',v',e,h1,h2⟩:=hx;simp only [l6,Value.agg.injEq,Array.mk.injEq,List.cons.injEq,and_true] at e;obtain⟨rfl,rfl⟩:=e;have hl:=ha.len;refine⟨by simp [hl],fun i hi hj=> ?_⟩;rcases aB i xs.length with hlt | hge
 · rw [bz hlt,bz (by omega)]
   obtain⟨y1,y2⟩:=ha.at' i hlt (by omega);exact⟨y1.sub (Hp.fE _ _),y2.sub (Hp.fE _ _)⟩
 · simp only [au,List.length_singleton] at hi
   have:i=xs.length:=by omega
   subst this;rw [bj (aD _),bj (by omega)];simp only [b_,hl,List.getElem_singleton];exact⟨h1.sub (Hp.fZ hd),h2.sub (Hp.fZ hd)⟩
theorem vL {v:Value}{hk:Hp}{xs:List (Value × Value)}{l:List en}(ha:uj hk xs l){F:Pr}{w:World}(h:Sat ((fO v xs l).star ((Pr.own hk).star F)) w):∃h',h_ h' v l∧Sat ((Pr.own h').star F) w:=by
 rw [← Pr.dP] at h;obtain⟨h',hq,hs⟩:=h.sf;obtain⟨a,b,hA,hB,s1,s2⟩:=fF hq;cases hB;exact⟨h',IF xs ha.len ((Row.jh hA).sub s1) fun i hx hl=>⟨(ha.at' i hx hl).1.sub s2,(ha.at' i hx hl).2.sub s2⟩,hs⟩
theorem FZ(xs:List (Value × Value))(l:List en)(hl:xs.length=l.length)(kv vv:Value)(x:en):((xs++ [(kv,vv)]).zip (l++ [x])).flatMap eZ=(xs.zip l).flatMap eZ++ [kv,vv,.int .i64 x.child,.int .i64 x.size]:=by
 rw [bD hl];simp [eZ]
theorem yV(h:Hp)(v:Value)(l:List en)(hv:h_ h v l)(hn:l.length≤2199023255552)(hb:∀x∈l,x.key.length≤140737488355328∧x.value.length≤140737488355328)(F:Pr)(w:World)(hF:Sat ((Pr.own h).star F) w):
 Calls Tryz.prog 128 #[v] w fun e w'=> ∃v' h',e= .returned v'∧h_ h' v' l∧Sat ((Pr.own h').star ((Pr.own h).star F)) w'∧dN w w':=by
 obtain⟨a,c,rfl,_,rd⟩:=fL hv;have RD:=hQ rd;have HB:=hQ hb;have HF:=hQ hF;have Oo:(l.length:Int)≤2199023255552:=by omega
 obtain⟨i0,hi,hz0,hz1,jg⟩:=info_parts tM;clear rd hv hF hb;go_enter Tryz.func128,Tryz.ntmps128
 go_wp2;go_loopw [3,4] (fun o i wr=> ∃(k:Nat) (hk:Hp) (xs:List (Value × Value)),k≤l.length∧i= .int .i64 k∧dN w wr∧Hid (uj hk xs (l.take k))∧Sat ((fO o xs (l.take k)).star ((Pr.own hk).star ((Pr.own h).star F))) wr) (fun _ i _=>l.length-(intOf i).toNat)
 case atStart=>
  refine⟨0,Hp.nil,[],aG _,rfl,dN.refl w,hQ ⟨rfl,fun i hx=>absurd hx (by simp)⟩,?_⟩;show Sat ((Row 89 4 (.slice none 0 0) 0 []).star ((Pr.own Hp.nil).star ((Pr.own h).star F))) w
  rw [Row.nil,oS,Pr.fK,Pr.fK];exact HF.af
 case round=>
  obtain⟨k,hk,xs,hkl,rfl,hst,wB,hs⟩:=hrel;have Fj:(l.take k).length=k:=by rw [aW];omega
  obtain⟨ao,co,eo,_,_⟩:=Row.read hs;rw [Fj] at eo;subst eo;rcases aB k l.length with hlt | hge
  · obtain⟨b,off,ak,ck,av,cv,rfl,hbk,qR,hcell⟩:=RD.af k hlt
    have hs1:Sat ((Pr.own h).star ((Row 89 4 (.slice ao k co) k ((xs.zip (l.take k)).flatMap eZ)).star ((Pr.own hk).star F))) wr:=by
     have:=hs
     unfold fO at this;rw [Fj] at this;exact this.perm (by ac_rfl)
    obtain⟨c0,c1,c2,c3⟩:=hcell wr hs1.own;have zb:=ay _ _ c0;have CI:=hQ (Bt h _ l[k] ⟨_,_,rfl,hbk,qR⟩ (HB.af _ (aE hlt)) _ wr hs1);have HT:=hQ (show l.take (k+1)=l.take k++ [l[k]] from aF hlt);have eR:=hQ hst;clear hs hs1 hcell hbk qR hst;generalize l[k]=x at*;go_wp2_with fail
    refine CI.af.mono ?_;rintro e w1 ⟨kv,vv,rfl,hs2,kU⟩;obtain⟨h',hit,fP⟩:=FY hs2;have fp:=fP.perm (B:=(Pr.own hk).star ((Pr.own h').star ((Row 89 4 (.slice ao k co) k ((xs.zip (l.take k)).flatMap eZ)).star ((Pr.own h).star F)))) (by ac_rfl);obtain⟨sP,gu⟩:=fp.jT;have Hd:=wB.af.snoc sP hit
    have gQ:=gu.perm (B:=(Row 89 4 (.slice ao k co) k ((xs.zip (l.take k)).flatMap eZ)).star ((Pr.own (hk.un h')).star ((Pr.own h).star F))) (by ac_rfl);obtain⟨ka,va,ZF,hk1,hk2⟩:=hit;simp only [l6,Value.agg.injEq,Array.mk.injEq,List.cons.injEq,and_true] at ZF;obtain⟨rfl,rfl⟩:=ZF;obtain⟨a1,d1,rfl⟩:=eB hk1;obtain⟨a2,d2,rfl⟩:=eB hk2
    have H1:=hQ (gQ.alloc (.cells [.slice a1 x.key.length d1,.slice a2 x.value.length d2,.int .i64 x.child,.int .i64 x.size].toArray 89)).right;have hnew:=hQ (eW w1 [.slice a1 x.key.length d1,.slice a2 x.value.length d2,.int .i64 x.child,.int .i64 x.size] 89 _ rfl);have HI2:=hQ Hd;have HL:=hQ wB.af.len;have fa:=hQ (eR.af.trans kU)
    clear hs2 fP fp gu gQ hk1 hk2 wB Hd sP kU CI c0 c1 c2 c3 zb
    go_wp2_with (
     at_builtin
     refine eu rfl _ _ _ rfl 89 i0 (.agg #[.slice none 0 0,.slice none 0 0,.int .i64 0,.int .i64 0]) 4 64 Tryz.underlying81 hi hz0 hz1 jg rfl _ _ _ rfl H1.af ⟨w1.heap.size,0,none⟩ 1 1 [.slice a1 x.key.length d1,.slice a2 x.value.length d2,.int .i64 x.child,.int .i64 x.size] rfl rfl hnew.af (by simp [Value.oneCell']) (by simp only [maxLen];omega) (by omega) ?_
     intro v7 w4 fp mD _
     obtain⟨Ke,Kf,xJ,_,_⟩:=Row.read fp
     subst xJ
     have lZ:=hQ fp
     have qx:=hQ mD
     clear fp mD)
    refine⟨⟨k+1,hk.un h',xs++ [(.slice a1 x.key.length d1,.slice a2 x.value.length d2)],by omega,congrArg (Value.int .i64) (by omega),(fa.af.alloc _).eH qx.af,?_,?_⟩,by simp [intOf];omega⟩
    · rw [HT.af];exact HI2
    · have hl2:(l.take k++ [x]).length=k+1:=by rw [au,Fj];rfl
      unfold fO;rw [HT.af,FZ _ _ HL.af,hl2];exact lZ.af
  · have u_:k=l.length:=by omega
    subst u_;have HS:=hQ hs;clear hs;go_wp2;go_ret;have h9:=wB.af;have h8:=HS.af;rw [bE] at h9 h8;obtain⟨h',h1,h2⟩:=vL h9 h8;exact⟨_,h',rfl,h1,h2,hst⟩
abbrev dV(k l:Int)(vi vd:Value)(nx:Int):Obj:= .cells #[.int .i64 k,.int .i64 l,vi,vd,.int .i64 nx] 83
theorem lM {b T:Nat}{v0 v1 v2 v3 v4:Value}{F:Pr}{w:World}(h:Sat ((Pr.pts b (.cells #[v0,v1,v2,v3,v4] T)).star F) w):
 w.cell? ⟨b,0,none⟩=some v0∧w.cell? ⟨b,1,none⟩=some v1∧w.cell? ⟨b,2,none⟩=some v2∧w.cell? ⟨b,3,none⟩=some v3∧w.cell? ⟨b,4,none⟩=some v4∧(w.frozen? ⟨b,0,none⟩=false∧w.frozen? ⟨b,1,none⟩=false∧w.frozen? ⟨b,2,none⟩=false∧w.frozen? ⟨b,3,none⟩=false∧w.frozen? ⟨b,4,none⟩=false)∧b<w.heap.size:=by
 have h1:=h.dL;exact⟨by rw [cell_of_heap h1];rfl,by rw [cell_of_heap h1];rfl,by rw [cell_of_heap h1];rfl,by rw [cell_of_heap h1];rfl,by rw [cell_of_heap h1];rfl,⟨frozen_of_heap h1 0,frozen_of_heap h1 1,frozen_of_heap h1 2,frozen_of_heap h1 3,frozen_of_heap h1 4⟩,h.lt⟩
theorem yd {hi:Hp}{vi vd:Value}{g:dR}(h1:h_ hi vi g.items){F:Pr}{w:World}(h:Sat ((dM vd g.data).star ((Pr.own hi).star F)) w):∃h',fV h' (fX g.kind g.level vi vd g.next) g∧Sat ((Pr.own h').star F) w:=by
 rw [← Pr.dP] at h;obtain⟨h',hq,hs⟩:=h.sf;obtain⟨a,b,hA,hB,s1,s2⟩:=fF hq;cases hB;exact⟨h',⟨vi,vd,rfl,h1.sub s2,(Row.jh hA).sub s1⟩,hs⟩
theorem qd(h:Hp)(v:Value)(g:dR)(hv:fV h v g)(hn:g.items.length≤2199023255552)(hb:∀x∈g.items,x.key.length≤140737488355328∧x.value.length≤140737488355328)(hd:g.data.length≤140737488355328)(F:Pr)(w:World)(hF:Sat ((Pr.own h).star F) w):
 Calls Tryz.prog 86 #[v] w fun e w'=> ∃v' h',e= .returned v'∧fV h' v' g∧Sat ((Pr.own h').star ((Pr.own h).star F)) w'∧dN w w':=by
 obtain⟨vi,vd,rfl,hi,wG⟩:=hv;obtain⟨k,l,its,dat,nx⟩:=g;dsimp only at*;obtain⟨ai,ci,rfl,_,_⟩:=fL hi;obtain⟨ad,cd,rfl⟩:=eB wG;have h1:=(hF.alloc (dV k l (.slice ai its.length ci) (.slice ad dat.length cd) nx)).alloc (dV 0 0 (.slice none 0 0) (.slice none 0 0) 0)
 rw [show (w.alloc (dV k l (.slice ai its.length ci) (.slice ad dat.length cd) nx)).heap.size=w.heap.size+1 by simp] at h1;have h2:=h1.drew.perm (B:=(Pr.own h).star ((Pr.pts w.heap.size (dV k l (.slice ai its.length ci) (.slice ad dat.length cd) nx)).star ((Pr.pts (w.heap.size+1) (dV 0 0 (.slice none 0 0) (.slice none 0 0) 0)).star F))) (by ac_rfl)
 have CI:=hQ (yV h _ its hi hn hb _ _ h2);have HD:=hQ wG;have HN:=hQ hd;have eR:=hQ (((dN.refl w).alloc (dV k l (.slice ai its.length ci) (.slice ad dat.length cd) nx)).alloc (dV 0 0 (.slice none 0 0) (.slice none 0 0) 0)).drew;clear h1 h2 hi wG hF hn hb hd;go_enter Tryz.func86,Tryz.ntmps86
 go_wp2_with fail
 refine wS 16 [0,1,2,3,4,5,7,8,10,11] [(6,[],[0,1,2,3,4,7,8,10,11]),(9,[12],[0,1,2,3,4,7,10,11]),(13,[],[])] ?_;refine dY _ rfl rfl ?_;simp only [pick,pQ];iterate 10 (go_big_quiet_step (fail))
 refine wpQuiet_nil ?_;refine dK rfl ?_;go_wp2_with fail
 refine CI.af.mono ?_;rintro e w1 ⟨v1,h',rfl,hit,hs2,kU⟩;obtain⟨a1,c1,rfl,_,_⟩:=fL hit;have fP:Sat ((Pr.own h).star ((Pr.pts w.heap.size (dV k l (.slice ai its.length ci) (.slice ad dat.length cd) nx)).star ((Pr.pts (w.heap.size+1) (dV 0 0 (.slice none 0 0) (.slice none 0 0) 0)).star ((Pr.own h').star F)))) w1:=hs2.perm (by ac_rfl);obtain⟨q0,q1,q2,q3,q4,_,z0⟩:=lM fP.right
 have Ly:=hQ (jf h _ dat _ _ fP HD.af (by have:=HN.af;omega));have fa:=hQ (eR.af.trans kU);have LC:=hQ hit;clear hs2 fP kU CI HD hit;go_wp2;refine dQ ?_;refine dU ⟨?_,?_⟩
 · exact cQ
 refine dK rfl ?_;go_wp2_with fail
 refine Ly.af.mono ?_;rintro e w2 ⟨v2,rfl,fp,nz⟩;obtain⟨a2,c2,e2,_,_⟩:=Row.read fp;subst e2;have gu:Sat ((Pr.pts w.heap.size (dV k l (.slice ai its.length ci) (.slice ad dat.length cd) nx)).star ((Pr.pts (w.heap.size+1) (dV 0 0 (.slice none 0 0) (.slice none 0 0) 0)).star ((dM (.slice a2 dat.length c2) dat).star ((Pr.own h').star ((Pr.own h).star F))))) w2:=fp.perm (by ac_rfl)
 clear q0 q1 q2 q3 q4 z0;obtain⟨q0,q1,q2,q3,q4,_,z0⟩:=lM gu;obtain⟨p0,p1,p2,p3,p4,⟨f0,f1,f2,f3,f4⟩,z1⟩:=lM gu.right;have H5:=hQ gu.right;have ij:=hQ (fa.af.trans nz);clear fp gu nz Ly;go_wp2;refine dQ ?_;refine dY _ rfl rfl ?_;simp only [pick,pQ];iterate 1 (go_big_quiet_step (fail))
 refine wpQuiet_nil ⟨?_,?_⟩
 · exact cQ
 refine dK rfl ?_;go_wp2;refine dQ (dU ⟨eM,dW ?_⟩);go_wp2;have s6:=((((H5.af.setCell (i:=0) (.int .i64 k)).setCell (i:=1) (.int .i64 l)).setCell (i:=2) (.slice a1 its.length c1)).setCell (i:=3) (.slice a2 dat.length c2)).setCell (i:=4) (.int .i64 nx)
 have s7:Sat ((Pr.pts (w.heap.size+1) (dV k l (.slice a1 its.length c1) (.slice a2 dat.length c2) nx)).star ((dM (.slice a2 dat.length c2) dat).star ((Pr.own h').star ((Pr.own h).star F)))) _:=s6;refine bodyPost_ret (results_cell_row rfl _ _ (w.heap.size+1) _ _ _ _ rfl s7.dL Tryz.underlying83 rfl jW) rfl ?_;obtain⟨hp,e1,e2⟩:=yd (g:=⟨k,l,its,dat,nx⟩) LC.af s7.right
 exact⟨_,hp,rfl,e1,e2,((((ij.af.setCell _ _).setCell _ _).setCell _ _).setCell _ _).setCell _ _⟩
end Go.Proofs.YtiegeadmgpanoaaGreatDoor.E4
namespace Go.Proofs.YtiegeadmgpanoaaGreatDoor.D2
open ChangeShapes WideShapes ChangeAt RowKit Sl fB L3 Z3 E4
theorem Je {h:Hp}{xs:List (Value × Value)}{l:List en}(ha:uj h xs l):∀u∈(xs.zip l).flatMap eZ,u.oneCell'=true:=by
 intro u hu;obtain⟨p,hp,hu⟩:=List.mem_flatMap.1 hu;obtain⟨i,hi,rfl⟩:=bF hp;have En:i<xs.length:=by simp at hi;omega
 have xd:i<l.length:=by simp at hi;omega
 obtain⟨h1,h2⟩:=ha.at' i En xd;obtain⟨a1,c1,e1⟩:=eB h1;obtain⟨a2,c2,e2⟩:=eB h2;simp only [dp,eZ,e1,e2] at hu;simp only [aR,dr,or_false] at hu;rcases hu with rfl | rfl | rfl | rfl<;>rfl
theorem vM(h:Hp)(v:Value)(xs:List (Value × Value))(l:List en)(ha:uj h xs l)(hx:gj h 4 v l.length ((xs.zip l).flatMap eZ))(hn:l.length≤65536)(F:Pr)(w:World)(hF:Sat ((Pr.own h).star F) w):
 Calls Tryz.prog 115 #[v] w fun e w'=> ∃v',e= .returned v'∧Sat ((fO v' xs l).star ((Pr.own h).star F)) w'∧dN w w':=by
 obtain⟨hlen,ad,c,rfl,hnc,hcm,hcell⟩:=id hx;have he:∀wx:World,(binOp .eql 81 (.slice ad l.length c) (.slice none 0 0)).run Tryz.prog wx= .ok (.bool ad.isNone) wx:=fun wx=>Lib.run_eql_slice_nil wx _ _ ad _ c 0 0 Tryz.underlying81
 cases ad with
 | none=>
   have hl:l.length=0:=by
    rcases bI l.length with h0 | h0
    · exact h0
    · obtain⟨b,off,e1,_⟩:=hcell (by omega);cases e1
   have hl2:l= []:=aM hl;have HF:=hQ hF;have HL:=hQ hl2;clear hF hx hcell hl2 hl ha hlen;go_enter Tryz.func115,Tryz.ntmps115
   go_wp2;go_ret;refine⟨_,rfl,?_,dN.refl w⟩;have h1:=HF.af;have h2:=HL.af;subst h2;rw [← Sat.emp, ← Row.nil 89 4] at h1;simpa [fO] using h1
 | some ad=>
   have hnew:Sat ((Row 89 4 (.slice (some ⟨w.heap.size,0,none⟩) 0 0) 0 []).star ((Pr.own h).star F)) (w.alloc (.cells #[] 89)):=
    Row.mk' (xs:= []) (sp:= []) (by simp) (by simp) (aD _) (by simp) (by simpa using hF.alloc (.cells #[] 89))
   have HF:=hQ hnew;have HX:=hQ hx;have HH:=hQ hnew.right.own;have HO:=hQ (Je ha);have HN:=hQ hlen;clear hF hx hcell hnew ha hlen;go_enter Tryz.func115,Tryz.ntmps115
   obtain⟨i0,hi,hz0,hz1,jg⟩:=info_parts tM
   go_wp2_with (
    at_builtin
    refine gB rfl _ _ _ rfl 89 i0 (.agg #[.slice none 0 0,.slice none 0 0,.int .i64 0,.int .i64 0]) 4 64 Tryz.underlying81 hi hz0 hz1 jg rfl _ _ _ rfl HF.af h HH.af _ _ _ rfl HX.af HO.af (by simp only [maxLen];omega) (by omega) ?_
    intro v' w1 hJ hgr _
    have ja:=hQ hJ
    clear hJ)
   go_ret;refine⟨_,rfl,?_,((dN.refl w).alloc _).eH hgr⟩;have h1:=ja.af;rw [Nat.zero_add,List.nil_append] at h1;exact h1
theorem rP {α β:Type}:∀(xs:List α) (l:List β) (k:Nat) (v:α) (h:k<l.length),(xs.zip l).set k (v,l[k])=(xs.set k v).zip l
 | [],l,k,v,h=>by simp
 | x :: xs,[],k,v,h=>absurd h (by simp)
 | x :: xs,y :: l,0,v,h=>by simp
 | x :: xs,y :: l,k+1,v,h=>by
   have:=rP xs l k v (by simpa using h)
   simp only [List.zip_cons_cons,List.set_cons_succ,List.getElem_cons_succ,this]
theorem oD {b c k:Nat}{xs:List (Value × Value)}{l:List en}{F:Pr}{w:World}(h:Sat ((fO (.slice (some ⟨b,0,none⟩) l.length c) xs l).star F) w)(hx:k<xs.length)(hl:k<l.length):
 (w.cell? ⟨b,k*4,none⟩=some xs[k].1∧w.cell? ⟨b,k*4+1,none⟩=some xs[k].2∧w.cell? ⟨b,k*4+2,none⟩=some (.int .i64 l[k].child)∧w.cell? ⟨b,k*4+3,none⟩=some (.int .i64 l[k].size))∧
   (w.frozen? ⟨b,k*4,none⟩=false∧w.frozen? ⟨b,k*4+1,none⟩=false):=by
 obtain⟨a',c',e,_,hc⟩:=Row.read h;cases e;obtain⟨b',eb,hc⟩:=hc (by omega);cases eb
 have at':∀j,j<4→w.cell? ⟨b,k*4+j,none⟩=(eZ (xs[k],l[k]))[j]? ∧w.frozen? ⟨b,k*4+j,none⟩=false:=by
  intro j hj;obtain⟨h1,h2⟩:=hc (k*4+j) (by omega);refine⟨h1.trans ?_,h2⟩;rw [nL eZ 4 (fun _=>rfl) (xs.zip l) k j (by simp;omega) hj];simp
 exact⟨⟨(at' 0 (by omega)).1,(at' 1 (by omega)).1,(at' 2 (by omega)).1,(at' 3 (by omega)).1⟩,(at' 0 (by omega)).2,(at' 1 (by omega)).2⟩
theorem zU {b c k:Nat}{xs:List (Value × Value)}{l:List en}{F:Pr}{w:World}(h:Sat ((fO (.slice (some ⟨b,0,none⟩) l.length c) xs l).star F) w)(hx:k<xs.length)(hl:k<l.length)(v:Value):
 Sat ((fO (.slice (some ⟨b,0,none⟩) l.length c) (xs.set k (v,xs[k].2)) l).star F) (w.setCell ⟨b,k*4,none⟩ v):=by
 have hz:k<(xs.zip l).length:=by simp;omega
 have hlen:=xG eZ 4 (fun _=>rfl) (xs.zip l);have h1:=Row.set h (k*4) (by rw [hlen];omega) v;have e:=xH eZ 4 (fun _=>rfl) 0 v ((v,xs[k].2),l[k]) (by omega) (xs.zip l) k hz (by simp [eZ]);rw [Nat.add_zero,rP _ _ _ _ hl] at e;rw [e] at h1;exact h1
theorem zW {b c k:Nat}{xs:List (Value × Value)}{l:List en}{F:Pr}{w:World}(h:Sat ((fO (.slice (some ⟨b,0,none⟩) l.length c) xs l).star F) w)(hx:k<xs.length)(hl:k<l.length)(v:Value):
 Sat ((fO (.slice (some ⟨b,0,none⟩) l.length c) (xs.set k (xs[k].1,v)) l).star F) (w.setCell ⟨b,k*4+1,none⟩ v):=by
 have hz:k<(xs.zip l).length:=by simp;omega
 have hlen:=xG eZ 4 (fun _=>rfl) (xs.zip l);have h1:=Row.set h (k*4+1) (by rw [hlen];omega) v;have e:=xH eZ 4 (fun _=>rfl) 1 v ((xs[k].1,v),l[k]) (by omega) (xs.zip l) k hz (by simp [eZ]);rw [rP _ _ _ _ hl] at e;rw [e] at h1;exact h1
structure Part(hk:Hp)(Oq xs:List (Value × Value))(l:List en)(k:Nat):Prop where
 len:xs.length=l.length
 new:∀i (hx:i<xs.length) (hl:i<l.length),i<k→Bytes hk xs[i].1 l[i].key∧Bytes hk xs[i].2 l[i].value
 old:∀i,k≤i→xs[i]? =Oq[i]?
theorem Part.step {hk h':Hp}(hd:hk.zj h'){Oq xs:List (Value × Value)}{l:List en}{k:Nat}(hp:Part hk Oq xs l k)(hl:k<l.length){v1 v2:Value}(h1:Bytes h' v1 l[k].key)(h2:Bytes h' v2 l[k].value):
 Part (hk.un h') Oq (xs.set k (v1,v2)) l (k+1):=by
 refine⟨by simp [hp.len],fun i hx hl2 hik=> ?_,fun i hik=> ?_⟩
 · by_cases he:i=k
   · subst he
     simp only [de];exact⟨h1.sub (Hp.fZ hd),h2.sub (Hp.fZ hd)⟩
   · rw [List.getElem_set_ne (by omega)]
     obtain⟨y1,y2⟩:=hp.new i (by simpa using hx) hl2 (by omega);exact⟨y1.sub (Hp.fE _ _),y2.sub (Hp.fE _ _)⟩
 · rw [cn (by omega)]
   exact hp.old i (by omega)
theorem Jf {v1 v2:Value}{l1 l2:List Int}{F:Pr}{w:World}(h:Sat ((dM v1 l1).star ((dM v2 l2).star F)) w):∃h',Bytes h' v1 l1∧Bytes h' v2 l2∧Sat ((Pr.own h').star F) w:=by
 rw [← Pr.dP] at h;obtain⟨h',hq,hs⟩:=h.sf;obtain⟨a,b,ha,hb,s1,s2⟩:=fF hq;exact⟨h',(Row.jh ha).sub s1,(Row.jh hb).sub s2,hs⟩
theorem ye(h:Hp)(v:Value)(g:dR)(hv:fV h v g)(hn:g.items.length≤65536)(hb:∀x∈g.items,x.key.length≤65536∧x.value.length≤65536)(hd:g.data.length≤65536)(F:Pr)(w:World)(hF:Sat ((Pr.own h).star F) w):
 Calls Tryz.prog 73 #[v] w fun e w'=> ∃v' h',e= .returned v'∧fV h' v' g∧Sat ((Pr.own h').star ((Pr.own h).star F)) w'∧dN w w':=by
 obtain⟨vi,vd,rfl,hi,wG⟩:=hv;obtain⟨k0,l0,its,dat,nx⟩:=g;dsimp only at*;obtain⟨xs,hxl,hrow,hbb⟩:=id hi;have wB:uj h xs its:=⟨hxl,hbb⟩;obtain⟨ai,ci,rfl,_,_⟩:=fL hi;obtain⟨ad,cd,rfl⟩:=eB wG;have h1:=(hF.alloc (dV k0 l0 (.slice ai its.length ci) (.slice ad dat.length cd) nx)).alloc (dV 0 0 (.slice none 0 0) (.slice none 0 0) 0)
 rw [show (w.alloc (dV k0 l0 (.slice ai its.length ci) (.slice ad dat.length cd) nx)).heap.size=w.heap.size+1 by simp] at h1;have h2:=h1.drew.perm (B:=(Pr.own h).star ((Pr.pts w.heap.size (dV k0 l0 (.slice ai its.length ci) (.slice ad dat.length cd) nx)).star ((Pr.pts (w.heap.size+1) (dV 0 0 (.slice none 0 0) (.slice none 0 0) 0)).star F))) (by ac_rfl)
 have CI:=hQ (vM h _ xs its wB hrow hn _ _ h2);have HD:=hQ wG;have HN:=hQ hd;have HB:=hQ hb;have LC:=hQ wB;have eR:=hQ (((dN.refl w).alloc (dV k0 l0 (.slice ai its.length ci) (.slice ad dat.length cd) nx)).alloc (dV 0 0 (.slice none 0 0) (.slice none 0 0) 0)).drew;clear h1 h2 hi wG hF hd hb wB hrow hbb;go_enter Tryz.func73,Tryz.ntmps73
 go_wp2_with fail
 refine wS 39 [0,1,3,4] [(2,[6],[0,3,4]),(5,[],[0,3,6]),(7,[8],[]),(9,[],[])] ?_;refine dY _ rfl rfl ?_;simp only [pick,pQ];iterate 4 (go_big_quiet_step (fail))
 refine wpQuiet_nil ?_;refine dK rfl ?_;go_wp2_with fail
 refine CI.af.mono ?_;rintro e w1 ⟨v1,rfl,hs2,kU⟩;obtain⟨a1,c1,e1,_,_⟩:=Row.read hs2;subst e1;have fP:Sat ((Pr.own h).star ((Pr.pts w.heap.size (dV k0 l0 (.slice ai its.length ci) (.slice ad dat.length cd) nx)).star ((Pr.pts (w.heap.size+1) (dV 0 0 (.slice none 0 0) (.slice none 0 0) 0)).star ((fO (.slice a1 its.length c1) xs its).star F)))) w1:=hs2.perm (by ac_rfl)
 obtain⟨q0,q1,q2,q3,q4,_,z0⟩:=lM fP.right;have Ly:=hQ (jU h _ dat _ _ fP fP.own HD.af HN.af);have fa:=hQ (eR.af.trans kU);clear hs2 fP kU CI HD;go_wp2;refine dQ ?_;refine dY _ rfl rfl ?_;simp only [pick,pQ];iterate 1 (go_big_quiet_step (fail))
 refine wpQuiet_nil ⟨?_,?_⟩
 · exact cQ
 refine dK rfl ?_;go_wp2_with fail
 refine Ly.af.mono ?_;rintro e w2 ⟨v2,rfl,fp,nz⟩;obtain⟨a2,c2,e2,_,_⟩:=Row.read fp;subst e2
 have gu:Sat ((Pr.pts w.heap.size (dV k0 l0 (.slice ai its.length ci) (.slice ad dat.length cd) nx)).star ((Pr.pts (w.heap.size+1) (dV 0 0 (.slice none 0 0) (.slice none 0 0) 0)).star ((dM (.slice a2 dat.length c2) dat).star ((fO (.slice a1 its.length c1) xs its).star ((Pr.own h).star F))))) w2:=fp.perm (by ac_rfl);clear q0 q1 q2 q3 q4 z0
 obtain⟨q0,q1,q2,q3,q4,⟨f0,f1,f2,f3,f4⟩,z0⟩:=lM gu;have H5:=hQ gu;have ij:=hQ (fa.af.trans nz);clear fp gu nz Ly;go_wp2;refine dQ ?_;refine dU ⟨?_,?_⟩
 · exact cQ
 refine dK rfl ?_;go_wp2;refine dQ ?_;refine dY _ rfl rfl ?_;simp only [pick,pQ];iterate 1 (go_big_quiet_step (fail))
 refine wpQuiet_nil ⟨?_,?_⟩
 · exact eM
 refine dK rfl ?_;go_wp2;refine dQ (dU ⟨eM,dW ?_⟩);have s6:=(H5.af.setCell (i:=2) (.slice a1 its.length c1)).setCell (i:=3) (.slice a2 dat.length c2)
 have s7:Sat ((Pr.pts w.heap.size (dV k0 l0 (.slice a1 its.length c1) (.slice a2 dat.length c2) nx)).star ((Pr.pts (w.heap.size+1) (dV 0 0 (.slice none 0 0) (.slice none 0 0) 0)).star ((dM (.slice a2 dat.length c2) dat).star ((fO (.slice a1 its.length c1) xs its).star ((Pr.own h).star F))))) _:=s6
 have Dn:=(ij.af.setCell ⟨w.heap.size,2,none⟩ (.slice a1 its.length c1)).setCell ⟨w.heap.size,3,none⟩ (.slice a2 dat.length c2);generalize (w2.setCell ⟨w.heap.size,2,none⟩ (.slice a1 its.length c1)).setCell ⟨w.heap.size,3,none⟩ (.slice a2 dat.length c2)=w5 at*;clear q0 q1 q2 q3 q4 z0 f0 f1 f2 f3 f4 H5 ij;obtain⟨q0,q1,q2,q3,q4,_,z0⟩:=lM s7;have H7:=hQ s7;have l9:=hQ Dn;clear s6 s7 Dn
 have hn0:(its.length:Int)≤65536:=by omega
 go_wp2_with fail
 go_loopw [16] (fun i wr=> ∃(k:Nat) (hk:Hp) (ys:List (Value × Value)),k≤its.length∧i= .int .i64 k∧dN w wr∧Hid (Part hk xs ys its k)∧
  Sat ((Pr.pts w.heap.size (dV k0 l0 (.slice a1 its.length c1) (.slice a2 dat.length c2) nx)).star ((Pr.pts (w.heap.size+1) (dV 0 0 (.slice none 0 0) (.slice none 0 0) 0)).star ((fO (.slice a1 its.length c1) ys its).star ((Pr.own hk).star ((dM (.slice a2 dat.length c2) dat).star ((Pr.own h).star F)))))) wr) (fun i _=>its.length-(intOf i).toNat)
 case atStart=>
  refine⟨0,Hp.nil,xs,aG _,rfl,l9.af,hQ ⟨LC.af.len,fun i _ _ h=>absurd h (by omega),fun _ _=>rfl⟩,?_⟩;rw [oS,Pr.fK];exact H7.af.perm (by ac_rfl)
 case round=>
  obtain⟨k,hk,ys,hkl,rfl,hst,q_,hs⟩:=hrel;clear q0 q1 q2 q3 q4 z0;rcases aB k its.length with hlt | hge
  · have Tr:=q_.af.len
    have Kg:k<ys.length:=by omega
    have Kv:k<xs.length:=by have:=LC.af.len;omega
    have Ts:ys[k]=xs[k]:=by
     have:=q_.af.old k (aD _)
     rw [ag Kg,ag Kv] at this;exact Option.some.inj this
    obtain⟨hb1,hb2⟩:=LC.af.at' k Kv hlt;obtain⟨FO,rH⟩:=HB.af its[k] (aE hlt);rw [← Ts] at hb1 hb2;obtain⟨ak,ck,ek⟩:=eB hb1;obtain⟨av,cv,ev⟩:=eB hb2
    have hr0:=hs.perm (B:=(fO (.slice a1 its.length c1) ys its).star ((Pr.pts w.heap.size (dV k0 l0 (.slice a1 its.length c1) (.slice a2 dat.length c2) nx)).star ((Pr.pts (w.heap.size+1) (dV 0 0 (.slice none 0 0) (.slice none 0 0) 0)).star ((Pr.own hk).star ((dM (.slice a2 dat.length c2) dat).star ((Pr.own h).star F)))))) (by ac_rfl)
    have ha1:∃b,a1=some ⟨b,0,none⟩:=by
     obtain⟨_,_,e,_,hc⟩:=Row.read hr0;cases e;obtain⟨b,e,_⟩:=hc (by omega);exact⟨b,e⟩
    obtain⟨b,rfl⟩:=ha1;obtain⟨⟨r0,r1,r2,r3⟩,_⟩:=oD hr0 Kg hlt;rw [ek] at r0 hb1;rw [ev] at r1 hb2;have PV:=(hs.alloc (eG (.slice ak its[k].key.length ck) (.slice av its[k].value.length cv) its[k].child its[k].size)).drew
    have F3:=hQ (show Sat ((Pr.pts wr.heap.size (eG (.slice ak its[k].key.length ck) (.slice av its[k].value.length cv) its[k].child its[k].size)).star ((Pr.pts w.heap.size (dV k0 l0 (.slice (some ⟨b,0,none⟩) its.length c1) (.slice a2 dat.length c2) nx)).star ((Pr.own h).star ((fO (.slice (some ⟨b,0,none⟩) its.length c1) ys its).star ((Pr.pts (w.heap.size+1) (dV 0 0 (.slice none 0 0) (.slice none 0 0) 0)).star ((Pr.own hk).star ((dM (.slice a2 dat.length c2) dat).star F))))))) _ from PV.perm (by ac_rfl))
    obtain⟨q0,q1,q2,q3,q4,_,z0⟩:=lM hs;have CK:=hQ (jU h _ its[k].key _ _ F3.af F3.af.right.right.own hb1 FO);have XF:=hQ hb2;have F4:=hQ ((hst.alloc (eG (.slice ak its[k].key.length ck) (.slice av its[k].value.length cv) its[k].child its[k].size)).drew);have z1:w.heap.size<wr.heap.size:=hs.lt;have LD:=hQ q_.af;have Xv:=hQ ev;have HEK:=hQ ek
    clear hs hr0 PV hb1 hb2 hst q_ Ts ek ev;go_wp2_with fail
    refine wS 39 [0,1,2,3,4,5,6,7,9,10] [(8,[],[0,1,2,3,4,5,6,9,10]),(11,[12,13],[0,1,2,3,4,5,6,9]),(14,[15,16],[3,4,5,9,12]),(17,[],[15])] ?_;refine dY _ rfl rfl ?_;simp only [pick,pQ];iterate 10 (go_big_quiet_step (fail))
    refine wpQuiet_nil ?_;refine dK rfl ?_;go_wp2_with fail
    refine CK.af.mono ?_;rintro e w3 ⟨v3,rfl,fP,mF⟩;obtain⟨a3,c3,e3,_,_⟩:=Row.read fP;subst e3
    have H3:=hQ (show Sat ((Pr.pts wr.heap.size (eG (.slice ak its[k].key.length ck) (.slice av its[k].value.length cv) its[k].child its[k].size)).star ((Pr.pts w.heap.size (dV k0 l0 (.slice (some ⟨b,0,none⟩) its.length c1) (.slice a2 dat.length c2) nx)).star ((Pr.own h).star ((dM (.slice a3 its[k].key.length c3) its[k].key).star ((fO (.slice (some ⟨b,0,none⟩) its.length c1) ys its).star ((Pr.pts (w.heap.size+1) (dV 0 0 (.slice none 0 0) (.slice none 0 0) 0)).star ((Pr.own hk).star ((dM (.slice a2 dat.length c2) dat).star F)))))))) w3 from fP.perm (by ac_rfl))
    have gg:=hQ (F4.af.trans mF);clear q0 q1 q2 q3 q4 z0 r0 r1 r2 r3 CK fP mF F3;obtain⟨q0,q1,q2,q3,q4,_,z0⟩:=lM H3.af.right;obtain⟨i0,i1,i2,i3,_,z2⟩:=sR H3.af;have CV:=hQ (jU h _ its[k].value _ _ H3.af H3.af.right.right.own XF.af rH);go_wp2;refine dQ ?_;refine dU ⟨?_,?_⟩
    · exact cQ
    refine dK rfl ?_;go_wp2_with fail
    refine CV.af.mono ?_;rintro e w4 ⟨v4,rfl,fp,nz⟩;obtain⟨a4,c4,e4,_,_⟩:=Row.read fp;subst e4
    have H4:=hQ (show Sat ((Pr.pts wr.heap.size (eG (.slice ak its[k].key.length ck) (.slice av its[k].value.length cv) its[k].child its[k].size)).star ((Pr.pts w.heap.size (dV k0 l0 (.slice (some ⟨b,0,none⟩) its.length c1) (.slice a2 dat.length c2) nx)).star ((Pr.own h).star ((dM (.slice a3 its[k].key.length c3) its[k].key).star ((dM (.slice a4 its[k].value.length c4) its[k].value).star ((fO (.slice (some ⟨b,0,none⟩) its.length c1) ys its).star ((Pr.pts (w.heap.size+1) (dV 0 0 (.slice none 0 0) (.slice none 0 0) 0)).star ((Pr.own hk).star ((dM (.slice a2 dat.length c2) dat).star F))))))))) w4 from fp.perm (by ac_rfl))
    have ij:=hQ (gg.af.trans nz);clear q0 q1 q2 q3 q4 z0 i0 i1 i2 i3 z2 CV fp nz H3;obtain⟨q0,q1,q2,q3,q4,_,z0⟩:=lM H4.af.right;obtain⟨i0,i1,i2,i3,_,z2⟩:=sR H4.af
    have R4:=hQ (show Sat ((fO (.slice (some ⟨b,0,none⟩) its.length c1) ys its).star ((Pr.pts wr.heap.size (eG (.slice ak its[k].key.length ck) (.slice av its[k].value.length cv) its[k].child its[k].size)).star ((Pr.pts w.heap.size (dV k0 l0 (.slice (some ⟨b,0,none⟩) its.length c1) (.slice a2 dat.length c2) nx)).star ((dM (.slice a3 its[k].key.length c3) its[k].key).star ((dM (.slice a4 its[k].value.length c4) its[k].value).star ((Pr.own h).star ((Pr.pts (w.heap.size+1) (dV 0 0 (.slice none 0 0) (.slice none 0 0) 0)).star ((Pr.own hk).star ((dM (.slice a2 dat.length c2) dat).star F))))))))) w4 from H4.af.perm (by ac_rfl))
    obtain⟨⟨r0,r1,r2,r3⟩,g0,g1⟩:=oD R4.af Kg hlt;go_wp2;refine dQ ?_;refine dY _ rfl rfl ?_;simp only [pick,pQ];iterate 2 (go_big_quiet_step (fail))
    refine wpQuiet_nil ⟨?_,?_⟩
    · exact cQ
    refine dK rfl ?_;go_wp2;have s5:=zU R4.af Kg hlt (.slice a3 its[k].key.length c3);have t5:=ij.af.setCell ⟨b,k*4,none⟩ (.slice a3 its[k].key.length c3);generalize w4.setCell ⟨b,k*4,none⟩ (.slice a3 its[k].key.length c3)=XG at*;have LG:k<(ys.set k (.slice a3 its[k].key.length c3,ys[k].2)).length:=by simpa using Kg
    have R5:=hQ s5;have iM:=hQ t5;clear q0 q1 q2 q3 q4 z0 i0 i1 i2 i3 z2 r0 r1 r2 r3 g0 g1 s5 t5 R4 H4;obtain⟨q0,q1,q2,q3,q4,_,z0⟩:=lM R5.af.right.right;obtain⟨i0,i1,i2,i3,_,z2⟩:=sR R5.af.right;obtain⟨⟨r0,r1,r2,r3⟩,g0,g1⟩:=oD R5.af LG hlt;refine dQ ?_;refine dY _ rfl rfl ?_;simp only [pick,pQ];iterate 2 (go_big_quiet_step (fail))
    refine wpQuiet_nil ⟨?_,?_⟩
    · exact cQ
    refine dK rfl ?_;go_wp2;have s6:=zW R5.af LG hlt (.slice a4 its[k].value.length c4);have t6:=iM.af.setCell ⟨b,k*4+1,none⟩ (.slice a4 its[k].value.length c4);generalize XG.setCell ⟨b,k*4+1,none⟩ (.slice a4 its[k].value.length c4)=w6' at*;rw [List.set_set,de] at s6;have R6:=hQ s6;have LH:=hQ t6
    clear q0 q1 q2 q3 q4 z0 i0 i1 i2 i3 z2 r0 r1 r2 r3 g0 g1 s6 t6 R5;obtain⟨q0,q1,q2,q3,q4,_,z0⟩:=lM R6.af.right.right;refine dQ ?_;refine dU ⟨?_,?_⟩
    · exact cQ
    refine dW ?_;go_wp2;go_roundw
    case rel=>
     have h8:=R6.af.perm (B:=(dM (.slice a3 its[k].key.length c3) its[k].key).star ((dM (.slice a4 its[k].value.length c4) its[k].value).star ((Pr.own hk).star ((Pr.pts wr.heap.size (eG (.slice ak its[k].key.length ck) (.slice av its[k].value.length cv) its[k].child its[k].size)).star ((fO (.slice (some ⟨b,0,none⟩) its.length c1) (ys.set k (.slice a3 its[k].key.length c3,.slice a4 its[k].value.length c4)) its).star ((Pr.pts w.heap.size (dV k0 l0 (.slice (some ⟨b,0,none⟩) its.length c1) (.slice a2 dat.length c2) nx)).star ((Pr.own h).star ((Pr.pts (w.heap.size+1) (dV 0 0 (.slice none 0 0) (.slice none 0 0) 0)).star ((dM (.slice a2 dat.length c2) dat).star F))))))))) (by ac_rfl)
     obtain⟨h',y1,y2,h9⟩:=Jf h8
     have h10:=h9.perm (B:=(Pr.own hk).star ((Pr.own h').star ((Pr.pts wr.heap.size (eG (.slice ak its[k].key.length ck) (.slice av its[k].value.length cv) its[k].child its[k].size)).star ((fO (.slice (some ⟨b,0,none⟩) its.length c1) (ys.set k (.slice a3 its[k].key.length c3,.slice a4 its[k].value.length c4)) its).star ((Pr.pts w.heap.size (dV k0 l0 (.slice (some ⟨b,0,none⟩) its.length c1) (.slice a2 dat.length c2) nx)).star ((Pr.own h).star ((Pr.pts (w.heap.size+1) (dV 0 0 (.slice none 0 0) (.slice none 0 0) 0)).star ((dM (.slice a2 dat.length c2) dat).star F)))))))) (by ac_rfl)
     obtain⟨sP,h11⟩:=h10.jT;refine⟨k+1,hk.un h',_,by omega,congrArg (Value.int .i64) (by omega),LH.af,hQ (LD.af.step sP hlt y1 y2),?_⟩;refine(h11.perm (B:=(Pr.pts wr.heap.size (eG (.slice ak its[k].key.length ck) (.slice av its[k].value.length cv) its[k].child its[k].size)).star _) (Pr.eD _ _ _)).right.perm (by ac_rfl)
    case measure=>simp [intOf];omega
  · have u_:k=its.length:=by omega
    subst u_;obtain⟨q0,q1,q2,q3,q4,_,z0⟩:=lM hs;obtain⟨p0,p1,p2,p3,p4,⟨f0,f1,f2,f3,f4⟩,z1⟩:=lM hs.right;have HS:=hQ hs.right;have F4:=hQ hst;clear hs hst;go_wp2;have s6:=((((HS.af.setCell (i:=0) (.int .i64 k0)).setCell (i:=1) (.int .i64 l0)).setCell (i:=2) (.slice a1 its.length c1)).setCell (i:=3) (.slice a2 dat.length c2)).setCell (i:=4) (.int .i64 nx)
    have s7:Sat ((Pr.pts (w.heap.size+1) (dV k0 l0 (.slice a1 its.length c1) (.slice a2 dat.length c2) nx)).star ((fO (.slice a1 its.length c1) ys its).star ((Pr.own hk).star ((dM (.slice a2 dat.length c2) dat).star ((Pr.own h).star F))))) _:=s6;refine bodyPost_ret (results_cell_row rfl _ _ (w.heap.size+1) _ _ _ _ rfl s7.dL Tryz.underlying83 rfl jW) rfl ?_
    have hp:=q_.af;obtain⟨hh,Hd,s8⟩:=vL (l:=its) ⟨hp.len,fun i hx hl=>hp.new i hx hl hl⟩ s7.right;obtain⟨oK,e1,e2⟩:=yd (g:=⟨k0,l0,its,dat,nx⟩) Hd (s8.perm (Pr.eD _ _ _));exact⟨_,oK,rfl,e1,e2,((((F4.af.setCell _ _).setCell _ _).setCell _ _).setCell _ _).setCell _ _⟩
end Go.Proofs.YtiegeadmgpanoaaGreatDoor.D2
namespace Go.Proofs.YtiegeadmgpanoaaGreatDoor.D2
open ChangeShapes WideShapes ChangeAt RowKit Sl fB Z3 E4
theorem Dp(ha hb:Hp)(va vb:Value)(x:en)(h1:nD ha va x)(h2:nD hb vb x)(hn:x.key.length≤9000000000000000000∧x.value.length≤9000000000000000000)(w:World)(l1:ha.le w)(l2:hb.le w):
 Calls Tryz.prog 87 #[va,vb] w fun e w'=>e= .returned (.bool true)∧eV w w':=by
 obtain⟨k1,v1,rfl,hk1,hv1⟩:=h1;obtain⟨k2,v2,rfl,hk2,Cv⟩:=h2;obtain⟨a1,c1,rfl⟩:=eB hk1;obtain⟨a2,c2,rfl⟩:=eB hv1;obtain⟨a3,c3,rfl⟩:=eB hk2;obtain⟨a4,c4,rfl⟩:=eB Cv
 obtain⟨w0,hw0⟩:∃w0,(w.alloc (eG (.slice a1 x.key.length c1) (.slice a2 x.value.length c2) x.child x.size)).alloc (eG (.slice a3 x.key.length c3) (.slice a4 x.value.length c4) x.child x.size)=w0:=⟨_,rfl⟩;have ho0:eV w w0:=hw0 ▸ ((eV.refl w).alloc _).alloc _
 have facts:∀wr,eV w0 wr→(wr.cell? ⟨w.heap.size,0,none⟩=some (.slice a1 x.key.length c1)∧wr.cell? ⟨w.heap.size,1,none⟩=some (.slice a2 x.value.length c2)∧wr.cell? ⟨w.heap.size,2,none⟩=some (.int .i64 x.child)∧wr.cell? ⟨w.heap.size,3,none⟩=some (.int .i64 x.size))∧
  (wr.cell? ⟨w.heap.size+1,0,none⟩=some (.slice a3 x.key.length c3)∧wr.cell? ⟨w.heap.size+1,1,none⟩=some (.slice a4 x.value.length c4)∧wr.cell? ⟨w.heap.size+1,2,none⟩=some (.int .i64 x.child)∧wr.cell? ⟨w.heap.size+1,3,none⟩=some (.int .i64 x.size))∧ha.le wr∧hb.le wr∧w.heap.size+1<wr.heap.size:=by
  intro wr ho;subst hw0;have s1:Sat ((Pr.pts w.heap.size (eG (.slice a1 x.key.length c1) (.slice a2 x.value.length c2) x.child x.size)).star Pr.emp) (w.alloc (eG (.slice a1 x.key.length c1) (.slice a2 x.value.length c2) x.child x.size)):=(Be w).alloc _;have s2:=s1.alloc (eG (.slice a3 x.key.length c3) (.slice a4 x.value.length c4) x.child x.size)
  rw [show (w.alloc (eG (.slice a1 x.key.length c1) (.slice a2 x.value.length c2) x.child x.size)).heap.size=w.heap.size+1 by simp] at s2;have s3:=s2.only ho;obtain⟨p0,p1,p2,p3,_,_⟩:=sR s3.right;obtain⟨r0,r1,r2,r3,_,zz⟩:=sR s3;exact⟨⟨p0,p1,p2,p3⟩,⟨r0,r1,r2,r3⟩,ko (ko l1 ho0) ho,ko (ko l2 ho0) ho,zz⟩
 have FA:=hQ facts;have wj:=hQ ho0;have H1:=hQ (And.intro hk1 hv1);have H2:=hQ (And.intro hk2 Cv);clear facts ho0 hk1 hv1 hk2 Cv l1 l2;obtain⟨⟨p0,p1,p2,p3⟩,⟨r0,r1,r2,r3⟩,e1,e2,z⟩:=FA.af w0 (eV.refl _);go_enter Tryz.func87,Tryz.ntmps87
 go_wp2_with fail
 refine(oP ha hb _ _ x.key H1.af.1 H2.af.1 hn.1 _ e1 e2).mono ?_;rintro e w1 ⟨rfl,zA⟩;clear p0 p1 p2 p3 r0 r1 r2 r3 e1 e2 z;obtain⟨⟨p0,p1,p2,p3⟩,⟨r0,r1,r2,r3⟩,e1,e2,z⟩:=FA.af w1 zA;go_wp2_with fail
 refine(oP ha hb _ _ x.value H1.af.2 H2.af.2 hn.2 _ e1 e2).mono ?_;rintro e w2 ⟨rfl,G7⟩;go_wp2;go_ret;exact⟨rfl,wj.af.trans (zA.trans G7)⟩
theorem Dq(ha hb:Hp)(va vb:Value)(g:dR)(h1:fV ha va g)(h2:fV hb vb g)(hf:Fit g)(w:World)(l1:ha.le w)(l2:hb.le w):
 Calls Tryz.prog 47 #[va,vb] w fun e w'=>e= .returned (.bool true)∧eV w w':=by
 obtain⟨i1,d1,rfl,En,hd1⟩:=h1;obtain⟨i2,d2,rfl,xd,zq⟩:=h2;obtain⟨a1,c1,rfl,_,SZ⟩:=fL En;obtain⟨a3,c3,rfl,_,ZG⟩:=fL xd;obtain⟨a2,c2,rfl⟩:=eB hd1;obtain⟨a4,c4,rfl⟩:=eB zq;obtain⟨k,l,its,dat,nx⟩:=g;dsimp only at*;have FO:(its.length:Int)≤8:=by have:=hf.n;dsimp only at this;omega
 have KI:dat.length≤9000000000000000000:=by have:=hf.d;dsimp only at this;omega
 have hkk:∀y∈its,y.key.length≤9000000000000000000∧y.value.length≤9000000000000000000:=fun y hy=>by have:=hf.k y hy;omega
 obtain⟨w0,hw0⟩:∃w0,(w.alloc (dV k l (.slice a1 its.length c1) (.slice a2 dat.length c2) nx)).alloc (dV k l (.slice a3 its.length c3) (.slice a4 dat.length c4) nx)=w0:=⟨_,rfl⟩;have ho0:eV w w0:=hw0 ▸ ((eV.refl w).alloc _).alloc _
 have facts:∀wr,eV w0 wr→(wr.cell? ⟨w.heap.size,0,none⟩=some (.int .i64 k)∧wr.cell? ⟨w.heap.size,1,none⟩=some (.int .i64 l)∧wr.cell? ⟨w.heap.size,2,none⟩=some (.slice a1 its.length c1)∧wr.cell? ⟨w.heap.size,3,none⟩=some (.slice a2 dat.length c2)∧wr.cell? ⟨w.heap.size,4,none⟩=some (.int .i64 nx))∧
  (wr.cell? ⟨w.heap.size+1,0,none⟩=some (.int .i64 k)∧wr.cell? ⟨w.heap.size+1,1,none⟩=some (.int .i64 l)∧wr.cell? ⟨w.heap.size+1,2,none⟩=some (.slice a3 its.length c3)∧wr.cell? ⟨w.heap.size+1,3,none⟩=some (.slice a4 dat.length c4)∧wr.cell? ⟨w.heap.size+1,4,none⟩=some (.int .i64 nx))∧ha.le wr∧hb.le wr∧w.heap.size+1<wr.heap.size:=by
  intro wr ho;subst hw0;have s1:Sat ((Pr.pts w.heap.size (dV k l (.slice a1 its.length c1) (.slice a2 dat.length c2) nx)).star Pr.emp) (w.alloc (dV k l (.slice a1 its.length c1) (.slice a2 dat.length c2) nx)):=(Be w).alloc _;have s2:=s1.alloc (dV k l (.slice a3 its.length c3) (.slice a4 dat.length c4) nx)
  rw [show (w.alloc (dV k l (.slice a1 its.length c1) (.slice a2 dat.length c2) nx)).heap.size=w.heap.size+1 by simp] at s2;have s3:=s2.only ho;obtain⟨p0,p1,p2,p3,p4,_,_⟩:=lM s3.right;obtain⟨r0,r1,r2,r3,r4,_,zz⟩:=lM s3;exact⟨⟨p0,p1,p2,p3,p4⟩,⟨r0,r1,r2,r3,r4⟩,ko (ko l1 ho0) ho,ko (ko l2 ho0) ho,zz⟩
 have FA:=hQ facts;have wj:=hQ ho0;have RD1:=hQ SZ;have S9:=hQ ZG;have HD1:=hQ hd1;have Tt:=hQ zq;have HK:=hQ hkk;clear facts ho0 SZ ZG hd1 zq En xd l1 l2 hkk hf;obtain⟨⟨p0,p1,p2,p3,p4⟩,⟨r0,r1,r2,r3,r4⟩,e1,e2,z⟩:=FA.af w0 (eV.refl _);go_enter Tryz.func47,Tryz.ntmps47
 go_wp2_with fail
 refine(oP ha hb _ _ dat HD1.af Tt.af KI _ e1 e2).mono ?_;rintro e w1 ⟨rfl,zA⟩;clear p0 p1 p2 p3 p4 r0 r1 r2 r3 r4 e1 e2 z;go_wp2_with fail
 go_loopw [5] (fun i wr=> ∃r:Nat,r≤its.length∧i= .int .i64 r∧eV w0 wr) (fun i _=>its.length-(intOf i).toNat)
 case atStart=>exact⟨0,aG _,rfl,zA⟩
 case round=>
  obtain⟨r,hr,rfl,ho⟩:=hrel;obtain⟨⟨p0,p1,p2,p3,p4⟩,⟨r0,r1,r2,r3,r4⟩,e1,e2,z⟩:=FA.af wr ho;rcases aB r its.length with hlt | hge
  · obtain⟨b1,o1,ak1,ck1,av1,cv1,rfl,XH,XI,hc1⟩:=RD1.af r hlt
    obtain⟨b2,o2,Kh,Ki,XJ,XK,rfl,sd,Bu,o7⟩:=S9.af r hlt;obtain⟨s0,s1,s2,s3⟩:=hc1 wr e1;obtain⟨t0,t1,t2,t3⟩:=o7 wr e2;have HX:=hQ (HK.af its[r] (aE hlt));have Sf:=hQ hc1;have F5:=hQ o7;have HO:=hQ ho;clear hc1 o7 ho;generalize its[r]=x at*;go_wp2_with fail
    refine wS 61 [0,1,2,3,4,5,6,7,8,9] [(10,[11],[0,1,2,3,5,6,7,8])] ?_;refine dY _ rfl rfl ?_;simp only [pick,pQ];iterate 10 (go_big_quiet_step (fail))
    refine wpQuiet_nil ?_;refine dK rfl ?_;go_wp2_with fail
    refine(Dp ha hb _ _ x ⟨_,_,rfl,XH,XI⟩ ⟨_,_,rfl,sd,Bu⟩ HX.af _ (ko e1 ((eV.refl _).drew)) (ko e2 ((eV.refl _).drew))).mono ?_;rintro e w2 ⟨rfl,G7⟩;have vH:=hQ (HO.af.drew.trans G7);clear p0 p1 p2 p3 p4 r0 r1 r2 r3 r4 e1 e2 z s0 s1 s2 s3 t0 t1 t2 t3;obtain⟨⟨p0,p1,p2,p3,p4⟩,⟨r0,r1,r2,r3,r4⟩,e1,e2,z⟩:=FA.af w2 vH.af;obtain⟨s0,s1,s2,s3⟩:=Sf.af w2 e1
    obtain⟨t0,t1,t2,t3⟩:=F5.af w2 e2;go_wp2;refine dQ ?_;refine dY _ rfl rfl ?_;simp only [pick,pQ];iterate 1 (go_big_quiet_step (fail))
    refine wpQuiet_nil ⟨?_,?_⟩
    · exact cQ
    refine dW ?_;go_wp2;go_roundw
    case rel=>exact⟨r+1,by omega,congrArg (Value.int .i64) (by omega),vH.af⟩
    case measure=>simp [intOf];omega
  · have hrl:r=its.length:=by omega
    subst hrl;have HO:=hQ ho;clear ho;go_wp2;go_ret;exact⟨rfl,wj.af.trans HO.af⟩
end Go.Proofs.YtiegeadmgpanoaaGreatDoor.D2
