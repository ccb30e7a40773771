/- The walk that is told of pairs (Scan, Back): each pair copied; the conditions stand as hypotheses. -/
import Derived.Test.YtiegeadmgpanoaaGreatDoorL40
import Derived.Test.YtiegeadmgpanoaaGreatDoorL42
set_option maxRecDepth 100000
set_option maxHeartbeats 16000000
namespace Go.Proofs.YtiegeadmgpanoaaGreatDoor.E4
open ChangeShapes WideShapes ChangeAt RowKit Sl fB Go.Shelf D2 Z3
attribute [local go_sem] Oper.semAt_some
def wo(x:fY):Array Value:= #[x.1.1,x.1.2]
def Sv(ws:List (List Int × List Int))(pre:List fY)(x:fY):Prop:= ∃hl:pre.length<ws.length,x.2=ws[pre.length]
def gR(tb sb fi:Nat)(pv:Value)(h:Hp):Pr:=(Pr.pts tb (.cells #[.func (.func fi) #[] #[.pointer (some ⟨sb,0,none⟩)]] 129)).star (gP sb pv h)
def TI(J:List fY→Pr)(l y tb fi sb:Nat)(pre:List (Int × fY)):Pr:=Pr.ex fun xs:List fY=>(Pr.pure (xs.length=pre.length)).star ((J xs).star ((Pr.pts y (.cells #[.func (.yield l) #[] #[]] 47)).star (Pr.pts tb (.cells #[.func (.func fi) #[] #[.pointer (some ⟨sb,0,none⟩)]] 129))))
def TX(Jx:List fY→Pr)(y l tb fi sb:Nat)(c:Code)(pre:List (Int × fY)):Pr:=Pr.ex fun xs:List fY=>(Pr.pure (c= .ret∧xs.length=pre.length)).star ((Jx xs).star ((Pr.pts y (.cells #[.func (.yield l) #[] #[]] 47)).star (Pr.pts tb (.cells #[.func (.func fi) #[] #[.pointer (some ⟨sb,0,none⟩)]] 129))))
theorem P8(fi tb sb:Nat)(pv:Value)(h:Hp)(zs:List fY)(ws:List (List Int × List Int))(OkX:List (Int × fY)→Int × fY→Prop)(hlz:ws.length=zs.length)
 (hit:vu Tryz.prog fi #[.pointer (some ⟨sb,0,none⟩)] J0 OkX (fun xs=>xs.length=zs.length) (fun xs=>xs.length≤zs.length) (gP sb pv h))
 (he:∀args w,(callFunc fi args).run Tryz.prog w= .ok (.enter fi args) w) (hok:∀pre x,OkX pre x→x.2∈zs∧∃hl:pre.length<ws.length,x.2.2=ws[pre.length])
 (hP:jm h pv zs) (hn:∀x∈ws,x.1.length≤65536∧x.2.length≤65536):
 tm Tryz.prog 95 #[.pointer (some ⟨tb,0,none⟩)] wo (Sv ws) (fun xs=>xs.length=ws.length) (fun xs=>xs.length≤ws.length) d_ (gR tb sb fi pv h):=by
 intro l J Jx W hY h0;refine(callsIn_wide (n:=9)).1 (callsIn_of_wp_marks Tryz.func95 rfl trivial ?_ rfl);simp only [Tryz.ntmps95,bu,List.length_cons,List.length_nil,Nat.reduceAdd,Nat.reduceSub,Array.replicate_succ,Array.replicate_zero,bB,a_,List.nil_append,List.cons_append]
 have hs0:dS [Pr.pts tb (.cells #[.func (.func fi) #[] #[.pointer (some ⟨sb,0,none⟩)]] 129),gP sb pv h,J []] W:=⟨h0.perm (by unfold gR;simp only [eJ,Pr.ei];ac_rfl)⟩;have hs1:=hs0.alloc (.cells #[.func (.yield l) #[] #[]] 47);have c1:=hs0.facts;simp only [mB,and_true] at c1;have HY:=hQ hY;have ig:=hQ hs1
 have HR:=hQ ((dN.refl W).alloc (.cells #[.func (.yield l) #[] #[]] 47));have HH:=hQ (And.intro hok (And.intro hP hn));have HLZ:=hQ hlz;clear hY h0 hs0 hs1 hok hP hn hlz;gi_wp2
 have U1:=ig.af;have U2:=HR.af;clear ig HR;generalize W.heap.size=y at*;generalize W.alloc (.cells #[.func (.yield l) #[] #[]] 47)=W0 at*;have HR:=hQ U2;refine mr (gf:=fi) rfl he hit (fun _=>rfl) (TI J l y tb fi sb) (TX Jx y l tb fi sb) ?start ?round ?done ?stop
 case start=>
  unfold TI;simp only [Pr.fC,Sat.qk];refine⟨[],?_⟩;rw [Pr.dP];exact Sat.pure.2 ⟨rfl,(U1.to (M:= [J [],Pr.pts y (.cells #[.func (.yield l) #[] #[]] 47),Pr.pts tb (.cells #[.func (.func fi) #[] #[.pointer (some ⟨sb,0,none⟩)]] 129),gP sb pv h])).sat.perm (by simp only [eJ,Pr.ei,Pr.dP])⟩
 case round=>
  intro l' pre x W1 F1 BE hs;obtain⟨ix,x⟩:=x;obtain⟨hmem,hl,P9⟩:=HH.af.1 _ _ BE;dsimp only at hmem P9;obtain⟨b1,b2⟩:=HH.af.2.1.2 x hmem;obtain⟨n1,n2⟩:=HH.af.2.2 _ (aE hl);rw [← P9] at n1 n2;obtain⟨⟨y1,y2⟩,V1,V2⟩:=x;dsimp only at b1 b2 n1 n2 P9;obtain⟨k1,m1,rfl⟩:=eB b1;obtain⟨k2,m2,rfl⟩:=eB b2;have HB:=hQ (And.intro b1 (And.intro b2 (And.intro n1 n2)))
  have HL:=hQ (show ∃hl:pre.length<ws.length,(V1,V2)=ws[pre.length] from⟨hl,P9⟩);unfold TI at hs;simp only [Pr.fC,Sat.qk] at hs;obtain⟨xs,hs⟩:=hs;rw [Pr.dP,Pr.dP] at hs;obtain⟨hxl,hs⟩:=Sat.pure.1 hs
  have hs1:dS [J xs,Pr.pts y (.cells #[.func (.yield l) #[] #[]] 47),Pr.pts tb (.cells #[.func (.func fi) #[] #[.pointer (some ⟨sb,0,none⟩)]] 129),gP sb pv h,F1] W1:=⟨hs.perm (by simp only [eJ,Pr.ei,Pr.dP])⟩;have P_:=hQ hxl;have ig:=hQ hs1;clear hs hs1 hxl b1 b2 n1 n2 hl P9 hmem BE U1 U2;simp only [J0,Hv];gi_wp2
  have ny:=ig.af.alloc (.cells #[.slice k1 V1.length m1,.slice k2 V2.length m2] 49);obtain⟨B,hB⟩:∃B,W1.heap.size=B:=⟨_,rfl⟩;rw [hB] at ny ⊢
  refine⟨eJ [Pr.pts B (.cells #[.slice k1 V1.length m1,.slice k2 V2.length m2] 49),J xs,Pr.pts y (.cells #[.func (.yield l) #[] #[]] 47),Pr.pts tb (.cells #[.func (.func fi) #[] #[.pointer (some ⟨sb,0,none⟩)]] 129),gP sb pv h],(dN.refl _).alloc _,ny.sat.perm (by simp only [eJ,Pr.ei,Pr.dP]),?_⟩;clear ny ig hB;intro F2 W2 _ hs2
  have fP:dS [Pr.pts B (.cells #[.slice k1 V1.length m1,.slice k2 V2.length m2] 49),J xs,Pr.pts y (.cells #[.func (.yield l) #[] #[]] 47),Pr.pts tb (.cells #[.func (.func fi) #[] #[.pointer (some ⟨sb,0,none⟩)]] 129),Pr.pts sb (.cells #[pv] 60),Pr.own h,F2] W2:=⟨hs2.perm (by unfold gP;simp only [eJ,Pr.ei,Pr.dP])⟩;have fp:=fP.drew;have c2:=fP.fx;have C1:=hQ (jU h _ V1 _ _ fp.sat fp.le HB.af.1 HB.af.2.2.1);clear hs2 fP fp;gi_wp2_with fail
  refine rZ (sz:=17) (fun _=>trivial) (by kernel_rfl) [0,1,2,4,5] [(3,[],[0,1,4,5]),(6,[],[0,1,4]),(7,[8],[1,4])] rfl (by kernel_rfl) (by kernel_rfl) (by kernel_rfl) (by kernel_rfl) ?_;refine dY _ rfl rfl ?_;simp only [pick,pQ];iterate 5 (go_big_quiet_step (fail))
  refine wpQuiet_nil ?_;refine pV rfl ?_;gi_wp2_with fail
  refine⟨trivial,?_⟩;refine(CallsIn.inRound _ (callsIn_wide.2 C1.af)).mono ?_;rintro e w3 ⟨o1,rfl,gu,iL⟩;obtain⟨p1,q1,rfl⟩:=Row.shape gu;have gQ:=dS.kS gu;clear c2;have c2:=gQ.fx;have C2:=hQ (jU h _ V2 _ _ gQ.sat gQ.le HB.af.2.1 HB.af.2.2.2);have nQ:=hQ ((dN.refl W2).drew.trans iL);clear gu gQ iL C1;gi_wp2
  refine dQ ?_;refine dU ⟨?_,?_⟩
  · exact cQ
  refine pV rfl ?_;gi_wp2_with fail
  refine⟨trivial,?_⟩;refine(CallsIn.inRound _ (callsIn_wide.2 C2.af)).mono ?_;rintro e w4 ⟨o2,rfl,gZ,zJ⟩;obtain⟨p2,q2,rfl⟩:=Row.shape gZ;have gp:=dS.kS gZ;clear c2;have c2:=gp.fx;have mI:=hQ gp;have MU:=hQ (nQ.af.trans zJ);clear gZ gp zJ C2 nQ;gi_wp2
  refine dQ ?_;refine dU ⟨?_,?_⟩
  · exact cQ
  refine pV rfl ?_;gi_wp2
  refine vw (HY.af (eJ [Pr.pts B (.cells #[.slice k1 V1.length m1,.slice k2 V2.length m2] 49),Pr.pts y (.cells #[.func (.yield l) #[] #[]] 47),F2]) xs ((.slice p1 V1.length q1,.slice p2 V2.length q2),(V1,V2)) w4 ?_ ?_) ?_
  · obtain⟨hl,e⟩:=HL.af
    exact⟨by have:=P_.af;omega,by dsimp only;rw [e];congr 1;exact P_.af.symm⟩
  · have h1:=mI.af.to (M:= [J xs,dM (.slice p1 V1.length q1) V1,dM (.slice p2 V2.length q2) V2,Pr.pts tb (.cells #[.func (.func fi) #[] #[.pointer (some ⟨sb,0,none⟩)]] 129),Pr.pts sb (.cells #[pv] 60),Pr.own h,Pr.pts B (.cells #[.slice k1 V1.length m1,.slice k2 V2.length m2] 49),Pr.pts y (.cells #[.func (.yield l) #[] #[]] 47),F2])
    exact h1.sat.perm (by simp only [eJ,Pr.ei,Pr.dP,gR,gP,d_])
  rintro e w' ⟨hR',(⟨rfl,hs'⟩ | ⟨rfl,hs'⟩)⟩
  · refine⟨_,rfl,?_⟩
    have gY:dS [J (xs++ [((.slice p1 V1.length q1,.slice p2 V2.length q2),(V1,V2))]),Pr.pts tb (.cells #[.func (.func fi) #[] #[.pointer (some ⟨sb,0,none⟩)]] 129),gP sb pv h,Pr.pts B (.cells #[.slice k1 V1.length m1,.slice k2 V2.length m2] 49),Pr.pts y (.cells #[.func (.yield l) #[] #[]] 47),F2] w':=⟨hs'.perm (by simp only [eJ,Pr.ei,Pr.dP,gR])⟩;clear c2
    have c2:=gY.fx;have se:=hQ gY;have Rm:=hQ (MU.af.trans hR');clear hs' gY hR';gi_wp2
    refine dQ ?_;refine dY _ rfl rfl ?_;simp only [pick,pQ];iterate 1 (go_big_quiet_step (fail))
    refine wpQuiet_nil ⟨?_,?_⟩
    · exact cQ
    refine tn ?_;gi_wp2
    refine⟨Rm.af,?_⟩;unfold TI;simp only [Pr.fC,Sat.qk];refine⟨xs++ [((.slice p1 V1.length q1,.slice p2 V2.length q2),(V1,V2))],?_⟩;rw [Pr.dP,Pr.dP]
    exact Sat.pure.2 ⟨by rw [au,au,P_.af];rfl,(se.af.to (M:= [J (xs++ [((.slice p1 V1.length q1,.slice p2 V2.length q2),(V1,V2))]),Pr.pts y (.cells #[.func (.yield l) #[] #[]] 47),Pr.pts tb (.cells #[.func (.func fi) #[] #[.pointer (some ⟨sb,0,none⟩)]] 129),gP sb pv h,F2])).sat.perm (by simp only [eJ,Pr.ei,Pr.dP])⟩
  · refine⟨_,rfl,?_⟩
    have gY:dS [Jx (xs++ [((.slice p1 V1.length q1,.slice p2 V2.length q2),(V1,V2))]),Pr.pts tb (.cells #[.func (.func fi) #[] #[.pointer (some ⟨sb,0,none⟩)]] 129),gP sb pv h,Pr.pts B (.cells #[.slice k1 V1.length m1,.slice k2 V2.length m2] 49),Pr.pts y (.cells #[.func (.yield l) #[] #[]] 47),F2] w':=⟨hs'.perm (by simp only [eJ,Pr.ei,Pr.dP,gR])⟩;clear c2
    have c2:=gY.fx;have se:=hQ gY;have Rm:=hQ (MU.af.trans hR');clear hs' gY hR';gi_wp2
    refine dQ ?_;refine dY _ rfl rfl ?_;simp only [pick,pQ];iterate 1 (go_big_quiet_step (fail))
    refine wpQuiet_nil ⟨?_,?_⟩
    · exact cQ
    refine tn ?_;gi_wp2
    refine⟨Rm.af,?_⟩;unfold TX;simp only [Pr.fC,Sat.qk];refine⟨xs++ [((.slice p1 V1.length q1,.slice p2 V2.length q2),(V1,V2))],?_⟩;rw [Pr.dP,Pr.dP]
    exact Sat.pure.2 ⟨⟨trivial,by rw [au,au,P_.af];rfl⟩,(se.af.to (M:= [Jx (xs++ [((.slice p1 V1.length q1,.slice p2 V2.length q2),(V1,V2))]),Pr.pts y (.cells #[.func (.yield l) #[] #[]] 47),Pr.pts tb (.cells #[.func (.func fi) #[] #[.pointer (some ⟨sb,0,none⟩)]] 129),gP sb pv h,F2])).sat.perm (by simp only [eJ,Pr.ei,Pr.dP])⟩
 case done=>
  intro D pre W2 hpre hst hs;unfold TI at hs;simp only [Pr.fC,Sat.qk] at hs;obtain⟨xs,hs⟩:=hs;rw [Pr.dP,Pr.dP] at hs;obtain⟨hxl,hs⟩:=Sat.pure.1 hs
  have fP:dS [Pr.pts D (.deferred (some [])),J xs,Pr.pts y (.cells #[.func (.yield l) #[] #[]] 47),Pr.pts tb (.cells #[.func (.func fi) #[] #[.pointer (some ⟨sb,0,none⟩)]] 129),gP sb pv h] W2:=dS.to ⟨hs.perm (B:=eJ [J xs,Pr.pts y (.cells #[.func (.yield l) #[] #[]] 47),Pr.pts tb (.cells #[.func (.func fi) #[] #[.pointer (some ⟨sb,0,none⟩)]] 129),gP sb pv h,Pr.pts D (.deferred (some []))]) (by simp only [eJ,Pr.ei,Pr.dP])⟩
  have j8:=hQ fP;have gg:=hQ (HR.af.trans hst);have P_:=hQ (show xs.length=ws.length from by rw [hxl,hpre,HLZ.af]);clear hs fP hst hxl hpre U1 U2;gi_wp2
  have q1:=j8.af.ej (A1:=Pr.pts D (.deferred (some [])));have q2:=dS.Ql (q1.putObj (.deferred none)).right;refine oi (D:=D) rfl q1.dL ⟨_,results_none rfl _ _ _,⟨_,rfl⟩,gg.af.putObj _ _,.inl ⟨xs,P_.af,?_⟩⟩
  exact(q2.to (M:= [J xs,Pr.pts tb (.cells #[.func (.func fi) #[] #[.pointer (some ⟨sb,0,none⟩)]] 129),gP sb pv h])).sat.perm (by simp only [eJ,Pr.ei,gR])
 case stop=>
  intro D c pre W2 hpre hst hs;unfold TX at hs;simp only [Pr.fC,Sat.qk] at hs;obtain⟨xs,hs⟩:=hs;rw [Pr.dP,Pr.dP] at hs;obtain⟨⟨hc,hxl⟩,gY⟩:=Sat.pure.1 hs;clear hs;subst hc
  have fP:dS [Pr.pts D (.deferred (some [])),Jx xs,Pr.pts y (.cells #[.func (.yield l) #[] #[]] 47),Pr.pts tb (.cells #[.func (.func fi) #[] #[.pointer (some ⟨sb,0,none⟩)]] 129),gP sb pv h] W2:=dS.to ⟨gY.perm (B:=eJ [Jx xs,Pr.pts y (.cells #[.func (.yield l) #[] #[]] 47),Pr.pts tb (.cells #[.func (.func fi) #[] #[.pointer (some ⟨sb,0,none⟩)]] 129),gP sb pv h,Pr.pts D (.deferred (some []))]) (by simp only [eJ,Pr.ei,Pr.dP])⟩
  have j8:=hQ fP;have gg:=hQ (HR.af.trans hst);have P_:=hQ (show xs.length≤ws.length from by rw [hxl,HLZ.af];exact hpre);clear gY fP hst hxl hpre U1 U2;gi_wp2
  have q1:=j8.af.ej (A1:=Pr.pts D (.deferred (some [])));have q2:=dS.Ql (q1.putObj (.deferred none)).right;refine j7 (D:=D) rfl q1.dL ⟨_,results_none rfl _ _ _,⟨_,rfl⟩,gg.af.putObj _ _,.inr ⟨xs,P_.af,?_⟩⟩
  exact(q2.to (M:= [Jx xs,Pr.pts tb (.cells #[.func (.func fi) #[] #[.pointer (some ⟨sb,0,none⟩)]] 129),gP sb pv h])).sat.perm (by simp only [eJ,Pr.ei,gR])
end Go.Proofs.YtiegeadmgpanoaaGreatDoor.E4
namespace Go.Proofs.YtiegeadmgpanoaaGreatDoor.D2
open ChangeShapes WideShapes ChangeAt RowKit Sl fB Go.Shelf Z3 E4
attribute [local go_sem] Oper.semAt_some
theorem vq {P:Program}{ty:TypeId}(hu:P.underlying ty=some .bool){w:World}{g:Nat}{v:Value}(hc:w.cell? ⟨g,0,none⟩=some v):(loadVar ty ⟨g,0,none⟩).run P w= .ok v w:=by
 have h1:(underlying ty).run P w= .ok .bool w:=by simp [underlying,hu,go_sem]
 simp [loadVar,isAgg,h1,hc,Result.andThen]
theorem sr {P:Program}{fn:Func}{p:Tmp}{ty:TypeId}(h:fn.results= #[.cell p ty])(hu:P.underlying ty=some .bool)(tmps:Array Value)(w:World)(g:Nat)(v:Value)
 (hp:tmps.getD p undef= .pointer (some ⟨g,0,none⟩)) (hc:w.cell? ⟨g,0,none⟩=some v):(results fn tmps).run P w= .ok v w:=by
 have hp':tmps[p]?.getD undef= .pointer (some ⟨g,0,none⟩):=by simpa using hp
 simp [results,h,hp',asAddr,vq hu hc]
theorem MV(f:Nat)(c:Array Value)(w:World):(binOp .eql 69 (.func (.func f) #[] c) .nilFunc).run Tryz.prog w= .ok (.bool false) w:=by kernel_rfl
attribute [local go_sem] MV
abbrev GB(b:Nat)(wv:Value)(back:Bool)(k:Int)(res:Bool)(i:Nat)(T:Pr):Pr:=(Pr.pts b (.cells #[wv] 60)).star ((Pr.pts (b+1) (.cells #[.bool back] 4)).star ((Pr.pts (b+1+1) (.cells #[.int .i64 k] 3)).star
 ((Pr.pts (b+1+1+1) (.cells #[.bool res] 4)).star ((Pr.pts (b+1+1+1+1) (.cells #[.int .i64 i] 3)).star T))))
def lQ {α:Type}(back:Bool)(l:List α):List α:=if back then l.reverse else l
theorem pM {α:Type}(back:Bool)(l:List α):(lQ back l).length=l.length:=by cases back<;>simp [lQ]
def Ns(back:Bool)(n i:Nat):Nat:=if back then n-1-i else i
theorem MW {α:Type}(back:Bool)(l:List α)(i:Nat)(h:i<(lQ back l).length)(h2:Ns back l.length i<l.length):(lQ back l)[i]=l[Ns back l.length i]:=by
 cases back
 · rfl
 · simp only [lQ,Ns,if_true] at h ⊢
   rw [List.getElem_reverse]
theorem Rn(back:Bool){n i:Nat}(h:i<n):Ns back n i<n:=by
 cases back
 · exact h
 · show n-1-i<n;omega
theorem uF(tb:Nat)(ws:List fY)(back:Bool)(Own:Pr)(hit:tm Tryz.prog 95 #[.pointer (some ⟨tb,0,none⟩)] E4.wo (E4.Sv (lQ back (ws.map (·.2)))) (fun xs=>xs.length=(lQ back (ws.map (·.2))).length) (fun xs=>xs.length≤(lQ back (ws.map (·.2))).length) d_ Own)
 (hw:Hp) (wv:Value) (YK:jm hw wv ws) (hl:ws.length≤140737488355328) (hn:∀x∈ws,x.2.1.length≤65536∧x.2.2.length≤65536) (k:Int) (F:Pr) (w:World) (hF:dS [Own,Pr.own hw,F] w):
 Calls Tryz.prog 30 #[.func (.func 95) #[] #[.pointer (some ⟨tb,0,none⟩)],wv,.bool back,.int .i64 k] w fun e w'=>e= .returned (.bool true)∧dN w w'∧dS [Own,Pr.own hw,F] w':=by
 obtain⟨wa,wc,rfl,_,_,rd⟩:=pK YK;obtain⟨hs1,_⟩:=hF.fresh [.slice wa ws.length wc] 60 w.heap.size rfl;obtain⟨hs2,_⟩:=hs1.fresh [.bool back] 4 (w.heap.size+1) (by simp);obtain⟨fP,_⟩:=hs2.fresh [.int .i64 k] 3 (w.heap.size+1+1) (by simp);obtain⟨fp,_⟩:=fP.fresh [.bool false] 4 (w.heap.size+1+1+1) (by simp);obtain⟨gu,_⟩:=fp.fresh [.int .i64 0] 3 (w.heap.size+1+1+1+1) (by simp)
 have pN:=hQ gu;have eR:=hQ ((((((dN.refl w).alloc (.cells [Value.slice wa ws.length wc].toArray 60)).alloc (.cells [Value.bool back].toArray 4)).alloc (.cells [Value.int .i64 k].toArray 3)).alloc (.cells [Value.bool false].toArray 4)).alloc (.cells [Value.int .i64 0].toArray 3));have RD:=hQ (And.intro rd (And.intro YK.2 hn));have hl3:(ws.length:Int)≤140737488355328:=by omega
 have IT:=hQ hit;have Rl:=hQ (show (lQ back (ws.map (·.2))).length=ws.length from by rw [pM,aH]);clear hF hs1 hs2 fP fp gu rd YK hn hit;refine iC (n:=9) Tryz.func30 rfl ?_
 simp only [Tryz.ntmps30,bu,List.length_cons,List.length_nil,Nat.reduceAdd,Nat.reduceSub,Array.replicate_succ,Array.replicate_zero,bB,a_,List.nil_append,List.cons_append];go_wp2
 refine qC 9 (gf:=95) rfl (enters_of Tryz.func95 (by kernel_rfl) rfl) IT.af (fun _=>rfl)
  (fun pre=>GB w.heap.size (.slice wa ws.length wc) back k false pre.length ((Pr.own hw).star F)) (fun c _=>(Pr.pure (c= .ret)).star ((Pr.pts (w.heap.size+1+1+1) (.cells #[.bool true] 4)).star ((Pr.own hw).star F))) ?start ?round ?done ?stop
 case start=>
  have h1:=pN.af.to (M:= [Pr.pts w.heap.size (.cells [Value.slice wa ws.length wc].toArray 60),Pr.pts (w.heap.size+1) (.cells [Value.bool back].toArray 4),Pr.pts (w.heap.size+1+1) (.cells [Value.int .i64 k].toArray 3),Pr.pts (w.heap.size+1+1+1) (.cells [Value.bool false].toArray 4),Pr.pts (w.heap.size+1+1+1+1) (.cells [Value.int .i64 0].toArray 3),Pr.own hw,F,Own])
  exact h1.sat.perm (by simp only [eJ,Pr.ei,Pr.dP];rfl)
 case round=>
  intro l' pre x Nj F1 hok hs;obtain⟨hlt,P9⟩:=hok;obtain⟨np,Km⟩:∃np,pre.length=np:=⟨_,rfl⟩;have oZ:np<ws.length:=by rw [← Km];have:=Rl.af;omega
  have hal:=Rn back oZ;obtain⟨b,off,k1,n1,k2,n2,rfl,e1,e2,hc⟩:=RD.af.1 _ hal;obtain⟨p1,p2⟩:=RD.af.2.1 _ (aE hal);obtain⟨m1,m2⟩:=RD.af.2.2 _ (aE hal)
  have Ro:x.2=(ws[Ns back ws.length np]).2:=by
   rw [P9,MW back (ws.map (·.2)) pre.length hlt (by rw [aH,Km];exact hal),bQ];simp only [aH,Km]
  generalize (ws[Ns back ws.length np])=z at*;obtain⟨⟨z1,z2⟩,zk,zv⟩:=z;obtain⟨⟨y1,y2⟩,xk,xv⟩:=x;dsimp only at e1 e2 p1 p2 m1 m2 Ro;subst e1 e2;obtain⟨rfl,rfl⟩:=Prod.mk.inj Ro
  have hs1:dS [d_ ((y1,y2),(xk,xv)),Pr.pts w.heap.size (.cells #[.slice (some ⟨b,off,none⟩) ws.length wc] 60),Pr.pts (w.heap.size+1) (.cells #[.bool back] 4),Pr.pts (w.heap.size+1+1) (.cells #[.int .i64 k] 3),Pr.pts (w.heap.size+1+1+1) (.cells #[.bool false] 4),Pr.pts (w.heap.size+1+1+1+1) (.cells #[.int .i64 np] 3),Pr.own hw,F,Own,F1] Nj:=⟨hs.perm (by rw [Km];simp only [eJ,Pr.ei,Pr.dP];ac_rfl)⟩
  have hsh:dS [dM y1 xk,dM y2 xv] Nj:=⟨((hs1.ER (A1:=d_ ((y1,y2),(xk,xv)))).perm (B:=(dM y1 xk).star ((dM y2 xv).star Pr.emp)) (by rw [Pr.ei];rfl))⟩;obtain⟨ak,ck,rfl⟩:=Row.shape (hsh.ej (A1:=dM y1 xk));obtain⟨av,cv,rfl⟩:=Row.shape (hsh.ej (A1:=dM y2 xv));have Re:=hQ Km;have HP:=hQ (And.intro p1 (And.intro p2 (And.intro m1 m2)))
  have HC:=hQ hc;have ig:=hQ hs1;clear hs hs1 hsh Km p1 p2 m1 m2 hc P9 Ro hlt;simp only [E4.wo];gi_wp2
  refine⟨dN.refl Nj,eJ [d_ ((.slice ak xk.length ck,.slice av xv.length cv),(xk,xv)),Pr.pts w.heap.size (.cells #[.slice (some ⟨b,off,none⟩) ws.length wc] 60),Pr.pts (w.heap.size+1) (.cells #[.bool back] 4),Pr.pts (w.heap.size+1+1) (.cells #[.int .i64 k] 3),Pr.pts (w.heap.size+1+1+1) (.cells #[.bool false] 4),Pr.pts (w.heap.size+1+1+1+1) (.cells #[.int .i64 np] 3),Pr.own hw,F,Own],ig.af.sat.perm (by simp only [eJ,Pr.ei,Pr.dP]),?_⟩
  clear ig;intro F2 W2 _ hs2
  have fP:dS [d_ ((.slice ak xk.length ck,.slice av xv.length cv),(xk,xv)),Pr.pts w.heap.size (.cells #[.slice (some ⟨b,off,none⟩) ws.length wc] 60),Pr.pts (w.heap.size+1) (.cells #[.bool back] 4),Pr.pts (w.heap.size+1+1) (.cells #[.int .i64 k] 3),Pr.pts (w.heap.size+1+1+1) (.cells #[.bool false] 4),Pr.pts (w.heap.size+1+1+1+1) (.cells #[.int .i64 np] 3),Pr.own hw,F,Own,F2] W2:=⟨hs2.perm (by simp only [eJ,Pr.ei,Pr.dP])⟩
  obtain⟨d0,d1⟩:=HC.af W2 fP.le;have zb:=ay _ _ d0;simp only at zb;have c1:=fP.facts;simp only [mB,and_true] at c1;obtain⟨ax,hax,ny⟩:=fP.arena (d_ ((.slice ak xk.length ck,.slice av xv.length cv),(xk,xv)));have Rp:=hQ (fF (show ((dM (.slice ak xk.length ck) xk).star (dM (.slice av xv.length cv) xv)) ax from hax))
  have hb1:Bytes ax (.slice ak xk.length ck) xk:=by obtain⟨u,v,h1,h2,s1,s2⟩:=Rp.af;exact(Row.jh h1).sub s1
  have hb2:Bytes ax (.slice av xv.length cv) xv:=by obtain⟨u,v,h1,h2,s1,s2⟩:=Rp.af;exact(Row.jh h2).sub s2
  have E1:=hQ (fun wx (ho:eV W2 wx)=>oP ax hw _ _ xk hb1 HP.af.1 (by have:=HP.af.2.2.1;omega) wx ((ny.le (a:=ax)).only ho) ((ny.le (a:=hw)).only ho));have E2:=hQ (fun wx (ho:eV W2 wx)=>oP ax hw _ _ xv hb2 HP.af.2.1 (by have:=HP.af.2.2.2;omega) wx ((ny.le (a:=ax)).only ho) ((ny.le (a:=hw)).only ho));have O':=hQ ny;have O6:=hQ hax;clear hs2 fP ny hax Rp hb1 hb2
  have Ot:(np:Int)<ws.length:=by omega
  have HAL:=hQ hal;cases back with
  | false=>
    simp only [Ns,bA,if_false] at d0 d1;gi_wp2_with fail
    refine⟨trivial,?_⟩;refine(CallsIn.inRound _ (callsIn_wide.2 (E1.af W2 (eV.refl W2)))).mono ?_;rintro e w3 ⟨rfl,wR⟩;have fp:dS _ w3:=⟨O'.af.sat.only wR⟩;have wm:=hQ wR;clear d0 d1 zb c1 wR;obtain⟨d0,d1⟩:=HC.af w3 fp.le;have zb:=ay _ _ d0;simp only [Ns,bA,if_false] at zb d0 d1;have c1:=fp.facts;simp only [mB,and_true] at c1;clear fp
    gi_wp2_with fail
    refine⟨trivial,?_⟩;refine(CallsIn.inRound _ (callsIn_wide.2 (E2.af w3 wm.af))).mono ?_;rintro e w4 ⟨rfl,Fp⟩;have gu:=(dS.back (d_ ((.slice ak xk.length ck,.slice av xv.length cv),(xk,xv))) O6.af ⟨O'.af.sat.only (wm.af.trans Fp)⟩);have gQ:dS ((dM (.slice ak xk.length ck) xk).star (dM (.slice av xv.length cv) xv) :: _) w4:=gu;have mY:=hQ gQ.norm
    have ij:=hQ (wm.af.trans Fp).st;clear d0 d1 zb c1 Fp gu gQ E1 E2 O' O6 wm;have hxk:(xk.length:Int)≤65536:=by have:=HP.af.2.2.1;omega
    have hxv:(xv.length:Int)≤65536:=by have:=HP.af.2.2.2;omega
    gi_wp2_with fail
    gi_loopw [13] (fun i wr=> ∃(p:Nat) (Z:List Int),p≤xk.length∧i= .int .i64 p∧Hid (Z.length=xk.length)∧dN W2 wr∧dS [Row 5 1 (.slice ak xk.length ck) xk.length (Z.map (Value.int .u8)),dM (.slice av xv.length cv) xv,Pr.pts w.heap.size (.cells #[.slice (some ⟨b,off,none⟩) ws.length wc] 60),Pr.pts (w.heap.size+1) (.cells #[.bool false] 4),Pr.pts (w.heap.size+1+1) (.cells #[.int .i64 k] 3),Pr.pts (w.heap.size+1+1+1) (.cells #[.bool false] 4),Pr.pts (w.heap.size+1+1+1+1) (.cells #[.int .i64 np] 3),Pr.own hw,F,Own,F2] wr) (fun i _=>xk.length-(intOf i).toNat)
    case atStart=>exact⟨0,xk,aG _,rfl,hQ rfl,ij.af,mY.af.to⟩
    case round=>
     obtain⟨p,Z,hp,rfl,hz,hst,hs⟩:=hrel;rename World=>wr
     clear mY ij;rcases aB p xk.length with Eg | MX
     · obtain⟨bk,u,ek,hu,c0,f0,z0⟩:=Row.sF (hs.ej (A1:=Row 5 1 (.slice ak xk.length ck) xk.length (Z.map (Value.int .u8)))) p Eg
       subst ek;have Eh:p<Z.length:=by rw [hz.af];exact Eg
       rw [aO,ag Eh] at hu;simp only [Option.map_some,Option.some.injEq] at hu;rw [← hu] at c0;clear hu;have N1:=hQ (Row.Cr (hs.ej (A1:=Row 5 1 (.slice (some ⟨bk,0,none⟩) xk.length ck) xk.length (Z.map (Value.int .u8)))) p (by rw [aH,hz.af];exact Eg) (.int .u8 (bits .xor .u8 Z[p] 1)));generalize Z[p]=zz at*;have lV:=hQ hst
       clear hs hst Eh;gi_wp2
       go_roundw
       case measure=>simp [intOf];omega
       case rel=>
        refine⟨p+1,Z.set p (bits .xor .u8 zz 1),by omega,congrArg (Value.int .i64) (by omega),hQ (by rw [aU];exact hz.af),lV.af.setCell _ _,?_⟩;rw [bN];exact(dS.kS N1.af).to
     · obtain rfl:p=xk.length:=by omega
       have rQ:=hQ (hs.yO (Row 5 1 (.slice ak xk.length ck) xk.length (Z.map (Value.int .u8))));have iN:=hQ hst;clear hs hst MX hz;gi_wp2_with fail
       gi_loopw [14] (fun i wr=> ∃(p:Nat) (Z:List Int),p≤xv.length∧i= .int .i64 p∧Hid (Z.length=xv.length)∧dN W2 wr∧dS [Row 5 1 (.slice av xv.length cv) xv.length (Z.map (Value.int .u8)),Pr.pts w.heap.size (.cells #[.slice (some ⟨b,off,none⟩) ws.length wc] 60),Pr.pts (w.heap.size+1) (.cells #[.bool false] 4),Pr.pts (w.heap.size+1+1) (.cells #[.int .i64 k] 3),Pr.pts (w.heap.size+1+1+1) (.cells #[.bool false] 4),Pr.pts (w.heap.size+1+1+1+1) (.cells #[.int .i64 np] 3),Pr.own hw,F,Own,F2] wr) (fun i _=>xv.length-(intOf i).toNat)
       case atStart=>exact⟨0,xv,aG _,rfl,hQ rfl,iN.af,rQ.af.to⟩
       case round=>
        obtain⟨p,Z,hp,rfl,hz,hst,hs⟩:=hrel;rename World=>wr
        clear rQ iN;rcases aB p xv.length with Eg | MX
        · obtain⟨bk,u,ek,hu,c0,f0,z0⟩:=Row.sF (hs.ej (A1:=Row 5 1 (.slice av xv.length cv) xv.length (Z.map (Value.int .u8)))) p Eg
          subst ek;have Eh:p<Z.length:=by rw [hz.af];exact Eg
          rw [aO,ag Eh] at hu;simp only [Option.map_some,Option.some.injEq] at hu;rw [← hu] at c0;clear hu;have N1:=hQ (Row.Cr (hs.ej (A1:=Row 5 1 (.slice (some ⟨bk,0,none⟩) xv.length cv) xv.length (Z.map (Value.int .u8)))) p (by rw [aH,hz.af];exact Eg) (.int .u8 (bits .xor .u8 Z[p] 1)));generalize Z[p]=zz at*;have lV:=hQ hst
          clear hs hst Eh;gi_wp2
          go_roundw
          case measure=>simp [intOf];omega
          case rel=>
           refine⟨p+1,Z.set p (bits .xor .u8 zz 1),by omega,congrArg (Value.int .i64) (by omega),hQ (by rw [aU];exact hz.af),lV.af.setCell _ _,?_⟩;rw [bN];exact(dS.kS N1.af).to
        · obtain rfl:p=xv.length:=by omega
          have rQ:=hQ (hs.yO (Row 5 1 (.slice av xv.length cv) xv.length (Z.map (Value.int .u8))));have iN:=hQ hst;clear hs hst MX hz;have c1:=rQ.af.facts;simp only [mB,and_true] at c1;have mI:=hQ rQ.af;have wE:=hQ iN.af;clear rQ iN;by_cases hk:k<(np:Int)+1
          · gi_wp2
            refine⟨(wE.af.setCell _ _).setCell _ _,?_⟩;have h6:=(mI.af.set (w.heap.size+1+1+1+1) 0 (.int .i64 ((np:Int)+1))).set (w.heap.size+1+1+1) 0 (.bool true);have h7:=h6.to (M:= [Pr.pts (w.heap.size+1+1+1) (.cells #[.bool true] 4),Pr.own hw,F,Own,F2]);rw [Pr.dP,Pr.dP];exact Sat.pure.2 ⟨rfl,h7.sat.perm (by simp only [eJ,Pr.ei,Pr.dP])⟩
          · gi_wp2
            refine⟨wE.af.setCell _ _,?_⟩;have h6:=(mI.af.set (w.heap.size+1+1+1+1) 0 (.int .i64 ((np:Int)+1)))
            have h7:=h6.to (M:= [Pr.pts w.heap.size (.cells #[.slice (some ⟨b,off,none⟩) ws.length wc] 60),Pr.pts (w.heap.size+1) (.cells #[.bool false] 4),Pr.pts (w.heap.size+1+1) (.cells #[.int .i64 k] 3),Pr.pts (w.heap.size+1+1+1) (.cells #[.bool false] 4),Pr.pts (w.heap.size+1+1+1+1) (.cells #[.int .i64 ((np:Int)+1)] 3),Pr.own hw,F,Own,F2])
            have e9:∀x0:fY,((pre++ [x0]).length:Int)=(np:Int)+1:=by
             intro x0;rw [au,Re.af];simp
            show Sat (((GB w.heap.size _ false k false _ _).star Own).star F2) _
            dsimp only [GB];rw [e9];exact h7.sat.perm (by simp only [eJ,Pr.ei,Pr.dP])
  | true=>
    have lk:(0:Int)≤(ws.length:Int)-1-np:=by omega
    have En:(ws.length:Int)-1-np<ws.length:=by omega
    simp only [Ns,if_true] at d0 d1;gi_wp2_with fail
    refine⟨trivial,?_⟩;refine(CallsIn.inRound _ (callsIn_wide.2 (E1.af W2 (eV.refl W2)))).mono ?_;rintro e w3 ⟨rfl,wR⟩;have fp:dS _ w3:=⟨O'.af.sat.only wR⟩;have wm:=hQ wR;clear d0 d1 zb c1 wR;obtain⟨d0,d1⟩:=HC.af w3 fp.le;have zb:=ay _ _ d0;simp only [Ns,if_true] at zb d0 d1;have c1:=fp.facts;simp only [mB,and_true] at c1;clear fp;gi_wp2_with fail
    refine⟨trivial,?_⟩;refine(CallsIn.inRound _ (callsIn_wide.2 (E2.af w3 wm.af))).mono ?_;rintro e w4 ⟨rfl,Fp⟩;have gu:=(dS.back (d_ ((.slice ak xk.length ck,.slice av xv.length cv),(xk,xv))) O6.af ⟨O'.af.sat.only (wm.af.trans Fp)⟩);have gQ:dS ((dM (.slice ak xk.length ck) xk).star (dM (.slice av xv.length cv) xv) :: _) w4:=gu;have mY:=hQ gQ.norm
    have ij:=hQ (wm.af.trans Fp).st;clear d0 d1 zb c1 Fp gu gQ E1 E2 O' O6 wm;have hxk:(xk.length:Int)≤65536:=by have:=HP.af.2.2.1;omega
    have hxv:(xv.length:Int)≤65536:=by have:=HP.af.2.2.2;omega
    gi_wp2_with fail
    gi_loopw [13] (fun i wr=> ∃(p:Nat) (Z:List Int),p≤xk.length∧i= .int .i64 p∧Hid (Z.length=xk.length)∧dN W2 wr∧dS [Row 5 1 (.slice ak xk.length ck) xk.length (Z.map (Value.int .u8)),dM (.slice av xv.length cv) xv,Pr.pts w.heap.size (.cells #[.slice (some ⟨b,off,none⟩) ws.length wc] 60),Pr.pts (w.heap.size+1) (.cells #[.bool true] 4),Pr.pts (w.heap.size+1+1) (.cells #[.int .i64 k] 3),Pr.pts (w.heap.size+1+1+1) (.cells #[.bool false] 4),Pr.pts (w.heap.size+1+1+1+1) (.cells #[.int .i64 np] 3),Pr.own hw,F,Own,F2] wr) (fun i _=>xk.length-(intOf i).toNat)
    case atStart=>exact⟨0,xk,aG _,rfl,hQ rfl,ij.af,mY.af.to⟩
    case round=>
     obtain⟨p,Z,hp,rfl,hz,hst,hs⟩:=hrel;rename World=>wr
     clear mY ij;rcases aB p xk.length with Eg | MX
     · obtain⟨bk,u,ek,hu,c0,f0,z0⟩:=Row.sF (hs.ej (A1:=Row 5 1 (.slice ak xk.length ck) xk.length (Z.map (Value.int .u8)))) p Eg
       subst ek;have Eh:p<Z.length:=by rw [hz.af];exact Eg
       rw [aO,ag Eh] at hu;simp only [Option.map_some,Option.some.injEq] at hu;rw [← hu] at c0;clear hu;have N1:=hQ (Row.Cr (hs.ej (A1:=Row 5 1 (.slice (some ⟨bk,0,none⟩) xk.length ck) xk.length (Z.map (Value.int .u8)))) p (by rw [aH,hz.af];exact Eg) (.int .u8 (bits .xor .u8 Z[p] 1)));generalize Z[p]=zz at*;have lV:=hQ hst
       clear hs hst Eh;gi_wp2
       go_roundw
       case measure=>simp [intOf];omega
       case rel=>
        refine⟨p+1,Z.set p (bits .xor .u8 zz 1),by omega,congrArg (Value.int .i64) (by omega),hQ (by rw [aU];exact hz.af),lV.af.setCell _ _,?_⟩;rw [bN];exact(dS.kS N1.af).to
     · obtain rfl:p=xk.length:=by omega
       have rQ:=hQ (hs.yO (Row 5 1 (.slice ak xk.length ck) xk.length (Z.map (Value.int .u8))));have iN:=hQ hst;clear hs hst MX hz;gi_wp2_with fail
       gi_loopw [14] (fun i wr=> ∃(p:Nat) (Z:List Int),p≤xv.length∧i= .int .i64 p∧Hid (Z.length=xv.length)∧dN W2 wr∧dS [Row 5 1 (.slice av xv.length cv) xv.length (Z.map (Value.int .u8)),Pr.pts w.heap.size (.cells #[.slice (some ⟨b,off,none⟩) ws.length wc] 60),Pr.pts (w.heap.size+1) (.cells #[.bool true] 4),Pr.pts (w.heap.size+1+1) (.cells #[.int .i64 k] 3),Pr.pts (w.heap.size+1+1+1) (.cells #[.bool false] 4),Pr.pts (w.heap.size+1+1+1+1) (.cells #[.int .i64 np] 3),Pr.own hw,F,Own,F2] wr) (fun i _=>xv.length-(intOf i).toNat)
       case atStart=>exact⟨0,xv,aG _,rfl,hQ rfl,iN.af,rQ.af.to⟩
       case round=>
        obtain⟨p,Z,hp,rfl,hz,hst,hs⟩:=hrel;rename World=>wr
        clear rQ iN;rcases aB p xv.length with Eg | MX
        · obtain⟨bk,u,ek,hu,c0,f0,z0⟩:=Row.sF (hs.ej (A1:=Row 5 1 (.slice av xv.length cv) xv.length (Z.map (Value.int .u8)))) p Eg
          subst ek;have Eh:p<Z.length:=by rw [hz.af];exact Eg
          rw [aO,ag Eh] at hu;simp only [Option.map_some,Option.some.injEq] at hu;rw [← hu] at c0;clear hu;have N1:=hQ (Row.Cr (hs.ej (A1:=Row 5 1 (.slice (some ⟨bk,0,none⟩) xv.length cv) xv.length (Z.map (Value.int .u8)))) p (by rw [aH,hz.af];exact Eg) (.int .u8 (bits .xor .u8 Z[p] 1)));generalize Z[p]=zz at*;have lV:=hQ hst
          clear hs hst Eh;gi_wp2
          go_roundw
          case measure=>simp [intOf];omega
          case rel=>
           refine⟨p+1,Z.set p (bits .xor .u8 zz 1),by omega,congrArg (Value.int .i64) (by omega),hQ (by rw [aU];exact hz.af),lV.af.setCell _ _,?_⟩;rw [bN];exact(dS.kS N1.af).to
        · obtain rfl:p=xv.length:=by omega
          have rQ:=hQ (hs.yO (Row 5 1 (.slice av xv.length cv) xv.length (Z.map (Value.int .u8))));have iN:=hQ hst;clear hs hst MX hz;have c1:=rQ.af.facts;simp only [mB,and_true] at c1;have mI:=hQ rQ.af;have wE:=hQ iN.af;clear rQ iN;by_cases hk:k<(np:Int)+1
          · gi_wp2
            refine⟨(wE.af.setCell _ _).setCell _ _,?_⟩;have h6:=(mI.af.set (w.heap.size+1+1+1+1) 0 (.int .i64 ((np:Int)+1))).set (w.heap.size+1+1+1) 0 (.bool true);have h7:=h6.to (M:= [Pr.pts (w.heap.size+1+1+1) (.cells #[.bool true] 4),Pr.own hw,F,Own,F2]);rw [Pr.dP,Pr.dP];exact Sat.pure.2 ⟨rfl,h7.sat.perm (by simp only [eJ,Pr.ei,Pr.dP])⟩
          · gi_wp2
            refine⟨wE.af.setCell _ _,?_⟩;have h6:=(mI.af.set (w.heap.size+1+1+1+1) 0 (.int .i64 ((np:Int)+1)))
            have h7:=h6.to (M:= [Pr.pts w.heap.size (.cells #[.slice (some ⟨b,off,none⟩) ws.length wc] 60),Pr.pts (w.heap.size+1) (.cells #[.bool true] 4),Pr.pts (w.heap.size+1+1) (.cells #[.int .i64 k] 3),Pr.pts (w.heap.size+1+1+1) (.cells #[.bool false] 4),Pr.pts (w.heap.size+1+1+1+1) (.cells #[.int .i64 ((np:Int)+1)] 3),Pr.own hw,F,Own,F2])
            have e9:∀x0:fY,((pre++ [x0]).length:Int)=(np:Int)+1:=by
             intro x0;rw [au,Re.af];simp
            show Sat (((GB w.heap.size _ true k false _ _).star Own).star F2) _
            dsimp only [GB];rw [e9];exact h7.sat.perm (by simp only [eJ,Pr.ei,Pr.dP])
 case done=>
  intro D xs W2 hxs hst hs
  have fP:dS [Pr.pts D (.deferred (some [])),Pr.pts w.heap.size (.cells #[.slice wa ws.length wc] 60),Pr.pts (w.heap.size+1) (.cells #[.bool back] 4),Pr.pts (w.heap.size+1+1) (.cells #[.int .i64 k] 3),Pr.pts (w.heap.size+1+1+1) (.cells #[.bool false] 4),Pr.pts (w.heap.size+1+1+1+1) (.cells #[.int .i64 xs.length] 3),Pr.own hw,F,Own] W2:=⟨hs.perm (by simp only [eJ,Pr.ei,Pr.dP];ac_rfl)⟩
  rw [hxs,Rl.af] at fP;have c1:=fP.facts;simp only [mB,and_true] at c1;have j8:=hQ fP;have gg:=hQ (eR.af.trans hst);clear hs fP hst pN;go_wp2;have h6:=j8.af.set (w.heap.size+1+1+1) 0 (.bool true);have q1:=h6.ej (A1:=Pr.pts D (.deferred (some [])));have q2:=dS.Ql (q1.putObj (.deferred none)).right
  refine j7 (D:=D) rfl q1.dL ⟨_,sr rfl Tryz.underlying4 _ _ (w.heap.size+1+1+1) (.bool true) rfl (by rw [cell_of_heap (q2.pts (w.heap.size+1+1+1)).dL];rfl),rfl,(gg.af.setCell _ _).putObj _ _,?_⟩;exact q2.to
 case stop=>
  intro D c pre W2 _ hst hs;rw [Pr.dP,Pr.dP] at hs;obtain⟨rfl,hs2⟩:=Sat.pure.1 hs;have fP:dS [Pr.pts D (.deferred (some [])),Pr.pts (w.heap.size+1+1+1) (.cells #[.bool true] 4),Pr.own hw,F,Own] W2:=⟨hs2.perm (by simp only [eJ,Pr.ei,Pr.dP];ac_rfl)⟩;have j8:=hQ fP;have gg:=hQ (eR.af.trans hst);clear hs hs2 fP hst pN;go_wp2
  have q1:=j8.af.ej (A1:=Pr.pts D (.deferred (some [])));have q2:=dS.Ql (q1.putObj (.deferred none)).right;refine j7 (D:=D) rfl q1.dL ⟨_,sr rfl Tryz.underlying4 _ _ (w.heap.size+1+1+1) (.bool true) rfl (by rw [cell_of_heap (q2.pts (w.heap.size+1+1+1)).dL];rfl),rfl,gg.af.putObj _ _,?_⟩;exact q2.to
end Go.Proofs.YtiegeadmgpanoaaGreatDoor.D2
namespace Go.Proofs.YtiegeadmgpanoaaGreatDoor.D2
open ChangeShapes WideShapes ChangeAt RowKit Sl fB Go.Shelf L3 Z3 E4 X5 M8 Y8
attribute [local go_sem] Oper.semAt_some
theorem Ei(fi sb:Nat)(w:World):Calls Tryz.prog 59 #[.func (.func fi) #[] #[.pointer (some ⟨sb,0,none⟩)]] w fun e w'=>
 e= .returned (.func (.func 95) #[] #[.pointer (some ⟨w.heap.size,0,none⟩)])∧w'=w.alloc (.cells #[.func (.func fi) #[] #[.pointer (some ⟨sb,0,none⟩)]] 129):=by
 go_enter Tryz.func59,Tryz.ntmps59
 go_wp2;go_ret;exact⟨rfl,rfl⟩
theorem zd(a:Option Addr)(n c:Nat)(w:World):Calls Tryz.prog 60 #[.slice a n c] w fun e w'=>
 e= .returned (.func (.func 97) #[] #[.pointer (some ⟨w.heap.size,0,none⟩)])∧w'=w.alloc (.cells #[.slice a n c] 60):=by
 go_enter Tryz.func60,Tryz.ntmps60
 go_wp2;go_ret;exact⟨rfl,rfl⟩
theorem Ax(tb sb:Nat)(pv:Value)(h:Hp)(zs:List fY)(hP:jm h pv zs)(hl:zs.length≤140737488355328)(hn:∀x∈zs,x.2.1.length≤65536∧x.2.2.length≤65536)(ws:List (List Int × List Int))(hw:zs.map (·.2)=ws):
 tm Tryz.prog 95 #[.pointer (some ⟨tb,0,none⟩)] E4.wo (E4.Sv (lQ true ws)) (fun xs=>xs.length=(lQ true ws).length) (fun xs=>xs.length≤(lQ true ws).length) d_ (gR tb sb 97 pv h):=by
 subst hw;refine P8 _ tb sb pv h zs _ (Uu zs) (by rw [pM,aH]) (J1 sb pv h zs hP hl) (enters_of Tryz.func97 (by kernel_rfl) rfl) ?_ hP ?_
 · rintro pre x ⟨i,hi,he,rfl⟩
   refine⟨aE hi,by rw [pM,aH];omega,?_⟩;show (zs[i]).2=((zs.map (·.2)).reverse)[pre.length]'(by rw [dn,aH];omega)
   rw [List.getElem_reverse,bQ];congr 2
   rw [aH];omega
 · intro x hx
   have hx2:x∈zs.map (·.2):=by have h1:x∈(zs.map (·.2)).reverse:=hx;exact List.mem_reverse.1 h1
   obtain⟨y,hy,rfl⟩:=bH.1 hx2;exact hn y hy
theorem MY(v:Nat)(s:eC)(look:Int→Option dR)(hl:D2.Looks s look)(j6:iT look)(root dT items:Int)(L:List en)(hT:kK look root dT items L)(rv:Value)(r:fw)(hr:Hp)(uw:gJ hr rv r)(ur:wT r)(nr:nN 140737488355000 r)(F:Pr)(w:World)(hF:dS [dZ v s,Pr.own hr,F] w):
 Calls Tryz.prog 31 #[.pointer (some ⟨v,0,none⟩),pJ root dT items,rv] w fun e w'=>dN w w'∧∃tb sb pv zs a,e= .returned (.func (.func 95) #[] #[.pointer (some ⟨tb,0,none⟩)])∧zs.map (·.2)=(L.filter fun x=>iV r x.key).map (jy look)∧jm a pv zs∧
  dS [gR tb sb 97 pv a,dZ v s,Pr.own hr,F] w':=by
 obtain⟨lo,hi,rfl,hlo,mK⟩:=id uw;obtain⟨al,cl,rfl,_⟩:=eL hlo;obtain⟨ah,ch,rfl,_⟩:=eL mK;have hs0:=(hF.alloc (eT root dT items)).alloc (dO (.slice al r.lo.length cl) (.slice ah r.hi.length ch) r.op);have PA:=hQ (vo v s look hl j6 root dT items L hT _ r hr uw ur nr _ _ (dS.xp (hs0.iQ (A1:=dZ v s) (A2:=Pr.own hr))))
 have eR:=hQ (((dN.refl w).alloc (eT root dT items)).alloc (dO (.slice al r.lo.length cl) (.slice ah r.hi.length ch) r.op));clear hF hlo mK uw hT hl j6 ur nr hs0;go_enter Tryz.func31,Tryz.ntmps31
 go_wp2_with fail
 refine PA.af.mono ?_;rintro e w1 ⟨fN,o,zs,rfl,hz,hs1⟩;have hs2:=hs1.flat;obtain⟨oa,oc,rfl⟩:=Row.shape (hs2.ej (A1:=eN o zs));have fP:=hs2.jk (eN (.slice oa zs.length oc) zs) (big d_ zs);obtain⟨a,ha,fp⟩:=fP.arena ((eN (.slice oa zs.length oc) zs).star (big d_ zs));have HP:=hQ (oJ ha);have HE:=hQ fp;have eQ:=hQ (eR.af.trans fN);have HZ:=hQ hz
 clear hs1 hs2 fP fp ha fN hz PA eR;go_wp2_with fail
 refine(zd _ _ _ _).mono ?_;rintro e w2 ⟨rfl,rfl⟩;have h5:=(HE.af.alloc (.cells #[.slice oa zs.length oc] 60));have iL:=(eQ.af.alloc (.cells #[.slice oa zs.length oc] 60));clear HE eQ;generalize w1.alloc (.cells #[.slice oa zs.length oc] 60)=w3 at*;generalize w1.heap.size=sb at*;have HE:=hQ h5;have eQ:=hQ iL;clear h5 iL;go_wp2_with fail
 refine(Ei 97 sb _).mono ?_;rintro e w4 ⟨rfl,rfl⟩;go_wp2;go_ret;refine⟨eQ.af.alloc _,_,sb,.slice oa zs.length oc,zs,a,rfl,HZ.af,HP.af,?_⟩
 have h6:=(HE.af.alloc (.cells #[.func (.func 97) #[] #[.pointer (some ⟨sb,0,none⟩)]] 129)).to (M:= [Pr.pts w3.heap.size (.cells #[.func (.func 97) #[] #[.pointer (some ⟨sb,0,none⟩)]] 129),Pr.pts sb (.cells #[.slice oa zs.length oc] 60),Pr.own a,dZ v s,Pr.own hr,F]);exact⟨h6.sat.perm (by simp only [eJ,Pr.ei,Pr.dP,gR,gP])⟩
theorem MZ(a:Option Addr)(n c:Nat)(w:World):Calls Tryz.prog 62 #[.slice a n c] w fun e w'=>
 e= .returned (.func (.func 99) #[] #[.pointer (some ⟨w.heap.size,0,none⟩)])∧w'=w.alloc (.cells #[.slice a n c] 60):=by
 go_enter Tryz.func62,Tryz.ntmps62
 go_wp2;go_ret;exact⟨rfl,rfl⟩
theorem Ay(tb sb:Nat)(pv:Value)(h:Hp)(zs:List fY)(hP:jm h pv zs)(hl:zs.length≤140737488355328)(hn:∀x∈zs,x.2.1.length≤65536∧x.2.2.length≤65536)(ws:List (List Int × List Int))(hw:zs.map (·.2)=ws):
 tm Tryz.prog 95 #[.pointer (some ⟨tb,0,none⟩)] E4.wo (E4.Sv (lQ false ws)) (fun xs=>xs.length=(lQ false ws).length) (fun xs=>xs.length≤(lQ false ws).length) d_ (gR tb sb 99 pv h):=by
 subst hw;refine P8 _ tb sb pv h zs _ (Uv zs) (by rw [pM,aH]) (Yw sb pv h zs hP hl) (enters_of Tryz.func99 (by kernel_rfl) rfl) ?_ hP ?_
 · rintro pre x ⟨hi,rfl⟩
   refine⟨aE hi,by rw [pM,aH];exact hi,?_⟩;show (zs[pre.length]).2=(zs.map (·.2))[pre.length]'(by rw [aH];exact hi)
   rw [bQ]
 · intro x hx
   have hx2:x∈zs.map (·.2):=by exact hx
   obtain⟨y,hy,rfl⟩:=bH.1 hx2;exact hn y hy
theorem M4(v:Nat)(s:eC)(look:Int→Option dR)(hl:D2.Looks s look)(j6:iT look)(root dT items:Int)(L:List en)(hT:kK look root dT items L)(rv:Value)(r:fw)(hr:Hp)(uw:gJ hr rv r)(ur:wT r)(nr:nN 140737488355000 r)(F:Pr)(w:World)(hF:dS [dZ v s,Pr.own hr,F] w):
 Calls Tryz.prog 34 #[.pointer (some ⟨v,0,none⟩),pJ root dT items,rv] w fun e w'=>dN w w'∧∃tb sb pv zs a,e= .returned (.func (.func 95) #[] #[.pointer (some ⟨tb,0,none⟩)])∧zs.map (·.2)=(L.filter fun x=>iV r x.key).map (jy look)∧jm a pv zs∧
  dS [gR tb sb 99 pv a,dZ v s,Pr.own hr,F] w':=by
 obtain⟨lo,hi,rfl,hlo,mK⟩:=id uw;obtain⟨al,cl,rfl,_⟩:=eL hlo;obtain⟨ah,ch,rfl,_⟩:=eL mK;have hs0:=(hF.alloc (eT root dT items)).alloc (dO (.slice al r.lo.length cl) (.slice ah r.hi.length ch) r.op);have PA:=hQ (vo v s look hl j6 root dT items L hT _ r hr uw ur nr _ _ (dS.xp (hs0.iQ (A1:=dZ v s) (A2:=Pr.own hr))))
 have eR:=hQ (((dN.refl w).alloc (eT root dT items)).alloc (dO (.slice al r.lo.length cl) (.slice ah r.hi.length ch) r.op));clear hF hlo mK uw hT hl j6 ur nr hs0;go_enter Tryz.func34,Tryz.ntmps34
 go_wp2_with fail
 refine PA.af.mono ?_;rintro e w1 ⟨fN,o,zs,rfl,hz,hs1⟩;have hs2:=hs1.flat;obtain⟨oa,oc,rfl⟩:=Row.shape (hs2.ej (A1:=eN o zs));have fP:=hs2.jk (eN (.slice oa zs.length oc) zs) (big d_ zs);obtain⟨a,ha,fp⟩:=fP.arena ((eN (.slice oa zs.length oc) zs).star (big d_ zs));have HP:=hQ (oJ ha);have HE:=hQ fp;have eQ:=hQ (eR.af.trans fN);have HZ:=hQ hz
 clear hs1 hs2 fP fp ha fN hz PA eR;go_wp2_with fail
 refine(MZ _ _ _ _).mono ?_;rintro e w2 ⟨rfl,rfl⟩;have h5:=(HE.af.alloc (.cells #[.slice oa zs.length oc] 60));have iL:=(eQ.af.alloc (.cells #[.slice oa zs.length oc] 60));clear HE eQ;generalize w1.alloc (.cells #[.slice oa zs.length oc] 60)=w3 at*;generalize w1.heap.size=sb at*;have HE:=hQ h5;have eQ:=hQ iL;clear h5 iL;go_wp2_with fail
 refine(Ei 99 sb _).mono ?_;rintro e w4 ⟨rfl,rfl⟩;go_wp2;go_ret;refine⟨eQ.af.alloc _,_,sb,.slice oa zs.length oc,zs,a,rfl,HZ.af,HP.af,?_⟩
 have h6:=(HE.af.alloc (.cells #[.func (.func 99) #[] #[.pointer (some ⟨sb,0,none⟩)]] 129)).to (M:= [Pr.pts w3.heap.size (.cells #[.func (.func 99) #[] #[.pointer (some ⟨sb,0,none⟩)]] 129),Pr.pts sb (.cells #[.slice oa zs.length oc] 60),Pr.own a,dZ v s,Pr.own hr,F]);exact⟨h6.sat.perm (by simp only [eJ,Pr.ei,Pr.dP,gR,gP])⟩
end Go.Proofs.YtiegeadmgpanoaaGreatDoor.D2
