/- The walk that is told of pairs (Scan, Back): each pair copied; the conditions stand as hypotheses. -/
import Derived.Test.YtiegeadmgpanoaaGreatDoorWalkAgreesM07
import Derived.Test.YtiegeadmgpanoaaGreatDoorWalkChecksM03
import Derived.Test.YtiegeadmgpanoaaGreatDoorWalkAgreesM01
import Derived.Test.YtiegeadmgpanoaaGreatDoorWalkChecksM01
set_option maxRecDepth 100000
set_option maxHeartbeats 16000000
namespace Go.Proofs.YtiegeadmgpanoaaGreatDoor.Q8
open ChangeShapes WideShapes ChangeAt RowKit Sl Cop Go.Shelf G2 J2 Q3 X3 M5 C8 P8
attribute [local go_sem] Oper.semAt_some
def encW(x:PairX):Array Value:= #[x.1.1,x.1.2]
def OkW(ws:List (List Int × List Int))(pre:List PairX)(x:PairX):Prop:= ∃hl:pre.length<ws.length,x.2=ws[pre.length]
def WalkOwn(tb sb fi:Nat)(pv:Value)(h:Hp):Pr:=(Pr.pts tb (.cells #[.func (.func fi) #[] #[.pointer (some ⟨sb,0,none⟩)]] 129)).star (BackOwnP sb pv h)
def TI(J:List PairX→Pr)(l y tb fi sb:Nat)(pre:List (Int × PairX)):Pr:=Pr.ex fun xs:List PairX=>(Pr.pure (xs.length=pre.length)).star ((J xs).star ((Pr.pts y (.cells #[.func (.yield l) #[] #[]] 47)).star (Pr.pts tb (.cells #[.func (.func fi) #[] #[.pointer (some ⟨sb,0,none⟩)]] 129))))
def TX(Jx:List PairX→Pr)(y l tb fi sb:Nat)(c:Code)(pre:List (Int × PairX)):Pr:=Pr.ex fun xs:List PairX=>(Pr.pure (c= .ret∧xs.length=pre.length)).star ((Jx xs).star ((Pr.pts y (.cells #[.func (.yield l) #[] #[]] 47)).star (Pr.pts tb (.cells #[.func (.func fi) #[] #[.pointer (some ⟨sb,0,none⟩)]] 129))))
theorem told1(fi tb sb:Nat)(pv:Value)(h:Hp)(zs:List PairX)(ws:List (List Int × List Int))(OkX:List (Int × PairX)→Int × PairX→Prop)(hlz:ws.length=zs.length)
 (hit:IterG Tryz.prog fi #[.pointer (some ⟨sb,0,none⟩)] encP OkX (fun xs=>xs.length=zs.length) (fun xs=>xs.length≤zs.length) (BackOwnP sb pv h))
 (he:∀args w,(callFunc fi args).run Tryz.prog w= .ok (.enter fi args) w) (hok:∀pre x,OkX pre x→x.2∈zs∧∃hl:pre.length<ws.length,x.2.2=ws[pre.length])
 (hP:PairsIn h pv zs) (hn:∀x∈ws,x.1.length≤65536∧x.2.length≤65536):
 IterV Tryz.prog 95 #[.pointer (some ⟨tb,0,none⟩)] encW (OkW ws) (fun xs=>xs.length=ws.length) (fun xs=>xs.length≤ws.length) pairRows (WalkOwn tb sb fi pv h):=by
 intro l J Jx W hY h0;refine(callsIn_wide (n:=9)).1 (callsIn_of_wp_marks Tryz.func95 rfl trivial ?_ rfl);simp only [Tryz.ntmps95,List.size_toArray,List.length_cons,List.length_nil,Nat.reduceAdd,Nat.reduceSub,Array.replicate_succ,Array.replicate_zero,List.push_toArray,List.append_toArray,List.nil_append,List.cons_append]
 have hs0:OwnL [Pr.pts tb (.cells #[.func (.func fi) #[] #[.pointer (some ⟨sb,0,none⟩)]] 129),BackOwnP sb pv h,J []] W:=⟨h0.perm (by unfold WalkOwn;simp only [starL,Pr.star_emp];ac_rfl)⟩;have hs1:=hs0.alloc (.cells #[.func (.yield l) #[] #[]] 47);have c1:=hs0.facts;simp only [CellsAt,and_true] at c1;have HY:=hQ hY;have HS1:=hQ hs1
 have HR:=hQ ((Stays.refl W).alloc (.cells #[.func (.yield l) #[] #[]] 47));have HH:=hQ (And.intro hok (And.intro hP hn));have HLZ:=hQ hlz;clear hY h0 hs0 hs1 hok hP hn hlz;gi_wp2
 have U1:=HS1.out;have U2:=HR.out;clear HS1 HR;generalize W.heap.size=y at*;generalize W.alloc (.cells #[.func (.yield l) #[] #[]] 47)=W0 at*;have HR:=hQ U2;refine wpIn_rangeFunc_sl (gf:=fi) rfl he hit (fun _=>rfl) (TI J l y tb fi sb) (TX Jx y l tb fi sb) ?start ?round ?done ?stop
 case start=>
  unfold TI;simp only [Pr.ex_star,Sat.ex0];refine⟨[],?_⟩;rw [Pr.star_assoc];exact Sat.pure.2 ⟨rfl,(U1.to (M:= [J [],Pr.pts y (.cells #[.func (.yield l) #[] #[]] 47),Pr.pts tb (.cells #[.func (.func fi) #[] #[.pointer (some ⟨sb,0,none⟩)]] 129),BackOwnP sb pv h])).sat.perm (by simp only [starL,Pr.star_emp,Pr.star_assoc])⟩
 case round=>
  intro l' pre x W1 F1 hox hs;obtain⟨ix,x⟩:=x;obtain⟨hmem,hl,hxw⟩:=HH.out.1 _ _ hox;dsimp only at hmem hxw;obtain⟨b1,b2⟩:=HH.out.2.1.2 x hmem;obtain⟨n1,n2⟩:=HH.out.2.2 _ (List.getElem_mem hl);rw [← hxw] at n1 n2;obtain⟨⟨y1,y2⟩,V1,V2⟩:=x;dsimp only at b1 b2 n1 n2 hxw;obtain⟨k1,m1,rfl⟩:=bytes_shape b1;obtain⟨k2,m2,rfl⟩:=bytes_shape b2;have HB:=hQ (And.intro b1 (And.intro b2 (And.intro n1 n2)))
  have HL:=hQ (show ∃hl:pre.length<ws.length,(V1,V2)=ws[pre.length] from⟨hl,hxw⟩);unfold TI at hs;simp only [Pr.ex_star,Sat.ex0] at hs;obtain⟨xs,hs⟩:=hs;rw [Pr.star_assoc,Pr.star_assoc] at hs;obtain⟨hxl,hs⟩:=Sat.pure.1 hs
  have hs1:OwnL [J xs,Pr.pts y (.cells #[.func (.yield l) #[] #[]] 47),Pr.pts tb (.cells #[.func (.func fi) #[] #[.pointer (some ⟨sb,0,none⟩)]] 129),BackOwnP sb pv h,F1] W1:=⟨hs.perm (by simp only [starL,Pr.star_emp,Pr.star_assoc])⟩;have HXL:=hQ hxl;have HS1:=hQ hs1;clear hs hs1 hxl b1 b2 n1 n2 hl hxw hmem hox U1 U2;simp only [encP,pairV];gi_wp2
  have hsA:=HS1.out.alloc (.cells #[.slice k1 V1.length m1,.slice k2 V2.length m2] 49);obtain⟨B,hB⟩:∃B,W1.heap.size=B:=⟨_,rfl⟩;rw [hB] at hsA ⊢
  refine⟨starL [Pr.pts B (.cells #[.slice k1 V1.length m1,.slice k2 V2.length m2] 49),J xs,Pr.pts y (.cells #[.func (.yield l) #[] #[]] 47),Pr.pts tb (.cells #[.func (.func fi) #[] #[.pointer (some ⟨sb,0,none⟩)]] 129),BackOwnP sb pv h],(Stays.refl _).alloc _,hsA.sat.perm (by simp only [starL,Pr.star_emp,Pr.star_assoc]),?_⟩;clear hsA HS1 hB;intro F2 W2 _ hs2
  have hs3:OwnL [Pr.pts B (.cells #[.slice k1 V1.length m1,.slice k2 V2.length m2] 49),J xs,Pr.pts y (.cells #[.func (.yield l) #[] #[]] 47),Pr.pts tb (.cells #[.func (.func fi) #[] #[.pointer (some ⟨sb,0,none⟩)]] 129),Pr.pts sb (.cells #[pv] 60),Pr.own h,F2] W2:=⟨hs2.perm (by unfold BackOwnP;simp only [starL,Pr.star_emp,Pr.star_assoc])⟩;have hs4:=hs3.drew;have c2:=hs3.facts
  simp only [CellsAt,Nat.reduceAdd,and_true] at c2;have C1:=hQ (clone_bytes h _ V1 _ _ hs4.sat hs4.le HB.out.1 HB.out.2.2.1);clear hs2 hs3 hs4;gi_wp2_with fail
  refine wpIn_region_stagedY (sz:=17) (fun _=>trivial) (by kernel_rfl) [0,1,2,4,5] [(3,[],[0,1,4,5]),(6,[],[0,1,4]),(7,[8],[1,4])] rfl (by kernel_rfl) (by kernel_rfl) (by kernel_rfl) (by kernel_rfl) ?_;refine wpQ_all _ rfl rfl ?_;simp only [pick,pQ];iterate 5 (go_big_quiet_step (fail))
  refine wpQuiet_nil ?_;refine wpRestIn_act rfl ?_;gi_wp2_with fail
  refine⟨trivial,?_⟩;refine(CallsIn.inRound _ (callsIn_wide.2 C1.out)).mono ?_;rintro e w3 ⟨o1,rfl,hs5,st5⟩;obtain⟨p1,q1,rfl⟩:=Row.shape hs5;have hs6:=OwnL.of1 hs5;clear c2;have c2:=hs6.facts;simp only [CellsAt,Nat.reduceAdd,and_true] at c2;have C2:=hQ (clone_bytes h _ V2 _ _ hs6.sat hs6.le HB.out.2.1 HB.out.2.2.2);have HSTA:=hQ ((Stays.refl W2).drew.trans st5);clear hs5 hs6 st5 C1;gi_wp2
  refine onN_mk ?_;refine wpQ_nil ⟨?_,?_⟩
  · exact cQ
  refine wpRestIn_act rfl ?_;gi_wp2_with fail
  refine⟨trivial,?_⟩;refine(CallsIn.inRound _ (callsIn_wide.2 C2.out)).mono ?_;rintro e w4 ⟨o2,rfl,hs7,st7⟩;obtain⟨p2,q2,rfl⟩:=Row.shape hs7;have hs8:=OwnL.of1 hs7;clear c2;have c2:=hs8.facts;simp only [CellsAt,Nat.reduceAdd,and_true] at c2;have HS8:=hQ hs8;have HSTB:=hQ (HSTA.out.trans st7);clear hs7 hs8 st7 C2 HSTA;gi_wp2
  refine onN_mk ?_;refine wpQ_nil ⟨?_,?_⟩
  · exact cQ
  refine wpRestIn_act rfl ?_;gi_wp2
  refine at_yield_in (HY.out (starL [Pr.pts B (.cells #[.slice k1 V1.length m1,.slice k2 V2.length m2] 49),Pr.pts y (.cells #[.func (.yield l) #[] #[]] 47),F2]) xs ((.slice p1 V1.length q1,.slice p2 V2.length q2),(V1,V2)) w4 ?_ ?_) ?_
  · obtain⟨hl,e⟩:=HL.out
    exact⟨by have:=HXL.out;omega,by dsimp only;rw [e];congr 1;exact HXL.out.symm⟩
  · have h1:=HS8.out.to (M:= [J xs,BytesRow (.slice p1 V1.length q1) V1,BytesRow (.slice p2 V2.length q2) V2,Pr.pts tb (.cells #[.func (.func fi) #[] #[.pointer (some ⟨sb,0,none⟩)]] 129),Pr.pts sb (.cells #[pv] 60),Pr.own h,Pr.pts B (.cells #[.slice k1 V1.length m1,.slice k2 V2.length m2] 49),Pr.pts y (.cells #[.func (.yield l) #[] #[]] 47),F2])
    exact h1.sat.perm (by simp only [starL,Pr.star_emp,Pr.star_assoc,WalkOwn,BackOwnP,pairRows])
  rintro e w' ⟨hR',(⟨rfl,hs'⟩ | ⟨rfl,hs'⟩)⟩
  · refine⟨_,rfl,?_⟩
    have hs9:OwnL [J (xs++ [((.slice p1 V1.length q1,.slice p2 V2.length q2),(V1,V2))]),Pr.pts tb (.cells #[.func (.func fi) #[] #[.pointer (some ⟨sb,0,none⟩)]] 129),BackOwnP sb pv h,Pr.pts B (.cells #[.slice k1 V1.length m1,.slice k2 V2.length m2] 49),Pr.pts y (.cells #[.func (.yield l) #[] #[]] 47),F2] w':=⟨hs'.perm (by simp only [starL,Pr.star_emp,Pr.star_assoc,WalkOwn])⟩;clear c2
    have c2:=hs9.facts;simp only [CellsAt,Nat.reduceAdd,and_true] at c2;have HS9:=hQ hs9;have HSTC:=hQ (HSTB.out.trans hR');clear hs' hs9 hR';gi_wp2
    refine onN_mk ?_;refine wpQ_all _ rfl rfl ?_;simp only [pick,pQ];iterate 1 (go_big_quiet_step (fail))
    refine wpQuiet_nil ⟨?_,?_⟩
    · exact cQ
    refine wpRestIn_nil ?_;gi_wp2
    refine⟨HSTC.out,?_⟩;unfold TI;simp only [Pr.ex_star,Sat.ex0];refine⟨xs++ [((.slice p1 V1.length q1,.slice p2 V2.length q2),(V1,V2))],?_⟩;rw [Pr.star_assoc,Pr.star_assoc]
    exact Sat.pure.2 ⟨by rw [List.length_append,List.length_append,HXL.out];rfl,(HS9.out.to (M:= [J (xs++ [((.slice p1 V1.length q1,.slice p2 V2.length q2),(V1,V2))]),Pr.pts y (.cells #[.func (.yield l) #[] #[]] 47),Pr.pts tb (.cells #[.func (.func fi) #[] #[.pointer (some ⟨sb,0,none⟩)]] 129),BackOwnP sb pv h,F2])).sat.perm (by simp only [starL,Pr.star_emp,Pr.star_assoc])⟩
  · refine⟨_,rfl,?_⟩
    have hs9:OwnL [Jx (xs++ [((.slice p1 V1.length q1,.slice p2 V2.length q2),(V1,V2))]),Pr.pts tb (.cells #[.func (.func fi) #[] #[.pointer (some ⟨sb,0,none⟩)]] 129),BackOwnP sb pv h,Pr.pts B (.cells #[.slice k1 V1.length m1,.slice k2 V2.length m2] 49),Pr.pts y (.cells #[.func (.yield l) #[] #[]] 47),F2] w':=⟨hs'.perm (by simp only [starL,Pr.star_emp,Pr.star_assoc,WalkOwn])⟩;clear c2
    have c2:=hs9.facts;simp only [CellsAt,Nat.reduceAdd,and_true] at c2;have HS9:=hQ hs9;have HSTC:=hQ (HSTB.out.trans hR');clear hs' hs9 hR';gi_wp2
    refine onN_mk ?_;refine wpQ_all _ rfl rfl ?_;simp only [pick,pQ];iterate 1 (go_big_quiet_step (fail))
    refine wpQuiet_nil ⟨?_,?_⟩
    · exact cQ
    refine wpRestIn_nil ?_;gi_wp2
    refine⟨HSTC.out,?_⟩;unfold TX;simp only [Pr.ex_star,Sat.ex0];refine⟨xs++ [((.slice p1 V1.length q1,.slice p2 V2.length q2),(V1,V2))],?_⟩;rw [Pr.star_assoc,Pr.star_assoc]
    exact Sat.pure.2 ⟨⟨trivial,by rw [List.length_append,List.length_append,HXL.out];rfl⟩,(HS9.out.to (M:= [Jx (xs++ [((.slice p1 V1.length q1,.slice p2 V2.length q2),(V1,V2))]),Pr.pts y (.cells #[.func (.yield l) #[] #[]] 47),Pr.pts tb (.cells #[.func (.func fi) #[] #[.pointer (some ⟨sb,0,none⟩)]] 129),BackOwnP sb pv h,F2])).sat.perm (by simp only [starL,Pr.star_emp,Pr.star_assoc])⟩
 case done=>
  intro D pre W2 hpre hst hs;unfold TI at hs;simp only [Pr.ex_star,Sat.ex0] at hs;obtain⟨xs,hs⟩:=hs;rw [Pr.star_assoc,Pr.star_assoc] at hs;obtain⟨hxl,hs⟩:=Sat.pure.1 hs
  have hs3:OwnL [Pr.pts D (.deferred (some [])),J xs,Pr.pts y (.cells #[.func (.yield l) #[] #[]] 47),Pr.pts tb (.cells #[.func (.func fi) #[] #[.pointer (some ⟨sb,0,none⟩)]] 129),BackOwnP sb pv h] W2:=OwnL.to ⟨hs.perm (B:=starL [J xs,Pr.pts y (.cells #[.func (.yield l) #[] #[]] 47),Pr.pts tb (.cells #[.func (.func fi) #[] #[.pointer (some ⟨sb,0,none⟩)]] 129),BackOwnP sb pv h,Pr.pts D (.deferred (some []))]) (by simp only [starL,Pr.star_emp,Pr.star_assoc])⟩
  have HS3:=hQ hs3;have HST3:=hQ (HR.out.trans hst);have HXL:=hQ (show xs.length=ws.length from by rw [hxl,hpre,HLZ.out]);clear hs hs3 hst hxl hpre U1 U2;gi_wp2
  have q1:=HS3.out.pull1 (A1:=Pr.pts D (.deferred (some [])));have q2:=OwnL.of0 (q1.putObj (.deferred none)).right;refine marks_end1 (D:=D) rfl q1.pts_heap ⟨_,results_none rfl _ _ _,⟨_,rfl⟩,HST3.out.putObj _ _,.inl ⟨xs,HXL.out,?_⟩⟩
  exact(q2.to (M:= [J xs,Pr.pts tb (.cells #[.func (.func fi) #[] #[.pointer (some ⟨sb,0,none⟩)]] 129),BackOwnP sb pv h])).sat.perm (by simp only [starL,Pr.star_emp,WalkOwn])
 case stop=>
  intro D c pre W2 hpre hst hs;unfold TX at hs;simp only [Pr.ex_star,Sat.ex0] at hs;obtain⟨xs,hs⟩:=hs;rw [Pr.star_assoc,Pr.star_assoc] at hs;obtain⟨⟨hc,hxl⟩,hs9⟩:=Sat.pure.1 hs;clear hs;subst hc
  have hs3:OwnL [Pr.pts D (.deferred (some [])),Jx xs,Pr.pts y (.cells #[.func (.yield l) #[] #[]] 47),Pr.pts tb (.cells #[.func (.func fi) #[] #[.pointer (some ⟨sb,0,none⟩)]] 129),BackOwnP sb pv h] W2:=OwnL.to ⟨hs9.perm (B:=starL [Jx xs,Pr.pts y (.cells #[.func (.yield l) #[] #[]] 47),Pr.pts tb (.cells #[.func (.func fi) #[] #[.pointer (some ⟨sb,0,none⟩)]] 129),BackOwnP sb pv h,Pr.pts D (.deferred (some []))]) (by simp only [starL,Pr.star_emp,Pr.star_assoc])⟩
  have HS3:=hQ hs3;have HST3:=hQ (HR.out.trans hst);have HXL:=hQ (show xs.length≤ws.length from by rw [hxl,HLZ.out];exact hpre);clear hs9 hs3 hst hxl hpre U1 U2;gi_wp2
  have q1:=HS3.out.pull1 (A1:=Pr.pts D (.deferred (some [])));have q2:=OwnL.of0 (q1.putObj (.deferred none)).right;refine marks_ret1 (D:=D) rfl q1.pts_heap ⟨_,results_none rfl _ _ _,⟨_,rfl⟩,HST3.out.putObj _ _,.inr ⟨xs,HXL.out,?_⟩⟩
  exact(q2.to (M:= [Jx xs,Pr.pts tb (.cells #[.func (.func fi) #[] #[.pointer (some ⟨sb,0,none⟩)]] 129),BackOwnP sb pv h])).sat.perm (by simp only [starL,Pr.star_emp,WalkOwn])
end Go.Proofs.YtiegeadmgpanoaaGreatDoor.Q8
namespace Go.Proofs.YtiegeadmgpanoaaGreatDoor.X8
open ChangeShapes WideShapes ChangeAt RowKit Sl Cop Go.Shelf G2 J2 Q3 X3 M5 N2 C8 P8 Q8
attribute [local go_sem] Oper.semAt_some
theorem run_loadVar_bool {P:Program}{ty:TypeId}(hu:P.underlying ty=some .bool){w:World}{g:Nat}{v:Value}(hc:w.cell? ⟨g,0,none⟩=some v):(loadVar ty ⟨g,0,none⟩).run P w= .ok v w:=by
 have h1:(underlying ty).run P w= .ok .bool w:=by simp [underlying,hu,go_sem]
 simp [loadVar,isAgg,h1,hc,Result.andThen]
theorem results_cell1 {P:Program}{fn:Func}{p:Tmp}{ty:TypeId}(h:fn.results= #[.cell p ty])(hu:P.underlying ty=some .bool)(tmps:Array Value)(w:World)(g:Nat)(v:Value)
 (hp:tmps.getD p undef= .pointer (some ⟨g,0,none⟩)) (hc:w.cell? ⟨g,0,none⟩=some v):(results fn tmps).run P w= .ok v w:=by
 have hp':tmps[p]?.getD undef= .pointer (some ⟨g,0,none⟩):=by simpa using hp
 simp [results,h,hp',asAddr,run_loadVar_bool hu hc]
theorem func_nil(f:Nat)(c:Array Value)(w:World):(binOp .eql 69 (.func (.func f) #[] c) .nilFunc).run Tryz.prog w= .ok (.bool false) w:=by kernel_rfl
attribute [local go_sem] func_nil
abbrev GB(b:Nat)(wv:Value)(back:Bool)(k:Int)(res:Bool)(i:Nat)(T:Pr):Pr:=(Pr.pts b (.cells #[wv] 60)).star ((Pr.pts (b+1) (.cells #[.bool back] 4)).star ((Pr.pts (b+1+1) (.cells #[.int .i64 k] 3)).star
 ((Pr.pts (b+1+1+1) (.cells #[.bool res] 4)).star ((Pr.pts (b+1+1+1+1) (.cells #[.int .i64 i] 3)).star T))))
def turnB {α:Type}(back:Bool)(l:List α):List α:=if back then l.reverse else l
theorem turnB_len {α:Type}(back:Bool)(l:List α):(turnB back l).length=l.length:=by cases back<;>simp [turnB]
def atB(back:Bool)(n i:Nat):Nat:=if back then n-1-i else i
theorem turnB_at {α:Type}(back:Bool)(l:List α)(i:Nat)(h:i<(turnB back l).length)(h2:atB back l.length i<l.length):(turnB back l)[i]=l[atB back l.length i]:=by
 cases back
 · rfl
 · simp only [turnB,atB,if_true] at h ⊢
   rw [List.getElem_reverse]
theorem atB_lt(back:Bool){n i:Nat}(h:i<n):atB back n i<n:=by
 cases back
 · exact h
 · show n-1-i<n;omega
theorem goes_any(tb:Nat)(ws:List PairX)(back:Bool)(Own:Pr)(hit:IterV Tryz.prog 95 #[.pointer (some ⟨tb,0,none⟩)] encW (OkW (turnB back (ws.map (·.2)))) (fun xs=>xs.length=(turnB back (ws.map (·.2))).length) (fun xs=>xs.length≤(turnB back (ws.map (·.2))).length) pairRows Own)
 (hw:Hp) (wv:Value) (hwp:PairsIn hw wv ws) (hl:ws.length≤140737488355328) (hn:∀x∈ws,x.2.1.length≤65536∧x.2.2.length≤65536) (k:Int) (F:Pr) (w:World) (hF:OwnL [Own,Pr.own hw,F] w):
 Calls Tryz.prog 30 #[.func (.func 95) #[] #[.pointer (some ⟨tb,0,none⟩)],wv,.bool back,.int .i64 k] w fun e w'=>e= .returned (.bool true)∧Stays w w'∧OwnL [Own,Pr.own hw,F] w':=by
 obtain⟨wa,wc,rfl,_,_,rd⟩:=pairs_rd hwp;obtain⟨hs1,_⟩:=hF.fresh [.slice wa ws.length wc] 60 w.heap.size rfl;obtain⟨hs2,_⟩:=hs1.fresh [.bool back] 4 (w.heap.size+1) (by simp);obtain⟨hs3,_⟩:=hs2.fresh [.int .i64 k] 3 (w.heap.size+1+1) (by simp);obtain⟨hs4,_⟩:=hs3.fresh [.bool false] 4 (w.heap.size+1+1+1) (by simp);obtain⟨hs5,_⟩:=hs4.fresh [.int .i64 0] 3 (w.heap.size+1+1+1+1) (by simp)
 have HS5:=hQ hs5;have HST:=hQ ((((((Stays.refl w).alloc (.cells [Value.slice wa ws.length wc].toArray 60)).alloc (.cells [Value.bool back].toArray 4)).alloc (.cells [Value.int .i64 k].toArray 3)).alloc (.cells [Value.bool false].toArray 4)).alloc (.cells [Value.int .i64 0].toArray 3));have RD:=hQ (And.intro rd (And.intro hwp.2 hn));have hl3:(ws.length:Int)≤140737488355328:=by omega
 have IT:=hQ hit;have HTL:=hQ (show (turnB back (ws.map (·.2))).length=ws.length from by rw [turnB_len,List.length_map]);clear hF hs1 hs2 hs3 hs4 hs5 rd hwp hn hit;refine calls_of_wp_marks (n:=9) Tryz.func30 rfl ?_
 simp only [Tryz.ntmps30,List.size_toArray,List.length_cons,List.length_nil,Nat.reduceAdd,Nat.reduceSub,Array.replicate_succ,Array.replicate_zero,List.push_toArray,List.append_toArray,List.nil_append,List.cons_append];go_wp2
 refine wp_rangeFunc_v 9 (gf:=95) rfl (enters_of Tryz.func95 (by kernel_rfl) rfl) IT.out (fun _=>rfl)
  (fun pre=>GB w.heap.size (.slice wa ws.length wc) back k false pre.length ((Pr.own hw).star F)) (fun c _=>(Pr.pure (c= .ret)).star ((Pr.pts (w.heap.size+1+1+1) (.cells #[.bool true] 4)).star ((Pr.own hw).star F))) ?start ?round ?done ?stop
 case start=>
  have h1:=HS5.out.to (M:= [Pr.pts w.heap.size (.cells [Value.slice wa ws.length wc].toArray 60),Pr.pts (w.heap.size+1) (.cells [Value.bool back].toArray 4),Pr.pts (w.heap.size+1+1) (.cells [Value.int .i64 k].toArray 3),Pr.pts (w.heap.size+1+1+1) (.cells [Value.bool false].toArray 4),Pr.pts (w.heap.size+1+1+1+1) (.cells [Value.int .i64 0].toArray 3),Pr.own hw,F,Own])
  exact h1.sat.perm (by simp only [starL,Pr.star_emp,Pr.star_assoc];rfl)
 case round=>
  intro l' pre x W1' F1 hok hs;obtain⟨hlt,hxw⟩:=hok;obtain⟨np,hnp⟩:∃np,pre.length=np:=⟨_,rfl⟩;have hlt2:np<ws.length:=by rw [← hnp];have:=HTL.out;omega
  have hal:=atB_lt back hlt2;obtain⟨b,off,k1,n1,k2,n2,rfl,e1,e2,hc⟩:=RD.out.1 _ hal;obtain⟨p1,p2⟩:=RD.out.2.1 _ (List.getElem_mem hal);obtain⟨m1,m2⟩:=RD.out.2.2 _ (List.getElem_mem hal)
  have hxw2:x.2=(ws[atB back ws.length np]).2:=by
   rw [hxw,turnB_at back (ws.map (·.2)) pre.length hlt (by rw [List.length_map,hnp];exact hal),List.getElem_map];simp only [List.length_map,hnp]
  generalize (ws[atB back ws.length np])=z at*;obtain⟨⟨z1,z2⟩,zk,zv⟩:=z;obtain⟨⟨y1,y2⟩,xk,xv⟩:=x;dsimp only at e1 e2 p1 p2 m1 m2 hxw2;subst e1 e2;obtain⟨rfl,rfl⟩:=Prod.mk.inj hxw2
  have hs1:OwnL [pairRows ((y1,y2),(xk,xv)),Pr.pts w.heap.size (.cells #[.slice (some ⟨b,off,none⟩) ws.length wc] 60),Pr.pts (w.heap.size+1) (.cells #[.bool back] 4),Pr.pts (w.heap.size+1+1) (.cells #[.int .i64 k] 3),Pr.pts (w.heap.size+1+1+1) (.cells #[.bool false] 4),Pr.pts (w.heap.size+1+1+1+1) (.cells #[.int .i64 np] 3),Pr.own hw,F,Own,F1] W1':=⟨hs.perm (by rw [hnp];simp only [starL,Pr.star_emp,Pr.star_assoc];ac_rfl)⟩
  have hsh:OwnL [BytesRow y1 xk,BytesRow y2 xv] W1':=⟨((hs1.end1 (A1:=pairRows ((y1,y2),(xk,xv)))).perm (B:=(BytesRow y1 xk).star ((BytesRow y2 xv).star Pr.emp)) (by rw [Pr.star_emp];rfl))⟩;obtain⟨ak,ck,rfl⟩:=Row.shape (hsh.pull1 (A1:=BytesRow y1 xk));obtain⟨av,cv,rfl⟩:=Row.shape (hsh.pull1 (A1:=BytesRow y2 xv));have HNP:=hQ hnp;have HP:=hQ (And.intro p1 (And.intro p2 (And.intro m1 m2)))
  have HC:=hQ hc;have HS1:=hQ hs1;clear hs hs1 hsh hnp p1 p2 m1 m2 hc hxw hxw2 hlt;simp only [encW];gi_wp2
  refine⟨Stays.refl W1',starL [pairRows ((.slice ak xk.length ck,.slice av xv.length cv),(xk,xv)),Pr.pts w.heap.size (.cells #[.slice (some ⟨b,off,none⟩) ws.length wc] 60),Pr.pts (w.heap.size+1) (.cells #[.bool back] 4),Pr.pts (w.heap.size+1+1) (.cells #[.int .i64 k] 3),Pr.pts (w.heap.size+1+1+1) (.cells #[.bool false] 4),Pr.pts (w.heap.size+1+1+1+1) (.cells #[.int .i64 np] 3),Pr.own hw,F,Own],HS1.out.sat.perm (by simp only [starL,Pr.star_emp,Pr.star_assoc]),?_⟩
  clear HS1;intro F2 W2 _ hs2
  have hs3:OwnL [pairRows ((.slice ak xk.length ck,.slice av xv.length cv),(xk,xv)),Pr.pts w.heap.size (.cells #[.slice (some ⟨b,off,none⟩) ws.length wc] 60),Pr.pts (w.heap.size+1) (.cells #[.bool back] 4),Pr.pts (w.heap.size+1+1) (.cells #[.int .i64 k] 3),Pr.pts (w.heap.size+1+1+1) (.cells #[.bool false] 4),Pr.pts (w.heap.size+1+1+1+1) (.cells #[.int .i64 np] 3),Pr.own hw,F,Own,F2] W2:=⟨hs2.perm (by simp only [starL,Pr.star_emp,Pr.star_assoc])⟩
  obtain⟨d0,d1⟩:=HC.out W2 hs3.le;have zb:=World.block_lt_of_cell? _ _ d0;simp only at zb;have c1:=hs3.facts;simp only [CellsAt,and_true] at c1;obtain⟨ax,hax,hsA⟩:=hs3.arena (pairRows ((.slice ak xk.length ck,.slice av xv.length cv),(xk,xv)));have hax2:=hQ (star_sub (show ((BytesRow (.slice ak xk.length ck) xk).star (BytesRow (.slice av xv.length cv) xv)) ax from hax))
  have hb1:Bytes ax (.slice ak xk.length ck) xk:=by obtain⟨u,v,h1,h2,s1,s2⟩:=hax2.out;exact(Row.rowIn h1).sub s1
  have hb2:Bytes ax (.slice av xv.length cv) xv:=by obtain⟨u,v,h1,h2,s1,s2⟩:=hax2.out;exact(Row.rowIn h2).sub s2
  have E1:=hQ (fun wx (ho:Only W2 wx)=>eq_same ax hw _ _ xk hb1 HP.out.1 (by have:=HP.out.2.2.1;omega) wx ((hsA.le (a:=ax)).only ho) ((hsA.le (a:=hw)).only ho));have E2:=hQ (fun wx (ho:Only W2 wx)=>eq_same ax hw _ _ xv hb2 HP.out.2.1 (by have:=HP.out.2.2.2;omega) wx ((hsA.le (a:=ax)).only ho) ((hsA.le (a:=hw)).only ho));have HSA:=hQ hsA;have HAX:=hQ hax;clear hs2 hs3 hsA hax hax2 hb1 hb2
  have hlt3:(np:Int)<ws.length:=by omega
  have HAL:=hQ hal;cases back with
  | false=>
    simp only [atB,Bool.false_eq_true,if_false] at d0 d1;gi_wp2_with fail
    refine⟨trivial,?_⟩;refine(CallsIn.inRound _ (callsIn_wide.2 (E1.out W2 (Only.refl W2)))).mono ?_;rintro e w3 ⟨rfl,ho3⟩;have hs4:OwnL _ w3:=⟨HSA.out.sat.only ho3⟩;have HO3:=hQ ho3;clear d0 d1 zb c1 ho3;obtain⟨d0,d1⟩:=HC.out w3 hs4.le;have zb:=World.block_lt_of_cell? _ _ d0;simp only [atB,Bool.false_eq_true,if_false] at zb d0 d1;have c1:=hs4.facts;simp only [CellsAt,and_true] at c1;clear hs4
    gi_wp2_with fail
    refine⟨trivial,?_⟩;refine(CallsIn.inRound _ (callsIn_wide.2 (E2.out w3 HO3.out))).mono ?_;rintro e w4 ⟨rfl,ho4⟩;have hs5:=(OwnL.back (pairRows ((.slice ak xk.length ck,.slice av xv.length cv),(xk,xv))) HAX.out ⟨HSA.out.sat.only (HO3.out.trans ho4)⟩);have hs6:OwnL ((BytesRow (.slice ak xk.length ck) xk).star (BytesRow (.slice av xv.length cv) xv) :: _) w4:=hs5;have HS6:=hQ hs6.norm
    have HST4:=hQ (HO3.out.trans ho4).st;clear d0 d1 zb c1 ho4 hs5 hs6 E1 E2 HSA HAX HO3;have hxk:(xk.length:Int)≤65536:=by have:=HP.out.2.2.1;omega
    have hxv:(xv.length:Int)≤65536:=by have:=HP.out.2.2.2;omega
    gi_wp2_with fail
    gi_loopw [13] (fun i wr=> ∃(p:Nat) (Z:List Int),p≤xk.length∧i= .int .i64 p∧Hid (Z.length=xk.length)∧Stays W2 wr∧OwnL [Row 5 1 (.slice ak xk.length ck) xk.length (Z.map (Value.int .u8)),BytesRow (.slice av xv.length cv) xv,Pr.pts w.heap.size (.cells #[.slice (some ⟨b,off,none⟩) ws.length wc] 60),Pr.pts (w.heap.size+1) (.cells #[.bool false] 4),Pr.pts (w.heap.size+1+1) (.cells #[.int .i64 k] 3),Pr.pts (w.heap.size+1+1+1) (.cells #[.bool false] 4),Pr.pts (w.heap.size+1+1+1+1) (.cells #[.int .i64 np] 3),Pr.own hw,F,Own,F2] wr) (fun i _=>xk.length-(intOf i).toNat)
    case atStart=>exact⟨0,xk,Nat.zero_le _,rfl,hQ rfl,HST4.out,HS6.out.to⟩
    case round=>
     obtain⟨p,Z,hp,rfl,hz,hst,hs⟩:=hrel;rename World=>wr
     clear HS6 HST4;rcases Nat.lt_or_ge p xk.length with hlp | hgp
     · obtain⟨bk,u,ek,hu,c0,f0,z0⟩:=Row.at1 (hs.pull1 (A1:=Row 5 1 (.slice ak xk.length ck) xk.length (Z.map (Value.int .u8)))) p hlp
       subst ek;have hzp:p<Z.length:=by rw [hz.out];exact hlp
       rw [List.getElem?_map,List.getElem?_eq_getElem hzp] at hu;simp only [Option.map_some,Option.some.injEq] at hu;rw [← hu] at c0;clear hu;have N1:=hQ (Row.put1 (hs.pull1 (A1:=Row 5 1 (.slice (some ⟨bk,0,none⟩) xk.length ck) xk.length (Z.map (Value.int .u8)))) p (by rw [List.length_map,hz.out];exact hlp) (.int .u8 (bits .xor .u8 Z[p] 1)));generalize Z[p]=zz at*;have HST9:=hQ hst
       clear hs hst hzp;gi_wp2
       go_roundw
       case measure=>simp [intOf];omega
       case rel=>
        refine⟨p+1,Z.set p (bits .xor .u8 zz 1),by omega,congrArg (Value.int .i64) (by omega),hQ (by rw [List.length_set];exact hz.out),HST9.out.setCell _ _,?_⟩;rw [List.map_set];exact(OwnL.of1 N1.out).to
     · obtain rfl:p=xk.length:=by omega
       have HS7:=hQ (hs.lose (Row 5 1 (.slice ak xk.length ck) xk.length (Z.map (Value.int .u8))));have HST7:=hQ hst;clear hs hst hgp hz;gi_wp2_with fail
       gi_loopw [14] (fun i wr=> ∃(p:Nat) (Z:List Int),p≤xv.length∧i= .int .i64 p∧Hid (Z.length=xv.length)∧Stays W2 wr∧OwnL [Row 5 1 (.slice av xv.length cv) xv.length (Z.map (Value.int .u8)),Pr.pts w.heap.size (.cells #[.slice (some ⟨b,off,none⟩) ws.length wc] 60),Pr.pts (w.heap.size+1) (.cells #[.bool false] 4),Pr.pts (w.heap.size+1+1) (.cells #[.int .i64 k] 3),Pr.pts (w.heap.size+1+1+1) (.cells #[.bool false] 4),Pr.pts (w.heap.size+1+1+1+1) (.cells #[.int .i64 np] 3),Pr.own hw,F,Own,F2] wr) (fun i _=>xv.length-(intOf i).toNat)
       case atStart=>exact⟨0,xv,Nat.zero_le _,rfl,hQ rfl,HST7.out,HS7.out.to⟩
       case round=>
        obtain⟨p,Z,hp,rfl,hz,hst,hs⟩:=hrel;rename World=>wr
        clear HS7 HST7;rcases Nat.lt_or_ge p xv.length with hlp | hgp
        · obtain⟨bk,u,ek,hu,c0,f0,z0⟩:=Row.at1 (hs.pull1 (A1:=Row 5 1 (.slice av xv.length cv) xv.length (Z.map (Value.int .u8)))) p hlp
          subst ek;have hzp:p<Z.length:=by rw [hz.out];exact hlp
          rw [List.getElem?_map,List.getElem?_eq_getElem hzp] at hu;simp only [Option.map_some,Option.some.injEq] at hu;rw [← hu] at c0;clear hu;have N1:=hQ (Row.put1 (hs.pull1 (A1:=Row 5 1 (.slice (some ⟨bk,0,none⟩) xv.length cv) xv.length (Z.map (Value.int .u8)))) p (by rw [List.length_map,hz.out];exact hlp) (.int .u8 (bits .xor .u8 Z[p] 1)));generalize Z[p]=zz at*;have HST9:=hQ hst
          clear hs hst hzp;gi_wp2
          go_roundw
          case measure=>simp [intOf];omega
          case rel=>
           refine⟨p+1,Z.set p (bits .xor .u8 zz 1),by omega,congrArg (Value.int .i64) (by omega),hQ (by rw [List.length_set];exact hz.out),HST9.out.setCell _ _,?_⟩;rw [List.map_set];exact(OwnL.of1 N1.out).to
        · obtain rfl:p=xv.length:=by omega
          have HS7:=hQ (hs.lose (Row 5 1 (.slice av xv.length cv) xv.length (Z.map (Value.int .u8))));have HST7:=hQ hst;clear hs hst hgp hz;have c1:=HS7.out.facts;simp only [CellsAt,and_true] at c1;have HS8:=hQ HS7.out;have HST8:=hQ HST7.out;clear HS7 HST7;by_cases hk:k<(np:Int)+1
          · gi_wp2
            refine⟨(HST8.out.setCell _ _).setCell _ _,?_⟩;have h6:=(HS8.out.set (w.heap.size+1+1+1+1) 0 (.int .i64 ((np:Int)+1))).set (w.heap.size+1+1+1) 0 (.bool true);have h7:=h6.to (M:= [Pr.pts (w.heap.size+1+1+1) (.cells #[.bool true] 4),Pr.own hw,F,Own,F2]);rw [Pr.star_assoc,Pr.star_assoc];exact Sat.pure.2 ⟨rfl,h7.sat.perm (by simp only [starL,Pr.star_emp,Pr.star_assoc])⟩
          · gi_wp2
            refine⟨HST8.out.setCell _ _,?_⟩;have h6:=(HS8.out.set (w.heap.size+1+1+1+1) 0 (.int .i64 ((np:Int)+1)))
            have h7:=h6.to (M:= [Pr.pts w.heap.size (.cells #[.slice (some ⟨b,off,none⟩) ws.length wc] 60),Pr.pts (w.heap.size+1) (.cells #[.bool false] 4),Pr.pts (w.heap.size+1+1) (.cells #[.int .i64 k] 3),Pr.pts (w.heap.size+1+1+1) (.cells #[.bool false] 4),Pr.pts (w.heap.size+1+1+1+1) (.cells #[.int .i64 ((np:Int)+1)] 3),Pr.own hw,F,Own,F2])
            have e9:∀x0:PairX,((pre++ [x0]).length:Int)=(np:Int)+1:=by
             intro x0;rw [List.length_append,HNP.out];simp
            show Sat (((GB w.heap.size _ false k false _ _).star Own).star F2) _
            dsimp only [GB];rw [e9];exact h7.sat.perm (by simp only [starL,Pr.star_emp,Pr.star_assoc])
  | true=>
    have hi0:(0:Int)≤(ws.length:Int)-1-np:=by omega
    have hi1:(ws.length:Int)-1-np<ws.length:=by omega
    simp only [atB,if_true] at d0 d1;gi_wp2_with fail
    refine⟨trivial,?_⟩;refine(CallsIn.inRound _ (callsIn_wide.2 (E1.out W2 (Only.refl W2)))).mono ?_;rintro e w3 ⟨rfl,ho3⟩;have hs4:OwnL _ w3:=⟨HSA.out.sat.only ho3⟩;have HO3:=hQ ho3;clear d0 d1 zb c1 ho3;obtain⟨d0,d1⟩:=HC.out w3 hs4.le;have zb:=World.block_lt_of_cell? _ _ d0;simp only [atB,if_true] at zb d0 d1;have c1:=hs4.facts;simp only [CellsAt,and_true] at c1;clear hs4;gi_wp2_with fail
    refine⟨trivial,?_⟩;refine(CallsIn.inRound _ (callsIn_wide.2 (E2.out w3 HO3.out))).mono ?_;rintro e w4 ⟨rfl,ho4⟩;have hs5:=(OwnL.back (pairRows ((.slice ak xk.length ck,.slice av xv.length cv),(xk,xv))) HAX.out ⟨HSA.out.sat.only (HO3.out.trans ho4)⟩);have hs6:OwnL ((BytesRow (.slice ak xk.length ck) xk).star (BytesRow (.slice av xv.length cv) xv) :: _) w4:=hs5;have HS6:=hQ hs6.norm
    have HST4:=hQ (HO3.out.trans ho4).st;clear d0 d1 zb c1 ho4 hs5 hs6 E1 E2 HSA HAX HO3;have hxk:(xk.length:Int)≤65536:=by have:=HP.out.2.2.1;omega
    have hxv:(xv.length:Int)≤65536:=by have:=HP.out.2.2.2;omega
    gi_wp2_with fail
    gi_loopw [13] (fun i wr=> ∃(p:Nat) (Z:List Int),p≤xk.length∧i= .int .i64 p∧Hid (Z.length=xk.length)∧Stays W2 wr∧OwnL [Row 5 1 (.slice ak xk.length ck) xk.length (Z.map (Value.int .u8)),BytesRow (.slice av xv.length cv) xv,Pr.pts w.heap.size (.cells #[.slice (some ⟨b,off,none⟩) ws.length wc] 60),Pr.pts (w.heap.size+1) (.cells #[.bool true] 4),Pr.pts (w.heap.size+1+1) (.cells #[.int .i64 k] 3),Pr.pts (w.heap.size+1+1+1) (.cells #[.bool false] 4),Pr.pts (w.heap.size+1+1+1+1) (.cells #[.int .i64 np] 3),Pr.own hw,F,Own,F2] wr) (fun i _=>xk.length-(intOf i).toNat)
    case atStart=>exact⟨0,xk,Nat.zero_le _,rfl,hQ rfl,HST4.out,HS6.out.to⟩
    case round=>
     obtain⟨p,Z,hp,rfl,hz,hst,hs⟩:=hrel;rename World=>wr
     clear HS6 HST4;rcases Nat.lt_or_ge p xk.length with hlp | hgp
     · obtain⟨bk,u,ek,hu,c0,f0,z0⟩:=Row.at1 (hs.pull1 (A1:=Row 5 1 (.slice ak xk.length ck) xk.length (Z.map (Value.int .u8)))) p hlp
       subst ek;have hzp:p<Z.length:=by rw [hz.out];exact hlp
       rw [List.getElem?_map,List.getElem?_eq_getElem hzp] at hu;simp only [Option.map_some,Option.some.injEq] at hu;rw [← hu] at c0;clear hu;have N1:=hQ (Row.put1 (hs.pull1 (A1:=Row 5 1 (.slice (some ⟨bk,0,none⟩) xk.length ck) xk.length (Z.map (Value.int .u8)))) p (by rw [List.length_map,hz.out];exact hlp) (.int .u8 (bits .xor .u8 Z[p] 1)));generalize Z[p]=zz at*;have HST9:=hQ hst
       clear hs hst hzp;gi_wp2
       go_roundw
       case measure=>simp [intOf];omega
       case rel=>
        refine⟨p+1,Z.set p (bits .xor .u8 zz 1),by omega,congrArg (Value.int .i64) (by omega),hQ (by rw [List.length_set];exact hz.out),HST9.out.setCell _ _,?_⟩;rw [List.map_set];exact(OwnL.of1 N1.out).to
     · obtain rfl:p=xk.length:=by omega
       have HS7:=hQ (hs.lose (Row 5 1 (.slice ak xk.length ck) xk.length (Z.map (Value.int .u8))));have HST7:=hQ hst;clear hs hst hgp hz;gi_wp2_with fail
       gi_loopw [14] (fun i wr=> ∃(p:Nat) (Z:List Int),p≤xv.length∧i= .int .i64 p∧Hid (Z.length=xv.length)∧Stays W2 wr∧OwnL [Row 5 1 (.slice av xv.length cv) xv.length (Z.map (Value.int .u8)),Pr.pts w.heap.size (.cells #[.slice (some ⟨b,off,none⟩) ws.length wc] 60),Pr.pts (w.heap.size+1) (.cells #[.bool true] 4),Pr.pts (w.heap.size+1+1) (.cells #[.int .i64 k] 3),Pr.pts (w.heap.size+1+1+1) (.cells #[.bool false] 4),Pr.pts (w.heap.size+1+1+1+1) (.cells #[.int .i64 np] 3),Pr.own hw,F,Own,F2] wr) (fun i _=>xv.length-(intOf i).toNat)
       case atStart=>exact⟨0,xv,Nat.zero_le _,rfl,hQ rfl,HST7.out,HS7.out.to⟩
       case round=>
        obtain⟨p,Z,hp,rfl,hz,hst,hs⟩:=hrel;rename World=>wr
        clear HS7 HST7;rcases Nat.lt_or_ge p xv.length with hlp | hgp
        · obtain⟨bk,u,ek,hu,c0,f0,z0⟩:=Row.at1 (hs.pull1 (A1:=Row 5 1 (.slice av xv.length cv) xv.length (Z.map (Value.int .u8)))) p hlp
          subst ek;have hzp:p<Z.length:=by rw [hz.out];exact hlp
          rw [List.getElem?_map,List.getElem?_eq_getElem hzp] at hu;simp only [Option.map_some,Option.some.injEq] at hu;rw [← hu] at c0;clear hu;have N1:=hQ (Row.put1 (hs.pull1 (A1:=Row 5 1 (.slice (some ⟨bk,0,none⟩) xv.length cv) xv.length (Z.map (Value.int .u8)))) p (by rw [List.length_map,hz.out];exact hlp) (.int .u8 (bits .xor .u8 Z[p] 1)));generalize Z[p]=zz at*;have HST9:=hQ hst
          clear hs hst hzp;gi_wp2
          go_roundw
          case measure=>simp [intOf];omega
          case rel=>
           refine⟨p+1,Z.set p (bits .xor .u8 zz 1),by omega,congrArg (Value.int .i64) (by omega),hQ (by rw [List.length_set];exact hz.out),HST9.out.setCell _ _,?_⟩;rw [List.map_set];exact(OwnL.of1 N1.out).to
        · obtain rfl:p=xv.length:=by omega
          have HS7:=hQ (hs.lose (Row 5 1 (.slice av xv.length cv) xv.length (Z.map (Value.int .u8))));have HST7:=hQ hst;clear hs hst hgp hz;have c1:=HS7.out.facts;simp only [CellsAt,and_true] at c1;have HS8:=hQ HS7.out;have HST8:=hQ HST7.out;clear HS7 HST7;by_cases hk:k<(np:Int)+1
          · gi_wp2
            refine⟨(HST8.out.setCell _ _).setCell _ _,?_⟩;have h6:=(HS8.out.set (w.heap.size+1+1+1+1) 0 (.int .i64 ((np:Int)+1))).set (w.heap.size+1+1+1) 0 (.bool true);have h7:=h6.to (M:= [Pr.pts (w.heap.size+1+1+1) (.cells #[.bool true] 4),Pr.own hw,F,Own,F2]);rw [Pr.star_assoc,Pr.star_assoc];exact Sat.pure.2 ⟨rfl,h7.sat.perm (by simp only [starL,Pr.star_emp,Pr.star_assoc])⟩
          · gi_wp2
            refine⟨HST8.out.setCell _ _,?_⟩;have h6:=(HS8.out.set (w.heap.size+1+1+1+1) 0 (.int .i64 ((np:Int)+1)))
            have h7:=h6.to (M:= [Pr.pts w.heap.size (.cells #[.slice (some ⟨b,off,none⟩) ws.length wc] 60),Pr.pts (w.heap.size+1) (.cells #[.bool true] 4),Pr.pts (w.heap.size+1+1) (.cells #[.int .i64 k] 3),Pr.pts (w.heap.size+1+1+1) (.cells #[.bool false] 4),Pr.pts (w.heap.size+1+1+1+1) (.cells #[.int .i64 ((np:Int)+1)] 3),Pr.own hw,F,Own,F2])
            have e9:∀x0:PairX,((pre++ [x0]).length:Int)=(np:Int)+1:=by
             intro x0;rw [List.length_append,HNP.out];simp
            show Sat (((GB w.heap.size _ true k false _ _).star Own).star F2) _
            dsimp only [GB];rw [e9];exact h7.sat.perm (by simp only [starL,Pr.star_emp,Pr.star_assoc])
 case done=>
  intro D xs W2 hxs hst hs
  have hs3:OwnL [Pr.pts D (.deferred (some [])),Pr.pts w.heap.size (.cells #[.slice wa ws.length wc] 60),Pr.pts (w.heap.size+1) (.cells #[.bool back] 4),Pr.pts (w.heap.size+1+1) (.cells #[.int .i64 k] 3),Pr.pts (w.heap.size+1+1+1) (.cells #[.bool false] 4),Pr.pts (w.heap.size+1+1+1+1) (.cells #[.int .i64 xs.length] 3),Pr.own hw,F,Own] W2:=⟨hs.perm (by simp only [starL,Pr.star_emp,Pr.star_assoc];ac_rfl)⟩
  rw [hxs,HTL.out] at hs3;have c1:=hs3.facts;simp only [CellsAt,and_true] at c1;have HS3:=hQ hs3;have HST3:=hQ (HST.out.trans hst);clear hs hs3 hst HS5;go_wp2;have h6:=HS3.out.set (w.heap.size+1+1+1) 0 (.bool true);have q1:=h6.pull1 (A1:=Pr.pts D (.deferred (some [])));have q2:=OwnL.of0 (q1.putObj (.deferred none)).right
  refine marks_ret1 (D:=D) rfl q1.pts_heap ⟨_,results_cell1 rfl Tryz.underlying4 _ _ (w.heap.size+1+1+1) (.bool true) rfl (by rw [cell_of_heap (q2.pts (w.heap.size+1+1+1)).pts_heap];rfl),rfl,(HST3.out.setCell _ _).putObj _ _,?_⟩;exact q2.to
 case stop=>
  intro D c pre W2 _ hst hs;rw [Pr.star_assoc,Pr.star_assoc] at hs;obtain⟨rfl,hs2⟩:=Sat.pure.1 hs;have hs3:OwnL [Pr.pts D (.deferred (some [])),Pr.pts (w.heap.size+1+1+1) (.cells #[.bool true] 4),Pr.own hw,F,Own] W2:=⟨hs2.perm (by simp only [starL,Pr.star_emp,Pr.star_assoc];ac_rfl)⟩;have HS3:=hQ hs3;have HST3:=hQ (HST.out.trans hst);clear hs hs2 hs3 hst HS5;go_wp2
  have q1:=HS3.out.pull1 (A1:=Pr.pts D (.deferred (some [])));have q2:=OwnL.of0 (q1.putObj (.deferred none)).right;refine marks_ret1 (D:=D) rfl q1.pts_heap ⟨_,results_cell1 rfl Tryz.underlying4 _ _ (w.heap.size+1+1+1) (.bool true) rfl (by rw [cell_of_heap (q2.pts (w.heap.size+1+1+1)).pts_heap];rfl),rfl,HST3.out.putObj _ _,?_⟩;exact q2.to
end Go.Proofs.YtiegeadmgpanoaaGreatDoor.X8
