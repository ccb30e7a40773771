/- (*Pool).act and what it undoes by; the conditions stand as hypotheses. -/
import Derived.Test.YtiegeadmgpanoaaGreatDoorL09
set_option maxRecDepth 100000
set_option maxHeartbeats 16000000
namespace Go.Proofs.YtiegeadmgpanoaaGreatDoor.N3
open ChangeShapes WideShapes ChangeAt RowKit Sl fB D2 L3 M3
theorem KU(p:Nat)(s:ef)(n b:Int)(bp bn bb:Nat)(h0:Hp)(e0:h0.cell bp 0=some (.pointer (some ⟨p,0,none⟩)))(e1:h0.cell bn 0=some (.int .i64 n))(e2:h0.cell bb 0=some (.int .i64 b))
 (F:Pr) (w:World) (hh:h0.le w) (hF:Sat ((eP p s).star F) w) (hn:s.there n) (h1:0≤s.count n-b) (h2:s.count n-b≤65536) (hb: -65536≤b∧b≤65536):
 Calls Tryz.prog 139 #[.pointer (some ⟨bp,0,none⟩),.pointer (some ⟨bn,0,none⟩),.pointer (some ⟨bb,0,none⟩)] w fun e w'=>
  e= .returned (.tuple #[])∧Sat ((eP p (s.turn n (-b))).star F) w'∧dN w w':=by
 have r0:=Hp.kG hh e0;have r1:=Hp.kG hh e1;have r2:=Hp.kG hh e2;have C:=hQ (CO p s n (-b) F w hF hn (by omega) (by omega));clear hF;go_enter Tryz.func139,Tryz.ntmps139
 go_wp2_with fail
 refine C.af.mono ?_;rintro e w' ⟨rfl,hs,hst⟩;go_wp2;first | refine bodyPost_ret (results_none rfl _ _ _) rfl ?_ | go_end0
 exact⟨rfl,hs,hst⟩
theorem _root_.Go.fB.ef.Qo {s:ef}(h:hU s)(hm:s.floor+s.acts.length<1099511627776)(x:Int × Int):hU { s with acts:=s.acts++ [x] }:=
 ⟨h.n1,h.n2,h.len,h.r1,h.r2,h.cs,h.fl,by simp;omega⟩
theorem KV {p:Nat}{s:ef}{n b:Int}{cv lv:Value}{fb:Nat}{av Nf:Value}{fs:List Value}{ha:Hp}{B:Nat}{F:Pr}{w:World}(ok:hU (s.turn n b))(hm:s.floor+s.acts.length<1099511627776)(hai:E_ ha p s.acts fs)
 (h:Sat (((Pr.own ha).star ((Pr.pts B (.cells #[.pointer (some ⟨p,0,none⟩)] 104)).star ((Pr.pts (B+1) (.cells #[.int .i64 n] 3)).star (Pr.pts (B+1+1) (.cells #[.int .i64 b] 3))))).star
   ((Pr.pts p (.cells ((eO (s.turn n b) cv lv fb av).setIfInBounds 9 Nf) 159)).star
   ((Row 208 1 Nf (s.acts.length+1) (fs++ [Value.func (.func 139) #[] #[.pointer (some ⟨B,0,none⟩),.pointer (some ⟨B+1,0,none⟩),.pointer (some ⟨B+1+1,0,none⟩)]])).star
   ((dX cv (s.turn n b).counts).star ((eK lv (s.turn n b).last).star ((f_ fb fun m=>(s.turn n b).state m=1).star F)))))) w):
 Sat ((eP p { s.turn n b with acts:=s.acts++ [(n,b)] }).star F) w:=by
 obtain⟨h0,hA,hS⟩:=Sat.sf h;obtain⟨x1,y1,p1,q1,s1,t1⟩:=fF hA;obtain⟨x2,y2,p2,q2,s2,t2⟩:=fF q1;obtain⟨x3,y3,p3,q3,s3,t3⟩:=fF q2;cases p1;cases p2;cases p3;cases q3;have e0:h0.cell B 0=some (.pointer (some ⟨p,0,none⟩)):=Hp.oo (s2.trans t1) (by simp [Hp.cell]);have e1:h0.cell (B+1) 0=some (.int .i64 n):=Hp.oo (s3.trans (t2.trans t1)) (by simp [Hp.cell])
 have e2:h0.cell (B+1+1) 0=some (.int .i64 b):=Hp.oo (t3.trans (t2.trans t1)) (by simp [Hp.cell]);refine jl.2 ⟨ef.Qo (s:=s.turn n b) ok hm (n,b),cv,lv,fb,Nf,?_⟩
 have Xn:E_ h0 p (s.acts++ [(n,b)]) (fs++ [Value.func (.func 139) #[] #[.pointer (some ⟨B,0,none⟩),.pointer (some ⟨B+1,0,none⟩),.pointer (some ⟨B+1+1,0,none⟩)]]):=by
  obtain⟨l1,l2⟩:=hai;refine⟨by simp [l1],fun i hi hf=> ?_⟩;by_cases hlt:i<s.acts.length
  · rw [bz hlt,bz (by omega)]
    exact(l2 i hlt (by omega)).sub s1
  · have he:i=s.acts.length:=by simp at hi;omega
    subst he;rw [bj (by omega),bj (by omega)];simp only [l1,b_,List.getElem_cons_zero];exact⟨_,_,_,rfl,e0,e1,e2⟩
 have e:(s.acts++ [(n,b)]).length=s.acts.length+1:=by simp
 have Xo:Sat ((i' p Nf (s.acts++ [(n,b)])).star ((Pr.pts p (.cells ((eO (s.turn n b) cv lv fb av).setIfInBounds 9 Nf) 159)).star ((dX cv (s.turn n b).counts).star ((eK lv (s.turn n b).last).star ((f_ fb fun m=>(s.turn n b).state m=1).star F))))) w:=by
  unfold i';refine Sat.ex.2 ⟨(fs++ [Value.func (.func 139) #[] #[.pointer (some ⟨B,0,none⟩),.pointer (some ⟨B+1,0,none⟩),.pointer (some ⟨B+1+1,0,none⟩)]],h0),?_⟩;rw [Pr.dP];refine Sat.pure.2 ⟨Xn,?_⟩;dsimp only;rw [e];exact hS.perm (by ac_rfl)
 unfold k_;exact Xo.perm (show _=((Pr.pts p (.cells ((eO (s.turn n b) cv lv fb av).setIfInBounds 9 Nf) 159)).star ((dX cv (s.turn n b).counts).star ((eK lv (s.turn n b).last).star ((f_ fb fun m=>(s.turn n b).state m=1).star (i' p Nf (s.acts++ [(n,b)])))))).star F from by ac_rfl)
theorem NT:(Tryz.prog.info? 208).map (fun i=>(i.zero,i.size,i.bytes))=some (some (.agg #[.nilFunc]),1,8):=by kernel_rfl
theorem G0(p:Nat)(s:ef)(n b:Int)(F:Pr)(w:World)(hF:Sat ((eP p s).star F) w)(hn:s.there n)(h0:0≤s.count n+b)(h1:s.count n+b≤65536)(hm:s.floor+s.acts.length<1099511627776):
 Calls Tryz.prog 113 #[.pointer (some ⟨p,0,none⟩),.int .i64 n,.int .i64 b] w fun e w'=>
  e= .returned (.tuple #[])∧Sat ((eP p { s.turn n b with acts:=s.acts++ [(n,b)] }).star F) w'∧dN w w':=by
 have hB:=((hF.alloc (.cells #[.pointer (some ⟨p,0,none⟩)] 104)).alloc (.cells #[.int .i64 n] 3)).alloc (.cells #[.int .i64 b] 3);rw [World.size_alloc,World.size_alloc] at hB
 have RZ:Sat ((eP p s).star ((Pr.pts w.heap.size (.cells #[.pointer (some ⟨p,0,none⟩)] 104)).star ((Pr.pts (w.heap.size+1) (.cells #[.int .i64 n] 3)).star ((Pr.pts (w.heap.size+1+1) (.cells #[.int .i64 b] 3)).star F)))) _:=hB.perm (by ac_rfl);have C:=hQ (CO p s n b _ _ RZ hn h0 h1);clear hB RZ hF;go_enter Tryz.func113,Tryz.ntmps113
 go_wp2_with fail
 refine C.af.mono ?_;rintro e w' ⟨rfl,hs,hst⟩;have eR:=hQ ((((dN.refl w).alloc _).alloc _).alloc _ |>.trans hst);clear C hst;generalize w.heap.size=B at*;obtain⟨ok,cv,lv,fb,av,hA⟩:=jl.1 hs
 have o9:Sat ((i' p av s.acts).star ((Pr.pts p (.cells (eO (s.turn n b) cv lv fb av) 159)).star ((Pr.pts B (.cells #[.pointer (some ⟨p,0,none⟩)] 104)).star ((Pr.pts (B+1) (.cells #[.int .i64 n] 3)).star ((Pr.pts (B+1+1) (.cells #[.int .i64 b] 3)).star
  ((dX cv (s.turn n b).counts).star ((eK lv (s.turn n b).last).star ((f_ fb fun m=>(s.turn n b).state m=1).star F)))))))) w':=hA.perm (show ((Pr.pts p _).star ((dX cv (s.turn n b).counts).star ((eK lv (s.turn n b).last).star ((f_ fb fun m=>(s.turn n b).state m=1).star (i' p av s.acts))))).star _=_ from by ac_rfl)
 generalize hR:((dX cv (s.turn n b).counts).star ((eK lv (s.turn n b).last).star ((f_ fb fun m=>(s.turn n b).state m=1).star F)))=RST at o9;have HR:=hQ hR;clear hR hA hs;unfold i' at o9;obtain⟨⟨fs,ha⟩,h2⟩:=Sat.ex.1 o9;rw [Pr.dP] at h2;obtain⟨hai,h3⟩:=Sat.pure.1 h2;dsimp only at hai h3
 have h4:Sat ((Row 208 1 av s.acts.length fs).star ((Pr.pts p (.cells (eO (s.turn n b) cv lv fb av) 159)).star ((Pr.pts B (.cells #[.pointer (some ⟨p,0,none⟩)] 104)).star ((Pr.pts (B+1) (.cells #[.int .i64 n] 3)).star ((Pr.pts (B+1+1) (.cells #[.int .i64 b] 3)).star ((Pr.own ha).star RST)))))) w':=h3.perm (by ac_rfl);clear h2 h3 o9;obtain⟨aa,ca,Qp,_,_⟩:=Row.read h4;subst Qp
 have hp:=h4.right;have hb0:=h4.right.right;have hb1:=h4.right.right.right;have hb2:=h4.right.right.right.right;have r0:w'.cell? ⟨B,0,none⟩=some (.pointer (some ⟨p,0,none⟩)):=by rw [cell_of_heap hb0.dL];rfl
 have r9:w'.cell? ⟨p,9,none⟩=some (.slice aa s.acts.length ca):=by rw [cell_of_heap hp.dL];rfl
 have z0:=hb0.lt;have zp:=hp.lt;have aah:0≤s.floor:=ok.fl;have HAI:=hQ hai
 have hnew:Hid (∀j u,[Value.func (.func 139) #[] #[.pointer (some ⟨B,0,none⟩),.pointer (some ⟨B+1,0,none⟩),.pointer (some ⟨B+1+1,0,none⟩)]][j]? =some u→
  (w'.alloc (.cells #[Value.func (.func 139) #[] #[.pointer (some ⟨B,0,none⟩),.pointer (some ⟨B+1,0,none⟩),.pointer (some ⟨B+1+1,0,none⟩)]] 208)).cell? ((⟨w'.heap.size,0,none⟩:Addr).add j)=some u):=hQ (by
  intro j u hj
  cases j with
  | zero=>rw [qG,cell_of_heap (mq _ _)];simpa using hj
  | succ j=>simp at hj)
 have H5:=hQ (h4.alloc (.cells #[Value.func (.func 139) #[] #[.pointer (some ⟨B,0,none⟩),.pointer (some ⟨B+1,0,none⟩),.pointer (some ⟨B+1+1,0,none⟩)]] 208)).right;clear hp hb0 hb1 hb2 h4 hai;have hsl:s.acts.length≤1099511627776:=by omega
 go_wp2;refine wS 21 [0,1,2,3,4,5,6] [(7,[],[0,1,2,3,4,5]),(8,[9,10],[0,1,2,3,5]),(11,[],[9])] ?_;iterate 7 (refine fH rfl rfl (fun K hK=> ?_);go_simp;refine hK _ ?_;clear hK K)
 refine dU ?_;refine dK rfl ?_;go_wp2;refine dQ (dU ⟨?_,?_⟩)
 · refine d6 ?_ (d6 ?_ (d6 ?_ (d6 ?_ (d6 ?_ (d6 ?_ eM)))))<;>(refine fj rfl rfl rfl rfl ?_;go_simp;try omega)
 refine dK rfl ?_;obtain⟨i0,hi,hz0,hz1,jg⟩:=info_parts NT;refine eu rfl _ _ _ rfl 208 i0 (.agg #[.nilFunc]) 1 8 Tryz.underlying157 hi hz0 hz1 jg rfl _ _ _ rfl H5.af ⟨w'.heap.size,0,none⟩ 1 1 _ rfl rfl hnew.af (by simp [Value.oneCell']) (by simp only [maxLen];omega) (by omega) ?_;intro v' w1 hJ hgr _;obtain⟨a2,c2,Cv,_,_⟩:=Row.read hJ;subst Cv;have hp:=hJ.right
 have q0:w1.cell? ⟨B,0,none⟩=some (.pointer (some ⟨p,0,none⟩)):=by rw [cell_of_heap hp.right.dL];rfl
 have q9:=frozen_of_heap hp.dL 9;have q9c:w1.cell? ⟨p,9,none⟩=some (.slice aa s.acts.length ca):=by rw [cell_of_heap hp.dL];rfl
 have y0:=hp.right.lt;have yp:=hp.lt;have ja:=hQ hJ;clear hJ hp r0 r9 z0 zp;go_wp2;refine dQ ?_;iterate 2 (refine fH rfl rfl (fun K hK=> ?_);go_simp;refine hK _ ?_;clear hK K)
 refine dU ⟨?_,?_⟩
 · refine d6 ?_ (d6 ?_ (d6 ?_ (d6 ?_ (d6 ?_ eM))))<;>(refine fj rfl rfl rfl rfl ?_;go_simp;try omega)
 refine dK rfl ?_;go_wp2;refine dQ (dU ⟨?_,dW ?_⟩)
 · refine d6 ?_ eM<;>(refine fj rfl rfl rfl rfl ?_;go_simp;try omega)
 go_wp2;first | refine bodyPost_ret (results_none rfl _ _ _) rfl ?_ | go_end0
 refine⟨rfl,KV (B:=B) (cv:=cv) (lv:=lv) (fb:=fb) (av:= .slice aa s.acts.length ca) (Nf:= .slice a2 (s.acts.length+1) c2) ok hm HAI.af ?_,?_⟩
 · have h6:=(ja.af.perm (Pr.eD _ _ _)).setCell (i:=9) (.slice a2 (s.acts.length+1) c2)
   have h7:=HR.af;subst h7;exact h6.perm (by ac_rfl)
 · exact((eR.af.alloc _).drew.eH hgr).setCell _ _
end Go.Proofs.YtiegeadmgpanoaaGreatDoor.N3
namespace Go.fB
def ef.did(s:ef)(n b:Int):ef:= { s.turn n b with acts:=s.acts++ [(n,b)] }
theorem uT {s:ef}{n b m:Int}:(s.did n b).there m↔s.there m:=mN
theorem pn {s:ef}{n b m:Int}(h:s.there n):(s.did n b).count m=if m=n then s.count n+b else s.count m:=pS h
theorem rD {s:ef}{n b m:Int}(h:s.there n):(s.did n b).state m=if m=n then gq (s.count n+b) (s.lasts n) else s.state m:=od h
theorem ia {s:ef}{n:Int}(h:s.state n≠0):s.there n:=by
 unfold ef.state at h;by_cases ht:s.there n
 · exact ht
 · rw [if_neg ht] at h;exact absurd rfl h
theorem lg {s:ef}{n:Int}(h:s.count n≠0):s.there n:=by
 unfold ef.count at h;by_cases ht:s.there n
 · exact ht
 · rw [if_neg ht] at h;exact absurd rfl h
theorem jd {s:ef}(ok:hU s){n:Int}(h:s.state n=1):s.count n=0:=by
 have h1:=(m_ ok n).1;rw [jS (ia (by omega))] at h;unfold gq at h;by_cases hc:0<s.count n
 · rw [if_pos hc] at h;split at h<;>omega
 · omega
end Go.fB
namespace Go.Proofs.YtiegeadmgpanoaaGreatDoor.D2
open ChangeShapes WideShapes ChangeAt RowKit Sl fB L3 M3 N3
theorem kM {p:Nat}{s:ef}{F:Pr}{w:World}(h:Sat ((eP p s).star F) w):hU s∧o0 w p s∧
 w.cell? ⟨p,10,none⟩=some (.int .i64 s.floor)∧(∃a c,w.cell? ⟨p,9,none⟩=some (.slice a s.acts.length c))∧
 (∃fb,w.cell? ⟨p,3,none⟩=some (.pointer (some ⟨fb,0,none⟩))∧∃G,Sat ((f_ fb fun m=>s.state m=1).star G) w):=by
 obtain⟨ok,cv,lv,fb,av,hA⟩:=jl.1 h;have o9:Sat ((Pr.pts p (.cells (eO s cv lv fb av) 159)).star ((dX cv s.counts).star ((eK lv s.last).star ((f_ fb fun m=>s.state m=1).star ((i' p av s.acts).star F))))) w:=hA.perm (by unfold k_;ac_rfl);have hs:=o9.right.right.right;have ha:=hs.right;unfold i' at ha;obtain⟨⟨fs,hx⟩,h2⟩:=Sat.ex.1 ha;rw [Pr.dP] at h2
 obtain⟨_,h3⟩:=Sat.pure.1 h2;dsimp only at h3;rw [Pr.dP] at h3;obtain⟨a,c,Qp,_,_⟩:=Row.read h3;subst Qp;refine⟨ok,wL ok.len ok.n1 ok.n2 rfl rfl rfl o9,by rw [cell_of_heap o9.dL];rfl,⟨a,c,by rw [cell_of_heap o9.dL];rfl⟩,fb,by rw [cell_of_heap o9.dL];rfl,_,hs⟩
theorem pX(p:Nat)(s:ef)(n:Int)(F:Pr)(w:World)(hF:Sat ((eP p s).star F) w):
 Calls Tryz.prog 76 #[.pointer (some ⟨p,0,none⟩),.int .i64 n] w fun e w'=>e= .returned (.int .i64 (s.count n))∧w=w':=
 Ic p n w s (kM hF).2.1
theorem Bd(p:Nat)(s:ef)(F:Pr)(w:World)(hF:Sat ((eP p s).star F) w):
 Calls Tryz.prog 100 #[.pointer (some ⟨p,0,none⟩)] w fun e w'=>e= .returned (.int .i64 s.mark)∧dN w w'∧w'.heap=w.heap:=by
 obtain⟨ok,_,h10,⟨a,c,h9⟩,_⟩:=kM hF;have b1:=ok.fl;have b2:=ok.mb;clear hF ok;have e:s.mark=s.floor+s.acts.length:=rfl;rw [e];clear e;generalize s.floor=fl at*;generalize s.acts.length=al at*;go_enter Tryz.func100,Tryz.ntmps100
 go_wp2;go_region
 go_wp2;go_ret;exact⟨rfl,⟨rfl,rfl,rfl,aD _⟩,rfl⟩
theorem NU(p:Nat)(s:ef)(F:Pr)(w:World)(hF:Sat ((eP p s).star F) w)(hm:s.floor+s.acts.length<1099511627776):
 Calls Tryz.prog 71 #[.pointer (some ⟨p,0,none⟩)] w fun e w'=>
  (e= .returned (.tuple #[.int .i64 0,.int .i64 12])∧(∀m,s.state m≠1)∧w=w')∨
  ∃n,e= .returned (.tuple #[.int .i64 n,.int .i64 0])∧s.state n=1∧(∀m,s.state m=1→n≤m)∧Sat ((eP p (s.did n 1)).star F) w'∧dN w w':=by
 obtain⟨ok,_,_,_,fb,h3,G,hs⟩:=kM hF;have C:=hQ (E9 fb _ G w hs);have HF:=hQ hF;clear hs hF;go_enter Tryz.func71,Tryz.ntmps71
 go_wp2_with fail
 refine C.af.mono ?_;rintro e w' ⟨rfl,(⟨rfl,hno⟩ | ⟨n,rfl,hn,hle⟩)⟩
 · go_wp2
   go_ret2;exact .inl ⟨rfl,hno,rfl⟩
 · have hc:=jd ok hn
   have A:=hQ (G0 p s n 1 F w HF.af (ia (by omega)) (by omega) (by omega) hm);have HN:=hQ (And.intro hn hle);clear hn hle hc;go_wp2_with fail
   refine A.af.mono ?_;rintro e w' ⟨rfl,hs,hst⟩;go_wp2;go_ret2;exact .inr ⟨n,rfl,HN.af.1,HN.af.2,hs,hst⟩
theorem S0(p:Nat)(s:ef)(n:Int)(F:Pr)(w:World)(hF:Sat ((eP p s).star F) w)(hm:s.floor+s.acts.length<1099511627776):
 Calls Tryz.prog 102 #[.pointer (some ⟨p,0,none⟩),.int .i64 n] w fun e w'=>
  (e= .returned (.tuple #[.int .i64 0,.int .i64 15])∧s.count n=0∧w=w')∨
  (e= .returned (.tuple #[.int .i64 (s.count n-1),.int .i64 0])∧s.count n≠0∧Sat ((eP p (s.did n (-1))).star F) w'∧dN w w'):=by
 have ok:=(kM hF).1;have C:=hQ (pX p s n F w hF);have HF:=hQ hF;obtain⟨b1,b2⟩:=m_ ok n;clear hF;by_cases h0:s.count n=0
 · rw [h0] at C
   go_enter Tryz.func102,Tryz.ntmps102
   go_wp2_with fail
   refine C.af.mono ?_;rintro e w' ⟨rfl,rfl⟩;go_wp2;go_ret2;exact .inl ⟨rfl,h0,rfl⟩
 · have ht:=lg h0
   have A:=hQ (G0 p s n (-1) F w HF.af ht (by omega) (by omega) hm);have hd:=pn (b:= -1) (m:=n) ht;rw [if_pos rfl] at hd;have HT:=hQ hd;clear ht hd;have hne:(s.count n == 0)=false:=by simpa using h0
   generalize hk:s.count n=k at*;have HK:=hQ hk;clear hk;go_enter Tryz.func102,Tryz.ntmps102
   go_wp2_with fail
   refine C.af.mono ?_;rintro e w' ⟨rfl,rfl⟩;go_wp2_with fail
   refine A.af.mono ?_;rintro e w' ⟨rfl,hs,hst⟩;have C2:=pX p (s.did n (-1)) n F _ hs;rw [HT.af] at C2;have D:=hQ C2;have HS:=hQ hs;clear C2 hs;go_wp2_with fail
   refine D.af.mono ?_;rintro e w' ⟨rfl,rfl⟩;go_wp2;go_ret2;exact .inr ⟨rfl,h0,HS.af,hst⟩
end Go.Proofs.YtiegeadmgpanoaaGreatDoor.D2
namespace Go.fB
def fy(l:List Int):List Bool:=l.map fun c=>decide (0<c)
def gx(l:List Int)(k:Int):Int:=((l.filter fun c=>gq c (decide (0<c)) == k).length:Nat)
theorem nJ(l:List Int)(c k:Int):gx (l++ [c]) k=gx l k+(if gq c (decide (0<c))=k then 1 else 0):=by
 unfold gx;rw [cG,au];by_cases h:gq c (decide (0<c))=k
 · simp [h]
 · simp [h]
theorem Fb(l:List Int)(k:Int):0≤gx l k∧gx l k≤l.length:=by
 unfold gx;have:=bX (fun c=>gq c (decide (0<c)) == k) l
 omega
theorem tC(l:List Int)(k:Int)(s:ef)(h1:s.counts=l)(h2:s.last=fy l):((s.many k:Nat):Int)=gx l k:=by
 unfold ef.many gx fy at*;rw [h1,h2]
 have:∀l:List Int,(List.filter (fun x:Int × Bool=>gq x.1 x.2 == k) (l.zip (l.map fun c=>decide (0<c)))).length=(l.filter fun c=>gq c (decide (0<c)) == k).length:=by
  intro l;induction l with
  | nil=>rfl
  | cons a l ih=>simp only [aT,List.zip_cons_cons,dH];split<;>simp_all
 rw [this]
theorem tG(l:List Int)(k:Int)(h1:k≠1)(h4:k≠4):gx l k=0:=by
 unfold gx;rw [cu.2]
 · rfl
 · intro c _
   unfold gq;by_cases h:0<c<;>simp [h]<;>omega
theorem qN {x:Int}(hx:0<x):gq x (decide (0<x))=4:=by simp [gq,hx]
theorem nK:gq 0 (decide ((0:Int)<0))=1:=by decide
def ef.settled(s:ef):ef:= { s with last:=fy s.counts,acts:= [],floor:=s.floor+s.acts.length }
end Go.fB
namespace Go.Proofs.YtiegeadmgpanoaaGreatDoor.Q3
open ChangeShapes WideShapes ChangeAt RowKit Sl fB D2 L3 M3 N3
theorem KW(p:Nat)(fl:Int)(al:Nat)(a:Option Addr)(c:Nat)(w:World)(h10:w.cell? ⟨p,10,none⟩=some (.int .i64 fl))(h9:w.cell? ⟨p,9,none⟩=some (.slice a al c))
 (b1:0≤fl) (b2:fl+al≤1099511627776):
 Calls Tryz.prog 100 #[.pointer (some ⟨p,0,none⟩)] w fun e w'=>e= .returned (.int .i64 (fl+al))∧dN w w'∧w'.heap=w.heap:=by
 go_enter Tryz.func100,Tryz.ntmps100
 go_wp2;go_region
 go_wp2;go_ret;exact⟨rfl,⟨rfl,rfl,rfl,aD _⟩,rfl⟩
def setCells(refs:Int)(cv lv:Value)(fb:Nat)(l:List Int)(fl:Int):Array Value:=
 #[.int .i64 refs,cv,lv,.pointer (some ⟨fb,0,none⟩),.int .i64 0,.int .i64 (gx l 1),.int .i64 0,.int .i64 0,.int .i64 (gx l 4),.slice none 0 0,.int .i64 fl]
def vE(p fb:Nat)(refs:Int)(cv lv:Value)(cs:List Int)(last:List Bool)(fl:Int)(i:Nat):Pr:=
 (Pr.pts p (.cells (setCells refs cv lv fb (cs.take i) fl) 159)).star ((dX cv cs).star ((eK lv (fy (cs.take i)++last.drop i)).star
   (f_ fb fun n=>1≤n∧n≤i∧cs.getD (n.toNat-1) 0=0)))
theorem Iz(cs:List Int)(last:List Bool)(k:Nat)(hk:k<cs.length)(hl:last.length=cs.length)(b:Bool)(hb:b=decide (0<cs.getD k 0)):
 (fy (cs.take k)++last.drop k).set k b=fy (cs.take (k+1))++last.drop (k+1):=by
 have h1:(fy (cs.take k)).length=k:=by simp [fy];omega
 rw [bY _ _ (by omega),h1,b_,aQ (by omega:k<last.length),List.set_cons_zero,aF hk];simp only [fy,aI,aT,aZ,bZ,List.cons_append,List.nil_append];rw [hb,az,ag hk];rfl
theorem rE(cs:List Int)(last:List Bool)(k:Nat)(hk:k≤cs.length)(hl:last.length=cs.length):(fy (cs.take k)++last.drop k).length=cs.length:=by
 simp [fy];omega
theorem KX(cs:List Int)(last:List Bool)(k:Nat)(hk:k<cs.length):(fy (cs.take (k+1))++last.drop (k+1)).getD k false=decide (0<cs.getD k 0):=by
 rw [az,bG (by simp [fy];omega)];simp [fy,hk]
def yP(p fb:Nat)(refs:Int)(cv lv:Value)(cs:List Int)(last:List Bool)(fl:Int)(i:Nat):Pr:=
 (Pr.pts p (.cells (setCells refs cv lv fb (cs.take i) fl) 159)).star ((dX cv cs).star ((eK lv (fy (cs.take (i+1))++last.drop (i+1))).star
   (f_ fb fun n=>1≤n∧n≤i∧cs.getD (n.toNat-1) 0=0)))
theorem NV {p fb bl cl:Nat}{refs:Int}{cv:Value}{cs:List Int}{last:List Bool}{fl:Int}{k:Nat}{F:Pr}{w:World}{b:Bool}(hk:k<cs.length)(hl:last.length=cs.length)(hb:b=decide (0<cs.getD k 0))
 (h:Sat ((vE p fb refs cv (.slice (some ⟨bl,0,none⟩) cs.length cl) cs last fl k).star F) w):
 Sat ((yP p fb refs cv (.slice (some ⟨bl,0,none⟩) cs.length cl) cs last fl k).star F) (w.setCell ⟨bl,k,none⟩ (.bool b)):=by
 have h1:Sat ((eK (.slice (some ⟨bl,0,none⟩) cs.length cl) (fy (cs.take k)++last.drop k)).star ((Pr.pts p (.cells (setCells refs cv (.slice (some ⟨bl,0,none⟩) cs.length cl) fb (cs.take k) fl) 159)).star ((dX cv cs).star
  ((f_ fb fun n=>1≤n∧n≤k∧cs.getD (n.toNat-1) 0=0).star F)))) w:=h.perm (by unfold vE;ac_rfl)
 have e1:=rE cs last k (by omega) hl;have e2:=rE cs last (k+1) (by omega) hl;unfold eK at h1;rw [e1] at h1;have h2:=Row.set (i:=k) h1 hk (.bool b);rw [← bN,Iz cs last k hk hl b hb] at h2;refine h2.perm ?_;unfold yP
 rw [show eK (.slice (some ⟨bl,0,none⟩) cs.length cl) (fy (cs.take (k+1))++last.drop (k+1))=Row 4 1 (.slice (some ⟨bl,0,none⟩) cs.length cl) cs.length ((fy (cs.take (k+1))++last.drop (k+1)).map Value.bool) from by unfold eK;rw [e2]];ac_rfl
theorem G4 {p fb:Nat}{refs:Int}{cv lv:Value}{cs:List Int}{last:List Bool}{fl:Int}{k:Nat}{F:Pr}{w:World}(hk:k<cs.length)(h2:cs.length≤65536)(hl:last.length=cs.length)
 (h:Sat ((yP p fb refs cv lv cs last fl k).star F) w):o0 w p { refs:=refs,counts:=cs,last:=fy (cs.take (k+1))++last.drop (k+1),acts:= [],floor:=fl }:=by
 have h':Sat ((Pr.pts p (.cells (setCells refs cv lv fb (cs.take k) fl) 159)).star ((dX cv cs).star ((eK lv (fy (cs.take (k+1))++last.drop (k+1))).star
  ((f_ fb fun n=>1≤n∧n≤k∧cs.getD (n.toNat-1) 0=0).star F)))) w:=h.perm (by unfold yP;ac_rfl)
 refine wL (s:= { refs:=refs,counts:=cs,last:=fy (cs.take (k+1))++last.drop (k+1),acts:= [],floor:=fl }) (rE cs last (k+1) (by omega) hl) (by dsimp only;omega) h2 (cs:=setCells refs cv lv fb (cs.take k) fl) rfl rfl rfl h'
theorem Fc {refs:Int}{cs:List Int}{last:List Bool}{fl:Int}{k:Nat}(hk:k<cs.length):
 ({ refs:=refs,counts:=cs,last:=fy (cs.take (k+1))++last.drop (k+1),acts:= [],floor:=fl }:ef).state ((k:Int)+1)=gq (cs.getD k 0) (decide (0<cs.getD k 0)):=by
 have ht:({ refs:=refs,counts:=cs,last:=fy (cs.take (k+1))++last.drop (k+1),acts:= [],floor:=fl }:ef).there ((k:Int)+1):=⟨by omega,by dsimp only;omega⟩;rw [jS ht];unfold ef.count ef.lasts;rw [if_pos ht];dsimp only;rw [show ((k:Int)+1).toNat-1=k by omega,KX cs last k hk]
theorem rF(cs:List Int)(k:Nat)(hk:k<cs.length):cs.take (k+1)=cs.take k++ [cs.getD k 0]:=by
 rw [aF hk,az,ag hk];rfl
theorem KY {p fb:Nat}{refs:Int}{cv lv:Value}{cs:List Int}{last:List Bool}{fl:Int}{k:Nat}{F:Pr}{w:World}(hk:k<cs.length)(hx:0<cs.getD k 0)
 (h:Sat ((yP p fb refs cv lv cs last fl k).star F) w):Sat ((vE p fb refs cv lv cs last fl (k+1)).star F) (w.setCell ⟨p,8,none⟩ (.int .i64 (gx (cs.take k) 4+1))):=by
 have h1:Sat ((Pr.pts p (.cells (setCells refs cv lv fb (cs.take k) fl) 159)).star ((dX cv cs).star ((eK lv (fy (cs.take (k+1))++last.drop (k+1))).star
  ((f_ fb fun n=>1≤n∧n≤k∧cs.getD (n.toNat-1) 0=0).star F)))) w:=h.perm (by unfold yP;ac_rfl)
 have h2:=h1.setCell (i:=8) (.int .i64 (gx (cs.take k) 4+1))
 have e1:(setCells refs cv lv fb (cs.take k) fl).setIfInBounds 8 (.int .i64 (gx (cs.take k) 4+1))=setCells refs cv lv fb (cs.take (k+1)) fl:=by
  have a1:gx (cs.take (k+1)) 1=gx (cs.take k) 1:=by rw [rF cs k hk,nJ,qN hx];simp
  have a4:gx (cs.take (k+1)) 4=gx (cs.take k) 4+1:=by rw [rF cs k hk,nJ,qN hx];simp
  unfold setCells;rw [a1,a4];rfl
 have e2:f_ fb (fun n=>1≤n∧n≤((k+1:Nat):Int)∧cs.getD (n.toNat-1) 0=0)=f_ fb (fun n=>1≤n∧n≤(k:Int)∧cs.getD (n.toNat-1) 0=0):=by
  refine l5 fun n=>⟨fun⟨b1,b2,b3⟩=>⟨b1,?_,b3⟩,fun⟨b1,b2,b3⟩=>⟨b1,by omega,b3⟩⟩
  rcases Int.lt_or_le (k:Int) n with h3 | h3
  · have:n.toNat-1=k:=by omega
    rw [this] at b3;omega
  · exact h3
 rw [e1] at h2;refine h2.perm ?_;unfold vE;rw [e2];ac_rfl
theorem KZ {p fb:Nat}{refs:Int}{cv lv:Value}{cs:List Int}{last:List Bool}{fl:Int}{k:Nat}{F:Pr}{w:World}(hk:k<cs.length)(hx:cs.getD k 0=0)
 (h:Sat ((yP p fb refs cv lv cs last fl k).star F) w):
 Sat ((f_ fb fun n=>1≤n∧n≤(k:Int)∧cs.getD (n.toNat-1) 0=0).star ((Pr.pts p (.cells (setCells refs cv lv fb (cs.take (k+1)) fl) 159)).star ((dX cv cs).star ((eK lv (fy (cs.take (k+1))++last.drop (k+1))).star F))))
  (w.setCell ⟨p,5,none⟩ (.int .i64 (gx (cs.take k) 1+1))):=by
 have h1:Sat ((Pr.pts p (.cells (setCells refs cv lv fb (cs.take k) fl) 159)).star ((dX cv cs).star ((eK lv (fy (cs.take (k+1))++last.drop (k+1))).star
  ((f_ fb fun n=>1≤n∧n≤k∧cs.getD (n.toNat-1) 0=0).star F)))) w:=h.perm (by unfold yP;ac_rfl)
 have h2:=h1.setCell (i:=5) (.int .i64 (gx (cs.take k) 1+1))
 have e1:(setCells refs cv lv fb (cs.take k) fl).setIfInBounds 5 (.int .i64 (gx (cs.take k) 1+1))=setCells refs cv lv fb (cs.take (k+1)) fl:=by
  have a1:gx (cs.take (k+1)) 1=gx (cs.take k) 1+1:=by rw [rF cs k hk,nJ,hx,nK];simp
  have a4:gx (cs.take (k+1)) 4=gx (cs.take k) 4:=by rw [rF cs k hk,nJ,hx,nK];simp
  unfold setCells;rw [a1,a4];rfl
 rw [e1] at h2;exact h2.perm (by ac_rfl)
theorem IA {fb:Nat}{cs:List Int}{k:Nat}(hx:cs.getD k 0=0):f_ fb (fun n=>n=(k:Int)+1∨1≤n∧n≤(k:Int)∧cs.getD (n.toNat-1) 0=0)=f_ fb (fun n=>1≤n∧n≤((k+1:Nat):Int)∧cs.getD (n.toNat-1) 0=0):=by
 refine l5 fun n=>⟨?_,fun⟨b1,b2,b3⟩=> ?_⟩
 · rintro(rfl | ⟨b1,b2,b3⟩)
   · refine⟨by omega,by omega,?_⟩
     rw [show ((k:Int)+1).toNat-1=k by omega];exact hx
   · exact⟨b1,by omega,b3⟩
 · rcases Int.lt_or_le (k:Int) n with h3 | h3
   · exact .inl (by omega)
   · exact .inr ⟨b1,h3,b3⟩
theorem xA(p:Nat)(refs:Int)(cv lv x3 x4 x5 x6 x7 x8:Value)(a9:Option Addr)(n9 c9:Nat)(fl:Int)(cs:List Int)(last:List Bool)(F:Pr)(w:World)
 (hF:Sat ((Pr.pts p (.cells #[.int .i64 refs,cv,lv,x3,x4,x5,x6,x7,x8,.slice a9 n9 c9,.int .i64 fl] 159)).star ((dX cv cs).star ((eK lv last).star F))) w)
 (h1:1≤cs.length) (h2:cs.length≤65536) (h3:last.length=cs.length) (h4:∀c∈cs,0≤c∧c≤65536) (b1:0≤fl) (b2:fl+n9≤1099511627776):
 Calls Tryz.prog 68 #[.pointer (some ⟨p,0,none⟩)] w fun e w'=>
  e= .returned (.tuple #[])∧(∃fb,Sat ((vE p fb refs cv lv cs last (fl+n9) cs.length).star F) w')∧dN w w':=by
 have h10:w.cell? ⟨p,10,none⟩=some (.int .i64 fl):=by rw [cell_of_heap hF.dL];rfl
 have h9:w.cell? ⟨p,9,none⟩=some (.slice a9 n9 c9):=by rw [cell_of_heap hF.dL];rfl
 have C:=hQ (KW p fl n9 a9 c9 w h10 h9 b1 b2);have HF:=hQ hF;clear hF h10 h9;go_enter Tryz.func68,Tryz.ntmps68
 go_wp2_with fail
 refine C.af.mono ?_;rintro e w1 ⟨rfl,hst,hh⟩;have H1:=HF.af.ext (w':=w1) (fun _ _=>by rw [hh]);have z1:=fun i=>frozen_of_heap H1.dL i
 have ig:=hQ H1;clear H1 HF C;have z6:=z1 10;have z5:=z1 9;have q10:w1.cell? ⟨p,10,none⟩=some (.int .i64 fl):=by rw [cell_of_heap ig.af.dL];rfl
 have q9:w1.cell? ⟨p,9,none⟩=some (.slice a9 n9 c9):=by rw [cell_of_heap ig.af.dL];rfl
 go_wp2_with fail
 have h5:=(ig.af.setCell (i:=10) (.int .i64 (fl+n9))).setCell (i:=9) (.slice none 0 0);refine(NS _ _ h5).mono ?_;rintro e w2 ⟨fb,rfl,h6,jq⟩;have h7:Sat ((Pr.pts p (.cells #[.int .i64 refs,cv,lv,x3,x4,x5,x6,x7,x8,.slice none 0 0,.int .i64 (fl+n9)] 159)).star ((iu fb (.slice none 0 0) []).star ((dX cv cs).star ((eK lv last).star F)))) w2:=h6.perm (Pr.eD _ _ _)
 have q3:w2.cell? ⟨p,3,none⟩=some x3:=by rw [cell_of_heap h7.dL];rfl
 have q4:w2.cell? ⟨p,4,none⟩=some x4:=by rw [cell_of_heap h7.dL];rfl
 have q5:w2.cell? ⟨p,5,none⟩=some x5:=by rw [cell_of_heap h7.dL];rfl
 have q6:w2.cell? ⟨p,6,none⟩=some x6:=by rw [cell_of_heap h7.dL];rfl
 have q7:w2.cell? ⟨p,7,none⟩=some x7:=by rw [cell_of_heap h7.dL];rfl
 have q8:w2.cell? ⟨p,8,none⟩=some x8:=by rw [cell_of_heap h7.dL];rfl
 have y3:=frozen_of_heap h7.dL 3;have y4:=frozen_of_heap h7.dL 4;have y5:=frozen_of_heap h7.dL 5;have y6:=frozen_of_heap h7.dL 6;have y7:=frozen_of_heap h7.dL 7;have y8:=frozen_of_heap h7.dL 8;obtain⟨bc,cc,ec,hc⟩:=pj h7.right.right (by omega);have q1:w2.cell? ⟨p,1,none⟩=some cv:=by rw [cell_of_heap h7.dL];rfl
 subst ec;obtain⟨bl,cl,el,_⟩:=sJ h7.right.right.right (by omega);rw [h3] at el;subst el;have H7:=hQ h7;clear h7 h6 h5 z6 z5 q10 q9;go_wp2;go_loopw [25] (fun i wr=> ∃k:Nat,k≤cs.length∧i= .int .i64 k∧dN w wr∧Sat ((vE p fb refs (.slice (some ⟨bc,0,none⟩) cs.length cc) (.slice (some ⟨bl,0,none⟩) cs.length cl) cs last (fl+n9) k).star F) wr) (fun i _=>cs.length-(intOf i).toNat)
 case atStart=>
  refine⟨0,aG _,rfl,?_,?_⟩
  · exact(((((((((hst.setCell _ _).setCell _ _).trans jq).setCell _ _).setCell _ _).setCell _ _).setCell _ _).setCell _ _).setCell _ _)
  · have h8:=(((((H7.af.setCell (i:=3) (.pointer (some ⟨fb,0,none⟩))).setCell (i:=4) (.int .i64 0)).setCell (i:=5) (.int .i64 0)).setCell (i:=6) (.int .i64 0)).setCell (i:=7) (.int .i64 0)).setCell (i:=8) (.int .i64 0)
    have h9:=h8.perm (Pr.eD _ _ _);have h10:=nT.2 ⟨_,[],rC,fun n=>(⟨fun hn=>absurd hn j_,fun hn=>absurd hn.1 (by have:=hn.2.1;omega)⟩:iy [] n↔(1≤n∧n≤((0:Nat):Int)∧cs.getD (n.toNat-1) 0=0)),h9⟩;refine Sat.perm h10 (B:=(vE p fb refs _ _ cs last (fl+n9) 0).star F) ?_;unfold vE
    show (f_ fb fun n=>1≤n∧n≤((0:Nat):Int)∧cs.getD (n.toNat-1) 0=0).star ((Pr.pts p (.cells (setCells refs (.slice (some ⟨bc,0,none⟩) cs.length cc) (.slice (some ⟨bl,0,none⟩) cs.length cl) fb (cs.take 0) (fl+n9)) 159)).star
     ((dX (.slice (some ⟨bc,0,none⟩) cs.length cc) cs).star ((eK (.slice (some ⟨bl,0,none⟩) cs.length cl) last).star F)))=_
    rw [show fy (cs.take 0)++last.drop 0=last from rfl];ac_rfl
 case round=>
  obtain⟨k,hk,rfl,mP,hinv⟩:=hrel
  have hp:Sat ((Pr.pts p (.cells (setCells refs (.slice (some ⟨bc,0,none⟩) cs.length cc) (.slice (some ⟨bl,0,none⟩) cs.length cl) fb (cs.take k) (fl+n9)) 159)).star ((dX (.slice (some ⟨bc,0,none⟩) cs.length cc) cs).star
   ((eK (.slice (some ⟨bl,0,none⟩) cs.length cl) (fy (cs.take k)++last.drop k)).star ((f_ fb fun n=>1≤n∧n≤(k:Int)∧cs.getD (n.toNat-1) 0=0).star F)))) wr:=hinv.perm (by unfold vE;ac_rfl)
  rcases aB k cs.length with hlt | hge
  · have r2:wr.cell? ⟨p,2,none⟩=some (.slice (some ⟨bl,0,none⟩) cs.length cl):=by rw [cell_of_heap hp.dL];rfl
    obtain⟨bc',cc',Zk,hc'⟩:=pj hp.right (by omega);have el:=rE cs last k (by omega) h3;obtain⟨bl',cl',Zl,hl'⟩:=sJ hp.right.right (by omega);simp only [Value.slice.injEq,Option.some.injEq,Addr.mk.injEq] at Zk Zl;obtain⟨⟨rfl, -⟩, -⟩:=Zk;obtain⟨⟨rfl, -⟩, -⟩:=Zl;have rc:=(hc' k hlt).1;obtain⟨rl,rlf⟩:=hl' k (by omega)
    have hx0:0≤cs.getD k 0:=by
     rw [az,ag hlt];exact(h4 _ (aE hlt)).1
    have yQ:=hQ hinv;have HC:=hQ (And.intro h4 hlt);have T:= @NV p fb bl cl refs (.slice (some ⟨bc,0,none⟩) cs.length cc) cs last (fl+n9) k F wr;have R9:=Fb (cs.take k);have hlk:(cs.take k).length≤65536:=by simp;omega
    have hb1:0≤gx (cs.take k) 1∧gx (cs.take k) 1≤65536:=by have:=R9 1;omega
    have zu:0≤gx (cs.take k) 4∧gx (cs.take k) 4≤65536:=by have:=R9 4;omega
    clear hlk;have S1:= @Fc refs cs last (fl+n9) k hlt;clear R9 hinv hp hc' hl' hc h4 el;rcases Int.lt_or_le 0 (cs.getD k 0) with hx | hx
    · have tH:=T hlt h3 (decide_eq_true hx).symm yQ.af
      have PN:=G4 hlt h2 h3 tH.drew
      have Em:Sat ((Pr.pts p (.cells (setCells refs (.slice (some ⟨bc,0,none⟩) cs.length cc) (.slice (some ⟨bl,0,none⟩) cs.length cl) fb (cs.take k) (fl+n9)) 159)).star ((dX (.slice (some ⟨bc,0,none⟩) cs.length cc) cs).star
       ((eK (.slice (some ⟨bl,0,none⟩) cs.length cl) (fy (cs.take (k+1))++last.drop (k+1))).star ((f_ fb fun n=>1≤n∧n≤(k:Int)∧cs.getD (n.toNat-1) 0=0).star F)))) _:=tH.perm (by unfold yP;ac_rfl)
      have t8:=cell_of_heap Em.dL 8;have z8:=frozen_of_heap Em.dL 8;rw [show (setCells refs (.slice (some ⟨bc,0,none⟩) cs.length cc) (.slice (some ⟨bl,0,none⟩) cs.length cl) fb (cs.take k) (fl+n9))[8]? =some (.int .i64 (gx (cs.take k) 4)) from rfl] at t8;rw [qN hx] at S1;have HE:=hQ (KY hlt hx tH);have Xp:=hQ PN;clear T tH Em PN
      generalize gx (cs.take k) 4=t4 at*;generalize Zm:cs.getD k 0=x at*;have HXE:=hQ Zm;clear Zm;go_wp2;refine wS 63 [0,1,2,3,5,6,10,11] [(4,[7,8,9,12],[0,2,5,6,10,11]),(13,[],[10,11])] ?_;iterate 8 (refine fH rfl rfl (fun K hK=> ?_);go_simp;refine hK _ ?_;clear hK K)
      refine dU ?_;refine dK rfl ?_;go_wp2_with fail
      refine(nS p ((k:Int)+1) _ _ Xp.af).mono ?_;rintro e w3 ⟨rfl,rfl⟩;rw [S1];go_wp2;refine dQ ?_;iterate 4 (refine fH rfl rfl (fun K hK=> ?_);go_simp;refine hK _ ?_;clear hK K)
      refine dU ⟨?_,?_⟩
      · refine d6 ?_ (d6 ?_ (d6 ?_ (d6 ?_ (d6 ?_ (d6 ?_ eM)))))<;>(refine fj rfl rfl rfl rfl ?_;go_simp;try omega)
      refine dK rfl ?_;go_wp2;refine dQ (dU ⟨?_,dW ?_⟩)
      · refine d6 ?_ (d6 ?_ eM)<;>(refine fj rfl rfl rfl rfl ?_;go_simp;try omega)
      have hx2:(x == 0)=false:=by rw [beq_eq_false_iff_ne];omega
      go_wp2;go_roundw
      case rel=>exact⟨k+1,by omega,by go_num,((mP.setCell _ _).drew).setCell _ _,HE.af.ext fun _ _=>rfl⟩
      case measure=>simp [intOf];omega
    · have tH:=T hlt h3 (by rw [decide_eq_false (by omega)]) yQ.af
      have PN:=G4 hlt h2 h3 tH.drew
      have Em:Sat ((Pr.pts p (.cells (setCells refs (.slice (some ⟨bc,0,none⟩) cs.length cc) (.slice (some ⟨bl,0,none⟩) cs.length cl) fb (cs.take k) (fl+n9)) 159)).star ((dX (.slice (some ⟨bc,0,none⟩) cs.length cc) cs).star
       ((eK (.slice (some ⟨bl,0,none⟩) cs.length cl) (fy (cs.take (k+1))++last.drop (k+1))).star ((f_ fb fun n=>1≤n∧n≤(k:Int)∧cs.getD (n.toNat-1) 0=0).star F)))) _:=tH.perm (by unfold yP;ac_rfl)
      have t5:=cell_of_heap Em.dL 5;have t3:=cell_of_heap Em.dL 3;rw [show (setCells refs (.slice (some ⟨bc,0,none⟩) cs.length cc) (.slice (some ⟨bl,0,none⟩) cs.length cl) fb (cs.take k) (fl+n9))[3]? =some (.pointer (some ⟨fb,0,none⟩)) from rfl] at t3;have z5:=frozen_of_heap Em.dL 5
      rw [show (setCells refs (.slice (some ⟨bc,0,none⟩) cs.length cc) (.slice (some ⟨bl,0,none⟩) cs.length cl) fb (cs.take k) (fl+n9))[5]? =some (.int .i64 (gx (cs.take k) 1)) from rfl] at t5;have hx0':cs.getD k 0=0:=by omega
      rw [hx0',nK] at S1;have HE:=hQ (KZ hlt hx0' tH);have HN:=hQ (@IA fb cs k hx0');have aai:=hb1;have Xp:=hQ PN;clear T tH Em PN;generalize gx (cs.take k) 1=t1 at*;have HX0:=hQ hx0';rw [hx0'] at rc;clear hx0' hx hx0;go_wp2;refine wS 63 [0,1,2,3,5,6,10,11] [(4,[7,8,9,12],[0,2,5,6,10,11]),(13,[],[10,11])] ?_
      iterate 8 (refine fH rfl rfl (fun K hK=> ?_);go_simp;refine hK _ ?_;clear hK K)
      refine dU ?_;refine dK rfl ?_;go_wp2_with fail
      refine(nS p ((k:Int)+1) _ _ Xp.af).mono ?_;rintro e w3 ⟨rfl,rfl⟩;rw [S1];go_wp2;refine dQ ?_;iterate 4 (refine fH rfl rfl (fun K hK=> ?_);go_simp;refine hK _ ?_;clear hK K)
      refine dU ⟨?_,?_⟩
      · refine d6 ?_ (d6 ?_ (d6 ?_ (d6 ?_ (d6 ?_ (d6 ?_ eM)))))<;>(refine fj rfl rfl rfl rfl ?_;go_simp;try omega)
      refine dK rfl ?_;go_wp2;refine dQ (dU ⟨?_,dW ?_⟩)
      · refine d6 ?_ (d6 ?_ eM)<;>(refine fj rfl rfl rfl rfl ?_;go_simp;try omega)
      go_wp2_with fail
      have h11:=(HE.af.drew);refine(GX fb _ ((k:Int)+1) (by omega) (fun m hm=>by omega) _ _ h11).mono ?_;rintro e w4 ⟨m4,rfl,h12,CQ⟩;rw [HN.af] at h12;have HL:=hQ h12;clear h11 h12;go_wp2;go_roundw
      case rel=>exact⟨k+1,by omega,by go_num,((((mP.setCell _ _).drew).setCell _ _)).trans CQ,HL.af.perm (by unfold vE;ac_rfl)⟩
      case measure=>simp [intOf];omega
  · have hkl:k=cs.length:=by omega
    subst hkl;have yQ:=hQ hinv;clear hinv hp;go_wp2;first | refine bodyPost_ret (results_none rfl _ _ _) rfl ?_ | go_end0
    exact⟨rfl,⟨fb,yQ.af⟩,mP⟩
end Go.Proofs.YtiegeadmgpanoaaGreatDoor.Q3
namespace Go.fB
def Trail(s:ef):List Int→List (Int × Int)→List Int→Prop
 | c0,[],c1=>c0=c1
 | c0,a :: l,c1=>({ s with counts:=c0 }:ef).there a.1∧0≤({ s with counts:=c0 }:ef).count a.1∧({ s with counts:=c0 }:ef).count a.1≤65536∧(-65536≤a.2∧a.2≤65536)∧
     Trail s (({ s with counts:=c0 }:ef).turn a.1 a.2).counts l c1
theorem Fe {s:ef}{a:Int × Int}:∀ {l:List (Int × Int)} {c0 c:List Int},Trail s c0 (l++ [a]) c→∃c',Trail s c0 l c'∧({ s with counts:=c' }:ef).there a.1∧
 0≤({ s with counts:=c' }:ef).count a.1∧({ s with counts:=c' }:ef).count a.1≤65536∧(-65536≤a.2∧a.2≤65536)∧c=(({ s with counts:=c' }:ef).turn a.1 a.2).counts:=by
 intro l;induction l with
 | nil=>intro c0 c h;obtain⟨h1,h2,h3,h4,h5⟩:=h;exact⟨c0,rfl,h1,h2,h3,h4,h5.symm⟩
 | cons x l ih=>
   intro c0 c h;obtain⟨h1,h2,h3,h4,h5⟩:=h;obtain⟨c',h6,h7⟩:=ih h5;exact⟨c',⟨h1,h2,h3,h4,h6⟩,h7⟩
theorem Ff {s:ef}{a:Int × Int}:∀ {l:List (Int × Int)} {c0 c:List Int},Trail s c0 l c→({ s with counts:=c }:ef).there a.1→
 0≤({ s with counts:=c }:ef).count a.1→({ s with counts:=c }:ef).count a.1≤65536→(-65536≤a.2∧a.2≤65536)→Trail s c0 (l++ [a]) (({ s with counts:=c }:ef).turn a.1 a.2).counts:=by
 intro l;induction l with
 | nil=>intro c0 c h h1 h2 h3 h4;cases h;exact⟨h1,h2,h3,h4,rfl⟩
 | cons x l ih=>
   intro c0 c h h1 h2 h3 h4;obtain⟨g1,g2,g3,g4,g5⟩:=h;exact⟨g1,g2,g3,g4,ih g5 h1 h2 h3 h4⟩
theorem ID {s:ef}{n b:Int}(h:s.there n):(s.turn n b).turn n (-b)=s:=by
 have hc:=pS (b:=b) (m:=n) h;rw [if_pos rfl] at hc;have hx:s.count n=s.counts.getD (n.toNat-1) 0:=by unfold ef.count;rw [if_pos h]
 obtain⟨h1,h2⟩:=h;have:(s.turn n b).turn n (-b)= { s with counts:=((s.turn n b).counts).set (n.toNat-1) ((s.turn n b).count n+ -b) }:=rfl
 rw [this,hc]
 have e:(s.turn n b).counts.set (n.toNat-1) (s.count n+b+ -b)=s.counts:=by
  show (s.counts.set _ _).set _ _=_
  rw [List.set_set,show s.count n+b+ -b=s.count n by omega,hx];apply List.ext_getElem?;intro i;by_cases hi:i=n.toNat-1
  · subst hi
    rw [cK (by omega),az,ag (by omega)];rfl
  · rw [cn (by omega)]
 rw [e]
end Go.fB
namespace Go.Proofs.YtiegeadmgpanoaaGreatDoor.D2
open ChangeShapes WideShapes ChangeAt RowKit Sl fB L3 M3 N3
theorem IE {p:Nat}{s:ef}{F:Pr}{w:World}(h:Sat ((eP p s).star F) w){k:Nat}(hk:k<s.acts.length):
 ∃ab c bp bn bb,∃h0:Hp,h0.le w∧w.cell? ⟨p,9,none⟩=some (.slice (some ⟨ab,0,none⟩) s.acts.length c)∧
  w.cell? ⟨ab,k,none⟩=some (.func (.func 139) #[] #[.pointer (some ⟨bp,0,none⟩),.pointer (some ⟨bn,0,none⟩),.pointer (some ⟨bb,0,none⟩)])∧
  h0.cell bp 0=some (.pointer (some ⟨p,0,none⟩))∧h0.cell bn 0=some (.int .i64 s.acts[k].1)∧h0.cell bb 0=some (.int .i64 s.acts[k].2):=by
 obtain⟨ok,cv,lv,fb,av,hA⟩:=jl.1 h;have o9:Sat ((i' p av s.acts).star ((Pr.pts p (.cells (eO s cv lv fb av) 159)).star ((dX cv s.counts).star ((eK lv s.last).star ((f_ fb fun m=>s.state m=1).star F))))) w:=hA.perm (by unfold k_;ac_rfl);unfold i' at o9;obtain⟨⟨fs,hx⟩,h2⟩:=Sat.ex.1 o9;rw [Pr.dP] at h2;obtain⟨⟨l1,l2⟩,h3⟩:=Sat.pure.1 h2
 dsimp only at h3 l1 l2;rw [Pr.dP] at h3;obtain⟨a,c,Qp,_,hrow⟩:=Row.read h3;obtain⟨ab,hab,hc⟩:=hrow (by omega);subst hab;subst Qp;obtain⟨bp,bn,bb,e,g1,g2,g3⟩:=l2 k hk (by omega);refine⟨ab,c,bp,bn,bb,hx,h3.right.own,by rw [cell_of_heap h3.right.right.dL];rfl,?_,g1,g2,g3⟩;rw [(hc k (by omega)).1,ag (by omega),e]
end Go.Proofs.YtiegeadmgpanoaaGreatDoor.D2
namespace Go.Proofs.YtiegeadmgpanoaaGreatDoor.D2
open ChangeShapes WideShapes ChangeAt RowKit Sl fB L3 M3 N3
theorem Qq {p:Nat}{s:ef}{cv lv:Value}{fb:Nat}{av:Value}{F:Pr}{w:World}{a:Option Addr}{c:Nat}(h:Sat ((k_ p s cv lv fb av).star F) w)(h9:w.cell? ⟨p,9,none⟩=some (.slice a s.acts.length c)):s.acts.length≤c:=by
 have o9:Sat ((Pr.pts p (.cells (eO s cv lv fb av) 159)).star ((i' p av s.acts).star ((dX cv s.counts).star ((eK lv s.last).star ((f_ fb fun m=>s.state m=1).star F))))) w:=h.perm (by unfold k_;ac_rfl);have e:w.cell? ⟨p,9,none⟩=some av:=by rw [cell_of_heap o9.dL];rfl
 rw [e] at h9;cases h9;have h2:=o9.right;unfold i' at h2;obtain⟨⟨fs,hx⟩,h3⟩:=Sat.ex.1 h2;rw [Pr.dP] at h3;obtain⟨_,h4⟩:=Sat.pure.1 h3;dsimp only at h4;rw [Pr.dP] at h4;obtain⟨_,(⟨e1,e2,_⟩ | ⟨b',cap',sp,e1,_,e2,_,_⟩)⟩:=Row.open' h4
 · simp only [Value.slice.injEq] at e1;omega
 · simp only [Value.slice.injEq] at e1;omega
theorem wO {T n c m:Nat}{a:Option Addr}{xs:List Value}{F:Pr}{w:World}(h:Sat ((Row T 1 (.slice a n c) n xs).star F) w)(hm:m≤n):Sat ((Row T 1 (.slice a m c) m (xs.take m)).star F) w:=by
 refine h.mono fun x hx=> ?_
 obtain⟨hl,(⟨e,hn,hx⟩ | ⟨b,cap,sp,e,h1,h2,h3,h4⟩)⟩:=hx
 · cases e
   have:m=0:=by omega
   subst this;exact⟨by simp,.inl ⟨rfl,rfl,hx⟩⟩
 · cases e
   refine⟨by simp;omega,.inr ⟨b,c,xs.drop m++sp,rfl,by simp;omega,by omega,h3,?_⟩⟩;rw [← bZ,dc];exact h4
theorem K3 {p:Nat}{s:ef}{cv lv:Value}{fb:Nat}{a:Option Addr}{c m:Nat}{F:Pr}{w:World}(ok:hU s)(hm:m≤s.acts.length)
 (h:Sat ((k_ p s cv lv fb (.slice a s.acts.length c)).star F) w):Sat ((eP p { s with acts:=s.acts.take m }).star F) (w.setCell ⟨p,9,none⟩ (.slice a m c)):=by
 have hlen:(s.acts.take m).length=m:=by rw [aW];omega
 have ok':hU { s with acts:=s.acts.take m }:=⟨ok.n1,ok.n2,ok.len,ok.r1,ok.r2,ok.cs,ok.fl,by
  have:=ok.mb
  show s.floor+((s.acts.take m).length:Nat)≤ _
  rw [hlen];omega⟩
 refine jl.2 ⟨ok',cv,lv,fb,.slice a m c,?_⟩;have o9:Sat ((i' p (.slice a s.acts.length c) s.acts).star ((Pr.pts p (.cells (eO s cv lv fb (.slice a s.acts.length c)) 159)).star ((dX cv s.counts).star ((eK lv s.last).star ((f_ fb fun m=>s.state m=1).star F))))) w:=h.perm (by unfold k_;ac_rfl);unfold i' at o9;obtain⟨⟨fs,hx⟩,h2⟩:=Sat.ex.1 o9
 rw [Pr.dP] at h2;obtain⟨⟨l1,l2⟩,h3⟩:=Sat.pure.1 h2;dsimp only at l1 l2 h3;rw [Pr.dP] at h3;have h4:=wO h3 hm
 have h5:Sat ((Pr.pts p (.cells (eO s cv lv fb (.slice a s.acts.length c)) 159)).star ((Row 208 1 (.slice a m c) m (fs.take m)).star ((Pr.own hx).star ((dX cv s.counts).star ((eK lv s.last).star ((f_ fb fun m=>s.state m=1).star F)))))) w:=h4.perm (by ac_rfl)
 have h6:Sat ((Pr.pts p (.cells (eO s cv lv fb (.slice a m c)) 159)).star ((Row 208 1 (.slice a m c) m (fs.take m)).star ((Pr.own hx).star ((dX cv s.counts).star ((eK lv s.last).star ((f_ fb fun m=>s.state m=1).star F)))))) (w.setCell ⟨p,9,none⟩ (.slice a m c)):=h5.setCell (i:=9) (.slice a m c)
 have h7:Sat (((Row 208 1 (.slice a m c) m (fs.take m)).star (Pr.own hx)).star ((Pr.pts p (.cells (eO s cv lv fb (.slice a m c)) 159)).star ((dX cv s.counts).star ((eK lv s.last).star ((f_ fb fun m=>s.state m=1).star F))))) (w.setCell ⟨p,9,none⟩ (.slice a m c)):=h6.perm (by ac_rfl)
 have h8:Sat ((i' p (.slice a m c) (s.acts.take m)).star ((Pr.pts p (.cells (eO s cv lv fb (.slice a m c)) 159)).star ((dX cv s.counts).star ((eK lv s.last).star ((f_ fb fun m=>s.state m=1).star F))))) (w.setCell ⟨p,9,none⟩ (.slice a m c)):=by
  unfold i';refine Sat.ex.2 ⟨(fs.take m,hx),?_⟩;rw [Pr.dP];refine Sat.pure.2 ⟨⟨by rw [aW,aW,l1],fun i hi hf=> ?_⟩,?_⟩
  · have h1:i<s.acts.length:=by rw [hlen] at hi;omega
    rw [List.getElem_take,List.getElem_take];exact l2 i h1 (by omega)
  · rw [hlen];exact h7
 exact h8.perm (show _=((Pr.pts p (.cells (eO s cv lv fb (.slice a m c)) 159)).star ((dX cv s.counts).star ((eK lv s.last).star ((f_ fb fun m=>s.state m=1).star (i' p (.slice a m c) (s.acts.take m)))))).star F from by ac_rfl)
theorem CS(p:Nat)(s:ef)(m:Nat)(cm:List Int)(F:Pr)(w:World)(hF:Sat ((eP p s).star F) w)(hm:m≤s.acts.length)(ht:Trail s cm (s.acts.drop m) s.counts):
 Calls Tryz.prog 133 #[.pointer (some ⟨p,0,none⟩),.int .i64 (s.floor+m)] w fun e w'=>
  e= .returned (.bool true)∧Sat ((eP p { s with counts:=cm,acts:=s.acts.take m }).star F) w'∧dN w w':=by
 obtain⟨ok,_,h10,⟨aa,cc,h9⟩,_⟩:=kM hF;have C:=hQ (Bd p s F w hF);have b1:=ok.fl;have b2:=ok.mb;have em:s.mark=s.floor+s.acts.length:=rfl;rw [em] at C;have HF:=hQ hF;have HT:=hQ ht;clear hF ht ok em;go_enter Tryz.func133,Tryz.ntmps133
 go_wp2_with fail
 refine C.af.mono ?_;rintro e w1 ⟨rfl,hst,hh⟩;have Zn:w1.cell? ⟨p,9,none⟩=some (.slice aa s.acts.length cc):=by unfold World.cell? at h9 ⊢;rw [hh];exact h9
 have aaj:w1.cell? ⟨p,10,none⟩=some (.int .i64 s.floor):=by unfold World.cell? at h10 ⊢;rw [hh];exact h10
 have H1:=hQ (HF.af.ext (w':=w1) (fun _ _=>by rw [hh]));have hd:decide (s.acts.length<m)=false:=by rw [decide_eq_false_iff_not];omega
 have zq:¬s.acts.length<m:=by omega
 clear h9 h10 hh C;go_wp2;clear hd zq;go_loopw [5] (fun i wr=> ∃(j:Nat) (c:List Int),j≤s.acts.length-m∧i= .int .i64 ((m:Int)+j-1)∧dN w wr∧Trail s cm ((s.acts.drop m).take j) c∧Sat ((eP p { s with counts:=c }).star F) wr) (fun i _=>(intOf i+1).toNat)
 case atStart=>
  refine⟨s.acts.length-m,s.counts,aD _,?_,hst,?_,H1.af⟩
  · congr 1;omega
  · rw [bS (by simp)];exact HT.af
 case round=>
  obtain⟨j,c,hj,rfl,jq,htr,hinv⟩:=hrel;obtain⟨tJ,_,h10,⟨a3,c3,h9⟩,_⟩:=kM hinv;dsimp only at h10 h9;cases j with
  | zero=>
    have hz:cm=c:=htr;subst hz
    have zp:wr.frozen? ⟨p,9,none⟩=false:=by
     obtain⟨_,cv,lv,fb,av,hA⟩:=jl.1 hinv;unfold k_ at hA;rw [Pr.dP] at hA;exact frozen_of_heap hA.dL 9
    have hcap:s.acts.length≤c3:=by
     obtain⟨_,cv,lv,fb,av,hA⟩:=jl.1 hinv;exact Qq (s:= { s with counts:=cm }) hA h9
    have HI:=hQ hinv;clear hinv htr tJ;go_wp2;refine wS 57 [0,1,2,3,4,5,6,7,8,9,10,11,12,13] [(14,[],[12])] ?_;have hw:IntKind.i64.wrap (s.floor+(m:Int)-s.floor)=(m:Int):=by rw [show s.floor+(m:Int)-s.floor=(m:Int) by omega,IntKind.wrap_i64];omega
    have S4:(0:Int)≤(m:Int)∧(m:Int)≤(c3:Int):=by omega
    iterate 14 (refine fH rfl rfl (fun K hK=> ?_);go_simp;(try simp only [hw]);(try rw [if_pos S4]);refine hK _ ?_;clear hK K)
    refine dU ?_;refine dK rfl ?_;go_wp2;refine dQ (dU ⟨?_,dW ?_⟩)
    · refine d6 ?_ eM<;>(refine fj rfl rfl rfl rfl ?_;go_simp;try omega)
    go_wp2;go_ret;obtain⟨tJ,cv,lv,fb,av,hA⟩:=jl.1 HI.af
    have e9:wr.cell? ⟨p,9,none⟩=some av:=by
     have Zn:Sat ((Pr.pts p (.cells (eO { s with counts:=cm } cv lv fb av) 159)).star ((i' p av s.acts).star ((dX cv cm).star ((eK lv s.last).star ((f_ fb fun m=>({ s with counts:=cm }:ef).state m=1).star F))))) wr:=hA.perm (by unfold k_;ac_rfl);rw [cell_of_heap Zn.dL];rfl
    rw [h9] at e9;simp only [Option.some.injEq] at e9;subst e9;exact⟨rfl,K3 (s:= { s with counts:=cm }) tJ hm (hA.drew),(jq.drew).setCell _ _⟩
  | succ j=>
    have hlt:m+j<s.acts.length:=by omega
    have Zo:(s.acts.drop m).take (j+1)=(s.acts.drop m).take j++ [s.acts[m+j]]:=by
     rw [aF (by simp;omega)];simp
    rw [Zo] at htr;obtain⟨c',t1,t2,t3,t4,t5,t6⟩:=Fe htr;obtain⟨ab,c4,bp,bn,bb,h0,hle,g9,gk,g1,g2,g3⟩:=IE hinv (k:=m+j) hlt;dsimp only at g9 gk g1 g2 g3;have e2:({ s with counts:=c }:ef)=({ s with counts:=c' }:ef).turn s.acts[m+j].1 s.acts[m+j].2:=by rw [t6];rfl
    have hcn:=pS (b:=s.acts[m+j].2) (m:=s.acts[m+j].1) t2;rw [if_pos rfl] at hcn;have A:=KU p ({ s with counts:=c }:ef) s.acts[m+j].1 s.acts[m+j].2 bp bn bb h0 g1 g2 g3 F wr hle hinv (by rw [e2];exact mN.2 t2) (by rw [e2,hcn];omega) (by rw [e2,hcn];omega) t5
    have e3:({ s with counts:=c }:ef).turn s.acts[m+j].1 (-s.acts[m+j].2)= { s with counts:=c' }:=by rw [e2];exact ID t2
    rw [e3] at A;have HA:=hQ A;have Qr:=hQ t1;clear A e3 hcn e2 t1 t2 t3 t4 t5 t6 htr Zo hinv tJ h9 g1 g2 g3;go_wp2_with fail
    refine HA.af.mono ?_;rintro e w2 ⟨rfl,hs,mP⟩;go_wp2;rw [show (m:Int)+((j:Int)+1)-1-1=(m:Int)+j-1 by omega];go_roundw
    case rel=>exact⟨j,c',by omega,rfl,jq.trans mP,Qr.af,hs⟩
    case measure=>simp [intOf];omega
end Go.Proofs.YtiegeadmgpanoaaGreatDoor.D2
