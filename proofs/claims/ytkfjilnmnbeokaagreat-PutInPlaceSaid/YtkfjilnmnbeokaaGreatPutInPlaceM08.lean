/- (*Pool).act and what it undoes by; the conditions stand as hypotheses. -/
import Derived.Test.YtkfjilnmnbeokaaGreatPutInPlaceM07
import Derived.Test.YtkfjilnmnbeokaaGreatPutInPlaceM01
set_option maxRecDepth 100000
set_option maxHeartbeats 16000000
namespace Go.Proofs.YtkfjilnmnbeokaaGreat.G3
open ChangeShapes WideShapes ChangeAt RowKit Sl Cop D2 D3 E3
theorem act1_any(p:Nat)(s:PoolS)(n b:Int)(bp bn bb:Nat)(h0:Hp)(e0:h0.cell bp 0=some (.pointer (some ⟨p,0,none⟩)))(e1:h0.cell bn 0=some (.int .i64 n))(e2:h0.cell bb 0=some (.int .i64 b))
 (F:Pr) (w:World) (hh:h0.le w) (hF:Sat ((PoolA p s).star F) w) (hn:s.there n) (h1:0≤s.count n-b) (h2:s.count n-b≤65536) (hb: -65536≤b∧b≤65536):
 Calls Tryz.prog 167 #[.pointer (some ⟨bp,0,none⟩),.pointer (some ⟨bn,0,none⟩),.pointer (some ⟨bb,0,none⟩)] w fun e w'=>
  e= .returned (.tuple #[])∧Sat ((PoolA p (s.turn n (-b))).star F) w'∧Stays w w':=by
 have r0:=Hp.cell_le hh e0;have r1:=Hp.cell_le hh e1;have r2:=Hp.cell_le hh e2;have C:=hQ (turn_any p s n (-b) F w hF hn (by omega) (by omega));clear hF;go_enter Tryz.func167,Tryz.ntmps167
 go_wp2_with fail
 refine C.out.mono ?_;rintro e w' ⟨rfl,hs,hst⟩;go_wp2;first | refine bodyPost_ret (results_none rfl _ _ _) rfl ?_ | go_end0
 exact⟨rfl,hs,hst⟩
theorem _root_.Go.Cop.PoolS.act_ok {s:PoolS}(h:PoolOk s)(hm:s.floor+s.acts.length<1099511627776)(x:Int × Int):PoolOk { s with acts:=s.acts++ [x] }:=
 ⟨h.n1,h.n2,h.len,h.r1,h.r2,h.cs,h.fl,by simp;omega⟩
theorem acts_end {p:Nat}{s:PoolS}{n b:Int}{cv lv:Value}{fb:Nat}{av av':Value}{fs:List Value}{ha:Hp}{B:Nat}{F:Pr}{w:World}(ok:PoolOk (s.turn n b))(hm:s.floor+s.acts.length<1099511627776)(hai:ActsIn ha p s.acts fs)
 (h:Sat (((Pr.own ha).star ((Pr.pts B (.cells #[.pointer (some ⟨p,0,none⟩)] 66)).star ((Pr.pts (B+1) (.cells #[.int .i64 n] 3)).star (Pr.pts (B+1+1) (.cells #[.int .i64 b] 3))))).star
   ((Pr.pts p (.cells ((poolCells (s.turn n b) cv lv fb av).setIfInBounds 9 av') 118)).star
   ((Row 184 1 av' (s.acts.length+1) (fs++ [Value.func (.func 167) #[] #[.pointer (some ⟨B,0,none⟩),.pointer (some ⟨B+1,0,none⟩),.pointer (some ⟨B+1+1,0,none⟩)]])).star
   ((IntsRow cv (s.turn n b).counts).star ((BoolsRow lv (s.turn n b).last).star ((SetOf fb fun m=>(s.turn n b).state m=1).star F)))))) w):
 Sat ((PoolA p { s.turn n b with acts:=s.acts++ [(n,b)] }).star F) w:=by
 obtain⟨h0,hA,hS⟩:=Sat.toOwn h;obtain⟨x1,y1,p1,q1,s1,t1⟩:=star_sub hA;obtain⟨x2,y2,p2,q2,s2,t2⟩:=star_sub q1;obtain⟨x3,y3,p3,q3,s3,t3⟩:=star_sub q2;cases p1;cases p2;cases p3;cases q3;have e0:h0.cell B 0=some (.pointer (some ⟨p,0,none⟩)):=Hp.cell_sub (s2.trans t1) (by simp [Hp.cell]);have e1:h0.cell (B+1) 0=some (.int .i64 n):=Hp.cell_sub (s3.trans (t2.trans t1)) (by simp [Hp.cell])
 have e2:h0.cell (B+1+1) 0=some (.int .i64 b):=Hp.cell_sub (t3.trans (t2.trans t1)) (by simp [Hp.cell]);refine poolA_iff.2 ⟨PoolS.act_ok (s:=s.turn n b) ok hm (n,b),cv,lv,fb,av',?_⟩
 have hai2:ActsIn h0 p (s.acts++ [(n,b)]) (fs++ [Value.func (.func 167) #[] #[.pointer (some ⟨B,0,none⟩),.pointer (some ⟨B+1,0,none⟩),.pointer (some ⟨B+1+1,0,none⟩)]]):=by
  obtain⟨l1,l2⟩:=hai;refine⟨by simp [l1],fun i hi hf=> ?_⟩;by_cases hlt:i<s.acts.length
  · rw [List.getElem_append_left hlt,List.getElem_append_left (by omega)]
    exact(l2 i hlt (by omega)).sub s1
  · have he:i=s.acts.length:=by simp at hi;omega
    subst he;rw [List.getElem_append_right (by omega),List.getElem_append_right (by omega)];simp only [l1,Nat.sub_self,List.getElem_cons_zero];exact⟨_,_,_,rfl,e0,e1,e2⟩
 have e:(s.acts++ [(n,b)]).length=s.acts.length+1:=by simp
 have hact:Sat ((ActsA p av' (s.acts++ [(n,b)])).star ((Pr.pts p (.cells ((poolCells (s.turn n b) cv lv fb av).setIfInBounds 9 av') 118)).star ((IntsRow cv (s.turn n b).counts).star ((BoolsRow lv (s.turn n b).last).star ((SetOf fb fun m=>(s.turn n b).state m=1).star F))))) w:=by
  unfold ActsA;refine Sat.ex.2 ⟨(fs++ [Value.func (.func 167) #[] #[.pointer (some ⟨B,0,none⟩),.pointer (some ⟨B+1,0,none⟩),.pointer (some ⟨B+1+1,0,none⟩)]],h0),?_⟩;rw [Pr.star_assoc];refine Sat.pure.2 ⟨hai2,?_⟩;dsimp only;rw [e];exact hS.perm (by ac_rfl)
 unfold PoolAt;exact hact.perm (show _=((Pr.pts p (.cells ((poolCells (s.turn n b) cv lv fb av).setIfInBounds 9 av') 118)).star ((IntsRow cv (s.turn n b).counts).star ((BoolsRow lv (s.turn n b).last).star ((SetOf fb fun m=>(s.turn n b).state m=1).star (ActsA p av' (s.acts++ [(n,b)])))))).star F from by ac_rfl)
theorem infoAct:(Tryz.prog.info? 184).map (fun i=>(i.zero,i.size,i.bytes))=some (some (.agg #[.nilFunc]),1,8):=by kernel_rfl
theorem act_any(p:Nat)(s:PoolS)(n b:Int)(F:Pr)(w:World)(hF:Sat ((PoolA p s).star F) w)(hn:s.there n)(h0:0≤s.count n+b)(h1:s.count n+b≤65536)(hm:s.floor+s.acts.length<1099511627776):
 Calls Tryz.prog 138 #[.pointer (some ⟨p,0,none⟩),.int .i64 n,.int .i64 b] w fun e w'=>
  e= .returned (.tuple #[])∧Sat ((PoolA p { s.turn n b with acts:=s.acts++ [(n,b)] }).star F) w'∧Stays w w':=by
 have hB:=((hF.alloc (.cells #[.pointer (some ⟨p,0,none⟩)] 66)).alloc (.cells #[.int .i64 n] 3)).alloc (.cells #[.int .i64 b] 3);rw [World.size_alloc,World.size_alloc] at hB
 have hB1:Sat ((PoolA p s).star ((Pr.pts w.heap.size (.cells #[.pointer (some ⟨p,0,none⟩)] 66)).star ((Pr.pts (w.heap.size+1) (.cells #[.int .i64 n] 3)).star ((Pr.pts (w.heap.size+1+1) (.cells #[.int .i64 b] 3)).star F)))) _:=hB.perm (by ac_rfl);have C:=hQ (turn_any p s n b _ _ hB1 hn h0 h1);clear hB hB1 hF;go_enter Tryz.func138,Tryz.ntmps138
 go_wp2_with fail
 refine C.out.mono ?_;rintro e w' ⟨rfl,hs,hst⟩;have HST:=hQ ((((Stays.refl w).alloc _).alloc _).alloc _ |>.trans hst);clear C hst;generalize w.heap.size=B at*;obtain⟨ok,cv,lv,fb,av,hA⟩:=poolA_iff.1 hs
 have hA1:Sat ((ActsA p av s.acts).star ((Pr.pts p (.cells (poolCells (s.turn n b) cv lv fb av) 118)).star ((Pr.pts B (.cells #[.pointer (some ⟨p,0,none⟩)] 66)).star ((Pr.pts (B+1) (.cells #[.int .i64 n] 3)).star ((Pr.pts (B+1+1) (.cells #[.int .i64 b] 3)).star
  ((IntsRow cv (s.turn n b).counts).star ((BoolsRow lv (s.turn n b).last).star ((SetOf fb fun m=>(s.turn n b).state m=1).star F)))))))) w':=hA.perm (show ((Pr.pts p _).star ((IntsRow cv (s.turn n b).counts).star ((BoolsRow lv (s.turn n b).last).star ((SetOf fb fun m=>(s.turn n b).state m=1).star (ActsA p av s.acts))))).star _=_ from by ac_rfl)
 generalize hR:((IntsRow cv (s.turn n b).counts).star ((BoolsRow lv (s.turn n b).last).star ((SetOf fb fun m=>(s.turn n b).state m=1).star F)))=RST at hA1;have HR:=hQ hR;clear hR hA hs;unfold ActsA at hA1;obtain⟨⟨fs,ha⟩,h2⟩:=Sat.ex.1 hA1;rw [Pr.star_assoc] at h2;obtain⟨hai,h3⟩:=Sat.pure.1 h2;dsimp only at hai h3
 have h4:Sat ((Row 184 1 av s.acts.length fs).star ((Pr.pts p (.cells (poolCells (s.turn n b) cv lv fb av) 118)).star ((Pr.pts B (.cells #[.pointer (some ⟨p,0,none⟩)] 66)).star ((Pr.pts (B+1) (.cells #[.int .i64 n] 3)).star ((Pr.pts (B+1+1) (.cells #[.int .i64 b] 3)).star ((Pr.own ha).star RST)))))) w':=h3.perm (by ac_rfl);clear h2 h3 hA1;obtain⟨aa,ca,hav,_,_⟩:=Row.read h4;subst hav
 have hp:=h4.right;have hb0:=h4.right.right;have hb1:=h4.right.right.right;have hb2:=h4.right.right.right.right;have r0:w'.cell? ⟨B,0,none⟩=some (.pointer (some ⟨p,0,none⟩)):=by rw [cell_of_heap hb0.pts_heap];rfl
 have r9:w'.cell? ⟨p,9,none⟩=some (.slice aa s.acts.length ca):=by rw [cell_of_heap hp.pts_heap];rfl
 have z0:=hb0.lt;have zp:=hp.lt;have hfl0:0≤s.floor:=ok.fl;have HAI:=hQ hai
 have hnew:Hid (∀j u,[Value.func (.func 167) #[] #[.pointer (some ⟨B,0,none⟩),.pointer (some ⟨B+1,0,none⟩),.pointer (some ⟨B+1+1,0,none⟩)]][j]? =some u→
  (w'.alloc (.cells #[Value.func (.func 167) #[] #[.pointer (some ⟨B,0,none⟩),.pointer (some ⟨B+1,0,none⟩),.pointer (some ⟨B+1+1,0,none⟩)]] 184)).cell? ((⟨w'.heap.size,0,none⟩:Addr).add j)=some u):=hQ (by
  intro j u hj
  cases j with
  | zero=>rw [add_cell,cell_of_heap (heap_new _ _)];simpa using hj
  | succ j=>simp at hj)
 have H5:=hQ (h4.alloc (.cells #[Value.func (.func 167) #[] #[.pointer (some ⟨B,0,none⟩),.pointer (some ⟨B+1,0,none⟩),.pointer (some ⟨B+1+1,0,none⟩)]] 184)).right;clear hp hb0 hb1 hb2 h4 hai;have hsl:s.acts.length≤1099511627776:=by omega
 go_wp2;refine wS 21 [0,1,2,3,4,5,6] [(7,[],[0,1,2,3,4,5]),(8,[9,10],[0,1,2,3,5]),(11,[],[9])] ?_;iterate 7 (refine wpQ_step rfl rfl (fun K hK=> ?_);go_simp;refine hK _ ?_;clear hK K)
 refine wpQ_nil ?_;refine wpRest_act rfl ?_;go_wp2;refine onN_mk (wpQ_nil ⟨?_,?_⟩)
 · refine chk_cons ?_ (chk_cons ?_ (chk_cons ?_ (chk_cons ?_ (chk_cons ?_ (chk_cons ?_ chk_nil)))))<;>(refine yieldF_of rfl rfl rfl rfl ?_;go_simp;try omega)
 refine wpRest_act rfl ?_;obtain⟨i0,hi,hz0,hz1,hz2⟩:=info_parts infoAct;refine wpList_append_sl rfl _ _ _ rfl 184 i0 (.agg #[.nilFunc]) 1 8 Tryz.underlying116 hi hz0 hz1 hz2 rfl _ _ _ rfl H5.out ⟨w'.heap.size,0,none⟩ 1 1 _ rfl rfl hnew.out (by simp [Value.oneCell']) (by simp only [maxLen];omega) (by omega) ?_;intro v' w1 hsat hgr _;obtain⟨a2,c2,hv2,_,_⟩:=Row.read hsat;subst hv2;have hp:=hsat.right
 have q0:w1.cell? ⟨B,0,none⟩=some (.pointer (some ⟨p,0,none⟩)):=by rw [cell_of_heap hp.right.pts_heap];rfl
 have q9:=frozen_of_heap hp.pts_heap 9;have q9c:w1.cell? ⟨p,9,none⟩=some (.slice aa s.acts.length ca):=by rw [cell_of_heap hp.pts_heap];rfl
 have y0:=hp.right.lt;have yp:=hp.lt;have HSAT:=hQ hsat;clear hsat hp r0 r9 z0 zp;go_wp2;refine onN_mk ?_;iterate 2 (refine wpQ_step rfl rfl (fun K hK=> ?_);go_simp;refine hK _ ?_;clear hK K)
 refine wpQ_nil ⟨?_,?_⟩
 · refine chk_cons ?_ (chk_cons ?_ (chk_cons ?_ (chk_cons ?_ (chk_cons ?_ chk_nil))))<;>(refine yieldF_of rfl rfl rfl rfl ?_;go_simp;try omega)
 refine wpRest_act rfl ?_;go_wp2;refine onN_mk (wpQ_nil ⟨?_,wpRest_nil ?_⟩)
 · refine chk_cons ?_ chk_nil<;>(refine yieldF_of rfl rfl rfl rfl ?_;go_simp;try omega)
 go_wp2;first | refine bodyPost_ret (results_none rfl _ _ _) rfl ?_ | go_end0
 refine⟨rfl,acts_end (B:=B) (cv:=cv) (lv:=lv) (fb:=fb) (av:= .slice aa s.acts.length ca) (av':= .slice a2 (s.acts.length+1) c2) ok hm HAI.out ?_,?_⟩
 · have h6:=(HSAT.out.perm (Pr.left_comm _ _ _)).setCell (i:=9) (.slice a2 (s.acts.length+1) c2)
   have h7:=HR.out;subst h7;exact h6.perm (by ac_rfl)
 · exact((HST.out.alloc _).drew.of_grown hgr).setCell _ _
end Go.Proofs.YtkfjilnmnbeokaaGreat.G3
namespace Go.Cop
def PoolS.did(s:PoolS)(n b:Int):PoolS:= { s.turn n b with acts:=s.acts++ [(n,b)] }
theorem did_there {s:PoolS}{n b m:Int}:(s.did n b).there m↔s.there m:=turn_there
theorem did_count {s:PoolS}{n b m:Int}(h:s.there n):(s.did n b).count m=if m=n then s.count n+b else s.count m:=turn_count h
theorem did_state {s:PoolS}{n b m:Int}(h:s.there n):(s.did n b).state m=if m=n then stateOf (s.count n+b) (s.lasts n) else s.state m:=turn_state h
theorem there_of_state {s:PoolS}{n:Int}(h:s.state n≠0):s.there n:=by
 unfold PoolS.state at h;by_cases ht:s.there n
 · exact ht
 · rw [if_neg ht] at h;exact absurd rfl h
theorem there_of_count {s:PoolS}{n:Int}(h:s.count n≠0):s.there n:=by
 unfold PoolS.count at h;by_cases ht:s.there n
 · exact ht
 · rw [if_neg ht] at h;exact absurd rfl h
theorem count_of_free {s:PoolS}(ok:PoolOk s){n:Int}(h:s.state n=1):s.count n=0:=by
 have h1:=(count_bd ok n).1;rw [state_there (there_of_state (by omega))] at h;unfold stateOf at h;by_cases hc:0<s.count n
 · rw [if_pos hc] at h;split at h<;>omega
 · omega
end Go.Cop
namespace Go.Proofs.YtkfjilnmnbeokaaGreat.J3
open ChangeShapes WideShapes ChangeAt RowKit Sl Cop D2 D3 E3 G3
theorem poolA_rd {p:Nat}{s:PoolS}{F:Pr}{w:World}(h:Sat ((PoolA p s).star F) w):PoolOk s∧PoolRd w p s∧
 w.cell? ⟨p,10,none⟩=some (.int .i64 s.floor)∧(∃a c,w.cell? ⟨p,9,none⟩=some (.slice a s.acts.length c))∧
 (∃fb,w.cell? ⟨p,3,none⟩=some (.pointer (some ⟨fb,0,none⟩))∧∃G,Sat ((SetOf fb fun m=>s.state m=1).star G) w):=by
 obtain⟨ok,cv,lv,fb,av,hA⟩:=poolA_iff.1 h;have hA1:Sat ((Pr.pts p (.cells (poolCells s cv lv fb av) 118)).star ((IntsRow cv s.counts).star ((BoolsRow lv s.last).star ((SetOf fb fun m=>s.state m=1).star ((ActsA p av s.acts).star F))))) w:=hA.perm (by unfold PoolAt;ac_rfl);have hs:=hA1.right.right.right;have ha:=hs.right;unfold ActsA at ha;obtain⟨⟨fs,hx⟩,h2⟩:=Sat.ex.1 ha;rw [Pr.star_assoc] at h2
 obtain⟨_,h3⟩:=Sat.pure.1 h2;dsimp only at h3;rw [Pr.star_assoc] at h3;obtain⟨a,c,hav,_,_⟩:=Row.read h3;subst hav;refine⟨ok,pool_rd ok.len ok.n1 ok.n2 rfl rfl rfl hA1,by rw [cell_of_heap hA1.pts_heap];rfl,⟨a,c,by rw [cell_of_heap hA1.pts_heap];rfl⟩,fb,by rw [cell_of_heap hA1.pts_heap];rfl,_,hs⟩
theorem count_A(p:Nat)(s:PoolS)(n:Int)(F:Pr)(w:World)(hF:Sat ((PoolA p s).star F) w):
 Calls Tryz.prog 23 #[.pointer (some ⟨p,0,none⟩),.int .i64 n] w fun e w'=>e= .returned (.int .i64 (s.count n))∧w=w':=
 count_any p n w s (poolA_rd hF).2.1
theorem mark_A(p:Nat)(s:PoolS)(F:Pr)(w:World)(hF:Sat ((PoolA p s).star F) w):
 Calls Tryz.prog 135 #[.pointer (some ⟨p,0,none⟩)] w fun e w'=>e= .returned (.int .i64 s.mark)∧Stays w w'∧w'.heap=w.heap:=by
 obtain⟨ok,_,h10,⟨a,c,h9⟩,_⟩:=poolA_rd hF;have b1:=ok.fl;have b2:=ok.mb;clear hF ok;have e:s.mark=s.floor+s.acts.length:=rfl;rw [e];clear e;generalize s.floor=fl at*;generalize s.acts.length=al at*;go_enter Tryz.func135,Tryz.ntmps135
 go_wp2;go_region
 go_wp2;go_ret;exact⟨rfl,⟨rfl,rfl,rfl,Nat.le_refl _⟩,rfl⟩
theorem alloc_A(p:Nat)(s:PoolS)(F:Pr)(w:World)(hF:Sat ((PoolA p s).star F) w)(hm:s.floor+s.acts.length<1099511627776):
 Calls Tryz.prog 107 #[.pointer (some ⟨p,0,none⟩)] w fun e w'=>
  (e= .returned (.tuple #[.int .i64 0,.int .i64 12])∧(∀m,s.state m≠1)∧w=w')∨
  ∃n,e= .returned (.tuple #[.int .i64 n,.int .i64 0])∧s.state n=1∧(∀m,s.state m=1→n≤m)∧Sat ((PoolA p (s.did n 1)).star F) w'∧Stays w w':=by
 obtain⟨ok,_,_,_,fb,h3,G,hs⟩:=poolA_rd hF;have C:=hQ (set_lowest fb _ G w hs);have HF:=hQ hF;clear hs hF;go_enter Tryz.func107,Tryz.ntmps107
 go_wp2_with fail
 refine C.out.mono ?_;rintro e w' ⟨rfl,(⟨rfl,hno⟩ | ⟨n,rfl,hn,hle⟩)⟩
 · go_wp2
   go_ret2;exact .inl ⟨rfl,hno,rfl⟩
 · have hc:=count_of_free ok hn
   have A:=hQ (act_any p s n 1 F w HF.out (there_of_state (by omega)) (by omega) (by omega) hm);have HN:=hQ (And.intro hn hle);clear hn hle hc;go_wp2_with fail
   refine A.out.mono ?_;rintro e w' ⟨rfl,hs,hst⟩;go_wp2;go_ret2;exact .inr ⟨n,rfl,HN.out.1,HN.out.2,hs,hst⟩
theorem dec_A(p:Nat)(s:PoolS)(n:Int)(F:Pr)(w:World)(hF:Sat ((PoolA p s).star F) w)(hm:s.floor+s.acts.length<1099511627776):
 Calls Tryz.prog 139 #[.pointer (some ⟨p,0,none⟩),.int .i64 n] w fun e w'=>
  (e= .returned (.tuple #[.int .i64 0,.int .i64 15])∧s.count n=0∧w=w')∨
  (e= .returned (.tuple #[.int .i64 (s.count n-1),.int .i64 0])∧s.count n≠0∧Sat ((PoolA p (s.did n (-1))).star F) w'∧Stays w w'):=by
 have ok:=(poolA_rd hF).1;have C:=hQ (count_A p s n F w hF);have HF:=hQ hF;obtain⟨b1,b2⟩:=count_bd ok n;clear hF;by_cases h0:s.count n=0
 · rw [h0] at C
   go_enter Tryz.func139,Tryz.ntmps139
   go_wp2_with fail
   refine C.out.mono ?_;rintro e w' ⟨rfl,rfl⟩;go_wp2;go_ret2;exact .inl ⟨rfl,h0,rfl⟩
 · have ht:=there_of_count h0
   have A:=hQ (act_any p s n (-1) F w HF.out ht (by omega) (by omega) hm);have hd:=did_count (b:= -1) (m:=n) ht;rw [if_pos rfl] at hd;have HT:=hQ hd;clear ht hd;have hne:(s.count n == 0)=false:=by simpa using h0
   generalize hk:s.count n=k at*;have HK:=hQ hk;clear hk;go_enter Tryz.func139,Tryz.ntmps139
   go_wp2_with fail
   refine C.out.mono ?_;rintro e w' ⟨rfl,rfl⟩;go_wp2_with fail
   refine A.out.mono ?_;rintro e w' ⟨rfl,hs,hst⟩;have C2:=count_A p (s.did n (-1)) n F _ hs;rw [HT.out] at C2;have D:=hQ C2;have HS:=hQ hs;clear C2 hs;go_wp2_with fail
   refine D.out.mono ?_;rintro e w' ⟨rfl,rfl⟩;go_wp2;go_ret2;exact .inr ⟨rfl,h0,HS.out,hst⟩
end Go.Proofs.YtkfjilnmnbeokaaGreat.J3
namespace Go.Cop
def lastsOf(l:List Int):List Bool:=l.map fun c=>decide (0<c)
def inState(l:List Int)(k:Int):Int:=((l.filter fun c=>stateOf c (decide (0<c)) == k).length:Nat)
theorem inState_snoc(l:List Int)(c k:Int):inState (l++ [c]) k=inState l k+(if stateOf c (decide (0<c))=k then 1 else 0):=by
 unfold inState;rw [List.filter_append,List.length_append];by_cases h:stateOf c (decide (0<c))=k
 · simp [h]
 · simp [h]
theorem inState_bd(l:List Int)(k:Int):0≤inState l k∧inState l k≤l.length:=by
 unfold inState;have:=List.length_filter_le (fun c=>stateOf c (decide (0<c)) == k) l
 omega
theorem many_settled(l:List Int)(k:Int)(s:PoolS)(h1:s.counts=l)(h2:s.last=lastsOf l):((s.many k:Nat):Int)=inState l k:=by
 unfold PoolS.many inState lastsOf at*;rw [h1,h2]
 have:∀l:List Int,(List.filter (fun x:Int × Bool=>stateOf x.1 x.2 == k) (l.zip (l.map fun c=>decide (0<c)))).length=(l.filter fun c=>stateOf c (decide (0<c)) == k).length:=by
  intro l;induction l with
  | nil=>rfl
  | cons a l ih=>simp only [List.map_cons,List.zip_cons_cons,List.filter_cons];split<;>simp_all
 rw [this]
theorem inState_none(l:List Int)(k:Int)(h1:k≠1)(h4:k≠4):inState l k=0:=by
 unfold inState;rw [List.filter_eq_nil_iff.2]
 · rfl
 · intro c _
   unfold stateOf;by_cases h:0<c<;>simp [h]<;>omega
theorem stateOf_pos {x:Int}(hx:0<x):stateOf x (decide (0<x))=4:=by simp [stateOf,hx]
theorem stateOf_zero:stateOf 0 (decide ((0:Int)<0))=1:=by decide
def PoolS.settled(s:PoolS):PoolS:= { s with last:=lastsOf s.counts,acts:= [],floor:=s.floor+s.acts.length }
end Go.Cop
namespace Go.Proofs.YtkfjilnmnbeokaaGreat.M3
open ChangeShapes WideShapes ChangeAt RowKit Sl Cop D2 D3 E3 G3 J3 E2 C3
theorem mark_low(p:Nat)(fl:Int)(al:Nat)(a:Option Addr)(c:Nat)(w:World)(h10:w.cell? ⟨p,10,none⟩=some (.int .i64 fl))(h9:w.cell? ⟨p,9,none⟩=some (.slice a al c))
 (b1:0≤fl) (b2:fl+al≤1099511627776):
 Calls Tryz.prog 135 #[.pointer (some ⟨p,0,none⟩)] w fun e w'=>e= .returned (.int .i64 (fl+al))∧Stays w w'∧w'.heap=w.heap:=by
 go_enter Tryz.func135,Tryz.ntmps135
 go_wp2;go_region
 go_wp2;go_ret;exact⟨rfl,⟨rfl,rfl,rfl,Nat.le_refl _⟩,rfl⟩
def setCells(refs:Int)(cv lv:Value)(fb:Nat)(l:List Int)(fl:Int):Array Value:=
 #[.int .i64 refs,cv,lv,.pointer (some ⟨fb,0,none⟩),.int .i64 0,.int .i64 (inState l 1),.int .i64 0,.int .i64 0,.int .i64 (inState l 4),.slice none 0 0,.int .i64 fl]
def Mid(p fb:Nat)(refs:Int)(cv lv:Value)(cs:List Int)(last:List Bool)(fl:Int)(i:Nat):Pr:=
 (Pr.pts p (.cells (setCells refs cv lv fb (cs.take i) fl) 118)).star ((IntsRow cv cs).star ((BoolsRow lv (lastsOf (cs.take i)++last.drop i)).star
   (SetOf fb fun n=>1≤n∧n≤i∧cs.getD (n.toNat-1) 0=0)))
theorem lasts_set(cs:List Int)(last:List Bool)(k:Nat)(hk:k<cs.length)(hl:last.length=cs.length)(b:Bool)(hb:b=decide (0<cs.getD k 0)):
 (lastsOf (cs.take k)++last.drop k).set k b=lastsOf (cs.take (k+1))++last.drop (k+1):=by
 have h1:(lastsOf (cs.take k)).length=k:=by simp [lastsOf];omega
 rw [List.set_append_right _ _ (by omega),h1,Nat.sub_self,List.drop_eq_getElem_cons (by omega:k<last.length),List.set_cons_zero,List.take_succ_eq_append_getElem hk];simp only [lastsOf,List.map_append,List.map_cons,List.map_nil,List.append_assoc,List.cons_append,List.nil_append];rw [hb,List.getD_eq_getElem?_getD,List.getElem?_eq_getElem hk];rfl
theorem lasts_len(cs:List Int)(last:List Bool)(k:Nat)(hk:k≤cs.length)(hl:last.length=cs.length):(lastsOf (cs.take k)++last.drop k).length=cs.length:=by
 simp [lastsOf];omega
theorem lasts_at(cs:List Int)(last:List Bool)(k:Nat)(hk:k<cs.length):(lastsOf (cs.take (k+1))++last.drop (k+1)).getD k false=decide (0<cs.getD k 0):=by
 rw [List.getD_eq_getElem?_getD,List.getElem?_append_left (by simp [lastsOf];omega)];simp [lastsOf,hk]
def Mid1(p fb:Nat)(refs:Int)(cv lv:Value)(cs:List Int)(last:List Bool)(fl:Int)(i:Nat):Pr:=
 (Pr.pts p (.cells (setCells refs cv lv fb (cs.take i) fl) 118)).star ((IntsRow cv cs).star ((BoolsRow lv (lastsOf (cs.take (i+1))++last.drop (i+1))).star
   (SetOf fb fun n=>1≤n∧n≤i∧cs.getD (n.toNat-1) 0=0)))
theorem mid_one {p fb bl cl:Nat}{refs:Int}{cv:Value}{cs:List Int}{last:List Bool}{fl:Int}{k:Nat}{F:Pr}{w:World}{b:Bool}(hk:k<cs.length)(hl:last.length=cs.length)(hb:b=decide (0<cs.getD k 0))
 (h:Sat ((Mid p fb refs cv (.slice (some ⟨bl,0,none⟩) cs.length cl) cs last fl k).star F) w):
 Sat ((Mid1 p fb refs cv (.slice (some ⟨bl,0,none⟩) cs.length cl) cs last fl k).star F) (w.setCell ⟨bl,k,none⟩ (.bool b)):=by
 have h1:Sat ((BoolsRow (.slice (some ⟨bl,0,none⟩) cs.length cl) (lastsOf (cs.take k)++last.drop k)).star ((Pr.pts p (.cells (setCells refs cv (.slice (some ⟨bl,0,none⟩) cs.length cl) fb (cs.take k) fl) 118)).star ((IntsRow cv cs).star
  ((SetOf fb fun n=>1≤n∧n≤k∧cs.getD (n.toNat-1) 0=0).star F)))) w:=h.perm (by unfold Mid;ac_rfl)
 have e1:=lasts_len cs last k (by omega) hl;have e2:=lasts_len cs last (k+1) (by omega) hl;unfold BoolsRow at h1;rw [e1] at h1;have h2:=Row.set (i:=k) h1 hk (.bool b);rw [← List.map_set,lasts_set cs last k hk hl b hb] at h2;refine h2.perm ?_;unfold Mid1
 rw [show BoolsRow (.slice (some ⟨bl,0,none⟩) cs.length cl) (lastsOf (cs.take (k+1))++last.drop (k+1))=Row 4 1 (.slice (some ⟨bl,0,none⟩) cs.length cl) cs.length ((lastsOf (cs.take (k+1))++last.drop (k+1)).map Value.bool) from by unfold BoolsRow;rw [e2]];ac_rfl
theorem mid1_rd {p fb:Nat}{refs:Int}{cv lv:Value}{cs:List Int}{last:List Bool}{fl:Int}{k:Nat}{F:Pr}{w:World}(hk:k<cs.length)(h2:cs.length≤65536)(hl:last.length=cs.length)
 (h:Sat ((Mid1 p fb refs cv lv cs last fl k).star F) w):PoolRd w p { refs:=refs,counts:=cs,last:=lastsOf (cs.take (k+1))++last.drop (k+1),acts:= [],floor:=fl }:=by
 have h':Sat ((Pr.pts p (.cells (setCells refs cv lv fb (cs.take k) fl) 118)).star ((IntsRow cv cs).star ((BoolsRow lv (lastsOf (cs.take (k+1))++last.drop (k+1))).star
  ((SetOf fb fun n=>1≤n∧n≤k∧cs.getD (n.toNat-1) 0=0).star F)))) w:=h.perm (by unfold Mid1;ac_rfl)
 refine pool_rd (s:= { refs:=refs,counts:=cs,last:=lastsOf (cs.take (k+1))++last.drop (k+1),acts:= [],floor:=fl }) (lasts_len cs last (k+1) (by omega) hl) (by dsimp only;omega) h2 (cs:=setCells refs cv lv fb (cs.take k) fl) rfl rfl rfl h'
theorem mid1_state {refs:Int}{cs:List Int}{last:List Bool}{fl:Int}{k:Nat}(hk:k<cs.length):
 ({ refs:=refs,counts:=cs,last:=lastsOf (cs.take (k+1))++last.drop (k+1),acts:= [],floor:=fl }:PoolS).state ((k:Int)+1)=stateOf (cs.getD k 0) (decide (0<cs.getD k 0)):=by
 have ht:({ refs:=refs,counts:=cs,last:=lastsOf (cs.take (k+1))++last.drop (k+1),acts:= [],floor:=fl }:PoolS).there ((k:Int)+1):=⟨by omega,by dsimp only;omega⟩;rw [state_there ht];unfold PoolS.count PoolS.lasts;rw [if_pos ht];dsimp only;rw [show ((k:Int)+1).toNat-1=k by omega,lasts_at cs last k hk]
theorem take_snoc(cs:List Int)(k:Nat)(hk:k<cs.length):cs.take (k+1)=cs.take k++ [cs.getD k 0]:=by
 rw [List.take_succ_eq_append_getElem hk,List.getD_eq_getElem?_getD,List.getElem?_eq_getElem hk];rfl
theorem mid_held {p fb:Nat}{refs:Int}{cv lv:Value}{cs:List Int}{last:List Bool}{fl:Int}{k:Nat}{F:Pr}{w:World}(hk:k<cs.length)(hx:0<cs.getD k 0)
 (h:Sat ((Mid1 p fb refs cv lv cs last fl k).star F) w):Sat ((Mid p fb refs cv lv cs last fl (k+1)).star F) (w.setCell ⟨p,8,none⟩ (.int .i64 (inState (cs.take k) 4+1))):=by
 have h1:Sat ((Pr.pts p (.cells (setCells refs cv lv fb (cs.take k) fl) 118)).star ((IntsRow cv cs).star ((BoolsRow lv (lastsOf (cs.take (k+1))++last.drop (k+1))).star
  ((SetOf fb fun n=>1≤n∧n≤k∧cs.getD (n.toNat-1) 0=0).star F)))) w:=h.perm (by unfold Mid1;ac_rfl)
 have h2:=h1.setCell (i:=8) (.int .i64 (inState (cs.take k) 4+1))
 have e1:(setCells refs cv lv fb (cs.take k) fl).setIfInBounds 8 (.int .i64 (inState (cs.take k) 4+1))=setCells refs cv lv fb (cs.take (k+1)) fl:=by
  have a1:inState (cs.take (k+1)) 1=inState (cs.take k) 1:=by rw [take_snoc cs k hk,inState_snoc,stateOf_pos hx];simp
  have a4:inState (cs.take (k+1)) 4=inState (cs.take k) 4+1:=by rw [take_snoc cs k hk,inState_snoc,stateOf_pos hx];simp
  unfold setCells;rw [a1,a4];rfl
 have e2:SetOf fb (fun n=>1≤n∧n≤((k+1:Nat):Int)∧cs.getD (n.toNat-1) 0=0)=SetOf fb (fun n=>1≤n∧n≤(k:Int)∧cs.getD (n.toNat-1) 0=0):=by
  refine setOf_congr fun n=>⟨fun⟨b1,b2,b3⟩=>⟨b1,?_,b3⟩,fun⟨b1,b2,b3⟩=>⟨b1,by omega,b3⟩⟩
  rcases Int.lt_or_le (k:Int) n with h3 | h3
  · have:n.toNat-1=k:=by omega
    rw [this] at b3;omega
  · exact h3
 rw [e1] at h2;refine h2.perm ?_;unfold Mid;rw [e2];ac_rfl
theorem mid_free {p fb:Nat}{refs:Int}{cv lv:Value}{cs:List Int}{last:List Bool}{fl:Int}{k:Nat}{F:Pr}{w:World}(hk:k<cs.length)(hx:cs.getD k 0=0)
 (h:Sat ((Mid1 p fb refs cv lv cs last fl k).star F) w):
 Sat ((SetOf fb fun n=>1≤n∧n≤(k:Int)∧cs.getD (n.toNat-1) 0=0).star ((Pr.pts p (.cells (setCells refs cv lv fb (cs.take (k+1)) fl) 118)).star ((IntsRow cv cs).star ((BoolsRow lv (lastsOf (cs.take (k+1))++last.drop (k+1))).star F))))
  (w.setCell ⟨p,5,none⟩ (.int .i64 (inState (cs.take k) 1+1))):=by
 have h1:Sat ((Pr.pts p (.cells (setCells refs cv lv fb (cs.take k) fl) 118)).star ((IntsRow cv cs).star ((BoolsRow lv (lastsOf (cs.take (k+1))++last.drop (k+1))).star
  ((SetOf fb fun n=>1≤n∧n≤k∧cs.getD (n.toNat-1) 0=0).star F)))) w:=h.perm (by unfold Mid1;ac_rfl)
 have h2:=h1.setCell (i:=5) (.int .i64 (inState (cs.take k) 1+1))
 have e1:(setCells refs cv lv fb (cs.take k) fl).setIfInBounds 5 (.int .i64 (inState (cs.take k) 1+1))=setCells refs cv lv fb (cs.take (k+1)) fl:=by
  have a1:inState (cs.take (k+1)) 1=inState (cs.take k) 1+1:=by rw [take_snoc cs k hk,inState_snoc,hx,stateOf_zero];simp
  have a4:inState (cs.take (k+1)) 4=inState (cs.take k) 4:=by rw [take_snoc cs k hk,inState_snoc,hx,stateOf_zero];simp
  unfold setCells;rw [a1,a4];rfl
 rw [e1] at h2;exact h2.perm (by ac_rfl)
theorem free_next {fb:Nat}{cs:List Int}{k:Nat}(hx:cs.getD k 0=0):SetOf fb (fun n=>n=(k:Int)+1∨1≤n∧n≤(k:Int)∧cs.getD (n.toNat-1) 0=0)=SetOf fb (fun n=>1≤n∧n≤((k+1:Nat):Int)∧cs.getD (n.toNat-1) 0=0):=by
 refine setOf_congr fun n=>⟨?_,fun⟨b1,b2,b3⟩=> ?_⟩
 · rintro(rfl | ⟨b1,b2,b3⟩)
   · refine⟨by omega,by omega,?_⟩
     rw [show ((k:Int)+1).toNat-1=k by omega];exact hx
   · exact⟨b1,by omega,b3⟩
 · rcases Int.lt_or_le (k:Int) n with h3 | h3
   · exact .inl (by omega)
   · exact .inr ⟨b1,h3,b3⟩
theorem settle_low(p:Nat)(refs:Int)(cv lv x3 x4 x5 x6 x7 x8:Value)(a9:Option Addr)(n9 c9:Nat)(fl:Int)(cs:List Int)(last:List Bool)(F:Pr)(w:World)
 (hF:Sat ((Pr.pts p (.cells #[.int .i64 refs,cv,lv,x3,x4,x5,x6,x7,x8,.slice a9 n9 c9,.int .i64 fl] 118)).star ((IntsRow cv cs).star ((BoolsRow lv last).star F))) w)
 (h1:1≤cs.length) (h2:cs.length≤65536) (h3:last.length=cs.length) (h4:∀c∈cs,0≤c∧c≤65536) (b1:0≤fl) (b2:fl+n9≤1099511627776):
 Calls Tryz.prog 94 #[.pointer (some ⟨p,0,none⟩)] w fun e w'=>
  e= .returned (.tuple #[])∧(∃fb,Sat ((Mid p fb refs cv lv cs last (fl+n9) cs.length).star F) w')∧Stays w w':=by
 have h10:w.cell? ⟨p,10,none⟩=some (.int .i64 fl):=by rw [cell_of_heap hF.pts_heap];rfl
 have h9:w.cell? ⟨p,9,none⟩=some (.slice a9 n9 c9):=by rw [cell_of_heap hF.pts_heap];rfl
 have C:=hQ (mark_low p fl n9 a9 c9 w h10 h9 b1 b2);have HF:=hQ hF;clear hF h10 h9;go_enter Tryz.func94,Tryz.ntmps94
 go_wp2_with fail
 refine C.out.mono ?_;rintro e w1 ⟨rfl,hst,hh⟩;have H1:=HF.out.ext (w':=w1) (fun _ _=>by rw [hh]);have z1:=fun i=>frozen_of_heap H1.pts_heap i
 have HS1:=hQ H1;clear H1 HF C;have z6:=z1 10;have z5:=z1 9;have q10:w1.cell? ⟨p,10,none⟩=some (.int .i64 fl):=by rw [cell_of_heap HS1.out.pts_heap];rfl
 have q9:w1.cell? ⟨p,9,none⟩=some (.slice a9 n9 c9):=by rw [cell_of_heap HS1.out.pts_heap];rfl
 go_wp2_with fail
 have h5:=(HS1.out.setCell (i:=10) (.int .i64 (fl+n9))).setCell (i:=9) (.slice none 0 0);refine(new_nil _ _ h5).mono ?_;rintro e w2 ⟨fb,rfl,h6,hst2⟩;have h7:Sat ((Pr.pts p (.cells #[.int .i64 refs,cv,lv,x3,x4,x5,x6,x7,x8,.slice none 0 0,.int .i64 (fl+n9)] 118)).star ((SetAt fb (.slice none 0 0) []).star ((IntsRow cv cs).star ((BoolsRow lv last).star F)))) w2:=h6.perm (Pr.left_comm _ _ _)
 have q3:w2.cell? ⟨p,3,none⟩=some x3:=by rw [cell_of_heap h7.pts_heap];rfl
 have q4:w2.cell? ⟨p,4,none⟩=some x4:=by rw [cell_of_heap h7.pts_heap];rfl
 have q5:w2.cell? ⟨p,5,none⟩=some x5:=by rw [cell_of_heap h7.pts_heap];rfl
 have q6:w2.cell? ⟨p,6,none⟩=some x6:=by rw [cell_of_heap h7.pts_heap];rfl
 have q7:w2.cell? ⟨p,7,none⟩=some x7:=by rw [cell_of_heap h7.pts_heap];rfl
 have q8:w2.cell? ⟨p,8,none⟩=some x8:=by rw [cell_of_heap h7.pts_heap];rfl
 have y3:=frozen_of_heap h7.pts_heap 3;have y4:=frozen_of_heap h7.pts_heap 4;have y5:=frozen_of_heap h7.pts_heap 5;have y6:=frozen_of_heap h7.pts_heap 6;have y7:=frozen_of_heap h7.pts_heap 7;have y8:=frozen_of_heap h7.pts_heap 8;obtain⟨bc,cc,ec,hc⟩:=ints_read h7.right.right (by omega);have q1:w2.cell? ⟨p,1,none⟩=some cv:=by rw [cell_of_heap h7.pts_heap];rfl
 subst ec;obtain⟨bl,cl,el,_⟩:=bools_read h7.right.right.right (by omega);rw [h3] at el;subst el;have H7:=hQ h7;clear h7 h6 h5 z6 z5 q10 q9;go_wp2;go_loopw [25] (fun i wr=> ∃k:Nat,k≤cs.length∧i= .int .i64 k∧Stays w wr∧Sat ((Mid p fb refs (.slice (some ⟨bc,0,none⟩) cs.length cc) (.slice (some ⟨bl,0,none⟩) cs.length cl) cs last (fl+n9) k).star F) wr) (fun i _=>cs.length-(intOf i).toNat)
 case atStart=>
  refine⟨0,Nat.zero_le _,rfl,?_,?_⟩
  · exact(((((((((hst.setCell _ _).setCell _ _).trans hst2).setCell _ _).setCell _ _).setCell _ _).setCell _ _).setCell _ _).setCell _ _)
  · have h8:=(((((H7.out.setCell (i:=3) (.pointer (some ⟨fb,0,none⟩))).setCell (i:=4) (.int .i64 0)).setCell (i:=5) (.int .i64 0)).setCell (i:=6) (.int .i64 0)).setCell (i:=7) (.int .i64 0)).setCell (i:=8) (.int .i64 0)
    have h9:=h8.perm (Pr.left_comm _ _ _);have h10:=setOf_iff.2 ⟨_,[],canon_nil,fun n=>(⟨fun hn=>absurd hn inRuns_nil,fun hn=>absurd hn.1 (by have:=hn.2.1;omega)⟩:InRuns [] n↔(1≤n∧n≤((0:Nat):Int)∧cs.getD (n.toNat-1) 0=0)),h9⟩;refine Sat.perm h10 (B:=(Mid p fb refs _ _ cs last (fl+n9) 0).star F) ?_;unfold Mid
    show (SetOf fb fun n=>1≤n∧n≤((0:Nat):Int)∧cs.getD (n.toNat-1) 0=0).star ((Pr.pts p (.cells (setCells refs (.slice (some ⟨bc,0,none⟩) cs.length cc) (.slice (some ⟨bl,0,none⟩) cs.length cl) fb (cs.take 0) (fl+n9)) 118)).star
     ((IntsRow (.slice (some ⟨bc,0,none⟩) cs.length cc) cs).star ((BoolsRow (.slice (some ⟨bl,0,none⟩) cs.length cl) last).star F)))=_
    rw [show lastsOf (cs.take 0)++last.drop 0=last from rfl];ac_rfl
 case round=>
  obtain⟨k,hk,rfl,hst3,hinv⟩:=hrel
  have hp:Sat ((Pr.pts p (.cells (setCells refs (.slice (some ⟨bc,0,none⟩) cs.length cc) (.slice (some ⟨bl,0,none⟩) cs.length cl) fb (cs.take k) (fl+n9)) 118)).star ((IntsRow (.slice (some ⟨bc,0,none⟩) cs.length cc) cs).star
   ((BoolsRow (.slice (some ⟨bl,0,none⟩) cs.length cl) (lastsOf (cs.take k)++last.drop k)).star ((SetOf fb fun n=>1≤n∧n≤(k:Int)∧cs.getD (n.toNat-1) 0=0).star F)))) wr:=hinv.perm (by unfold Mid;ac_rfl)
  rcases Nat.lt_or_ge k cs.length with hlt | hge
  · have r2:wr.cell? ⟨p,2,none⟩=some (.slice (some ⟨bl,0,none⟩) cs.length cl):=by rw [cell_of_heap hp.pts_heap];rfl
    obtain⟨bc',cc',ec',hc'⟩:=ints_read hp.right (by omega);have el:=lasts_len cs last k (by omega) h3;obtain⟨bl',cl',el',hl'⟩:=bools_read hp.right.right (by omega);simp only [Value.slice.injEq,Option.some.injEq,Addr.mk.injEq] at ec' el';obtain⟨⟨rfl, -⟩, -⟩:=ec';obtain⟨⟨rfl, -⟩, -⟩:=el';have rc:=(hc' k hlt).1;obtain⟨rl,rlf⟩:=hl' k (by omega)
    have hx0:0≤cs.getD k 0:=by
     rw [List.getD_eq_getElem?_getD,List.getElem?_eq_getElem hlt];exact(h4 _ (List.getElem_mem hlt)).1
    have HINV:=hQ hinv;have HC:=hQ (And.intro h4 hlt);have T:= @mid_one p fb bl cl refs (.slice (some ⟨bc,0,none⟩) cs.length cc) cs last (fl+n9) k F wr;have hbd:=inState_bd (cs.take k);have hlk:(cs.take k).length≤65536:=by simp;omega
    have hb1:0≤inState (cs.take k) 1∧inState (cs.take k) 1≤65536:=by have:=hbd 1;omega
    have hb4:0≤inState (cs.take k) 4∧inState (cs.take k) 4≤65536:=by have:=hbd 4;omega
    clear hlk;have S1:= @mid1_state refs cs last (fl+n9) k hlt;clear hbd hinv hp hc' hl' hc h4 el;rcases Int.lt_or_le 0 (cs.getD k 0) with hx | hx
    · have hinv1:=T hlt h3 (decide_eq_true hx).symm HINV.out
      have hrd:=mid1_rd hlt h2 h3 hinv1.drew
      have hp1:Sat ((Pr.pts p (.cells (setCells refs (.slice (some ⟨bc,0,none⟩) cs.length cc) (.slice (some ⟨bl,0,none⟩) cs.length cl) fb (cs.take k) (fl+n9)) 118)).star ((IntsRow (.slice (some ⟨bc,0,none⟩) cs.length cc) cs).star
       ((BoolsRow (.slice (some ⟨bl,0,none⟩) cs.length cl) (lastsOf (cs.take (k+1))++last.drop (k+1))).star ((SetOf fb fun n=>1≤n∧n≤(k:Int)∧cs.getD (n.toNat-1) 0=0).star F)))) _:=hinv1.perm (by unfold Mid1;ac_rfl)
      have t8:=cell_of_heap hp1.pts_heap 8;have z8:=frozen_of_heap hp1.pts_heap 8;rw [show (setCells refs (.slice (some ⟨bc,0,none⟩) cs.length cc) (.slice (some ⟨bl,0,none⟩) cs.length cl) fb (cs.take k) (fl+n9))[8]? =some (.int .i64 (inState (cs.take k) 4)) from rfl] at t8;rw [stateOf_pos hx] at S1;have HE:=hQ (mid_held hlt hx hinv1);have HRD:=hQ hrd;clear T hinv1 hp1 hrd
      generalize inState (cs.take k) 4=t4 at*;generalize hxe:cs.getD k 0=x at*;have HXE:=hQ hxe;clear hxe;go_wp2;refine wS 63 [0,1,2,3,5,6,10,11] [(4,[7,8,9,12],[0,2,5,6,10,11]),(13,[],[10,11])] ?_;iterate 8 (refine wpQ_step rfl rfl (fun K hK=> ?_);go_simp;refine hK _ ?_;clear hK K)
      refine wpQ_nil ?_;refine wpRest_act rfl ?_;go_wp2_with fail
      refine(state_any p ((k:Int)+1) _ _ HRD.out).mono ?_;rintro e w3 ⟨rfl,rfl⟩;rw [S1];go_wp2;refine onN_mk ?_;iterate 4 (refine wpQ_step rfl rfl (fun K hK=> ?_);go_simp;refine hK _ ?_;clear hK K)
      refine wpQ_nil ⟨?_,?_⟩
      · refine chk_cons ?_ (chk_cons ?_ (chk_cons ?_ (chk_cons ?_ (chk_cons ?_ (chk_cons ?_ chk_nil)))))<;>(refine yieldF_of rfl rfl rfl rfl ?_;go_simp;try omega)
      refine wpRest_act rfl ?_;go_wp2;refine onN_mk (wpQ_nil ⟨?_,wpRest_nil ?_⟩)
      · refine chk_cons ?_ (chk_cons ?_ chk_nil)<;>(refine yieldF_of rfl rfl rfl rfl ?_;go_simp;try omega)
      have hx2:(x == 0)=false:=by rw [beq_eq_false_iff_ne];omega
      go_wp2;go_roundw
      case rel=>exact⟨k+1,by omega,by go_num,((hst3.setCell _ _).drew).setCell _ _,HE.out.ext fun _ _=>rfl⟩
      case measure=>simp [intOf];omega
    · have hinv1:=T hlt h3 (by rw [decide_eq_false (by omega)]) HINV.out
      have hrd:=mid1_rd hlt h2 h3 hinv1.drew
      have hp1:Sat ((Pr.pts p (.cells (setCells refs (.slice (some ⟨bc,0,none⟩) cs.length cc) (.slice (some ⟨bl,0,none⟩) cs.length cl) fb (cs.take k) (fl+n9)) 118)).star ((IntsRow (.slice (some ⟨bc,0,none⟩) cs.length cc) cs).star
       ((BoolsRow (.slice (some ⟨bl,0,none⟩) cs.length cl) (lastsOf (cs.take (k+1))++last.drop (k+1))).star ((SetOf fb fun n=>1≤n∧n≤(k:Int)∧cs.getD (n.toNat-1) 0=0).star F)))) _:=hinv1.perm (by unfold Mid1;ac_rfl)
      have t5:=cell_of_heap hp1.pts_heap 5;have t3:=cell_of_heap hp1.pts_heap 3;rw [show (setCells refs (.slice (some ⟨bc,0,none⟩) cs.length cc) (.slice (some ⟨bl,0,none⟩) cs.length cl) fb (cs.take k) (fl+n9))[3]? =some (.pointer (some ⟨fb,0,none⟩)) from rfl] at t3;have z5:=frozen_of_heap hp1.pts_heap 5
      rw [show (setCells refs (.slice (some ⟨bc,0,none⟩) cs.length cc) (.slice (some ⟨bl,0,none⟩) cs.length cl) fb (cs.take k) (fl+n9))[5]? =some (.int .i64 (inState (cs.take k) 1)) from rfl] at t5;have hx0':cs.getD k 0=0:=by omega
      rw [hx0',stateOf_zero] at S1;have HE:=hQ (mid_free hlt hx0' hinv1);have HN:=hQ (@free_next fb cs k hx0');have hb1':=hb1;have HRD:=hQ hrd;clear T hinv1 hp1 hrd;generalize inState (cs.take k) 1=t1 at*;have HX0:=hQ hx0';rw [hx0'] at rc;clear hx0' hx hx0;go_wp2;refine wS 63 [0,1,2,3,5,6,10,11] [(4,[7,8,9,12],[0,2,5,6,10,11]),(13,[],[10,11])] ?_
      iterate 8 (refine wpQ_step rfl rfl (fun K hK=> ?_);go_simp;refine hK _ ?_;clear hK K)
      refine wpQ_nil ?_;refine wpRest_act rfl ?_;go_wp2_with fail
      refine(state_any p ((k:Int)+1) _ _ HRD.out).mono ?_;rintro e w3 ⟨rfl,rfl⟩;rw [S1];go_wp2;refine onN_mk ?_;iterate 4 (refine wpQ_step rfl rfl (fun K hK=> ?_);go_simp;refine hK _ ?_;clear hK K)
      refine wpQ_nil ⟨?_,?_⟩
      · refine chk_cons ?_ (chk_cons ?_ (chk_cons ?_ (chk_cons ?_ (chk_cons ?_ (chk_cons ?_ chk_nil)))))<;>(refine yieldF_of rfl rfl rfl rfl ?_;go_simp;try omega)
      refine wpRest_act rfl ?_;go_wp2;refine onN_mk (wpQ_nil ⟨?_,wpRest_nil ?_⟩)
      · refine chk_cons ?_ (chk_cons ?_ chk_nil)<;>(refine yieldF_of rfl rfl rfl rfl ?_;go_simp;try omega)
      go_wp2_with fail
      have h11:=(HE.out.drew);refine(set_add fb _ ((k:Int)+1) (by omega) (fun m hm=>by omega) _ _ h11).mono ?_;rintro e w4 ⟨m4,rfl,h12,hst4⟩;rw [HN.out] at h12;have HL:=hQ h12;clear h11 h12;go_wp2;go_roundw
      case rel=>exact⟨k+1,by omega,by go_num,((((hst3.setCell _ _).drew).setCell _ _)).trans hst4,HL.out.perm (by unfold Mid;ac_rfl)⟩
      case measure=>simp [intOf];omega
  · have hkl:k=cs.length:=by omega
    subst hkl;have HINV:=hQ hinv;clear hinv hp;go_wp2;first | refine bodyPost_ret (results_none rfl _ _ _) rfl ?_ | go_end0
    exact⟨rfl,⟨fb,HINV.out⟩,hst3⟩
end Go.Proofs.YtkfjilnmnbeokaaGreat.M3
namespace Go.Cop
def Trail(s:PoolS):List Int→List (Int × Int)→List Int→Prop
 | c0,[],c1=>c0=c1
 | c0,a :: l,c1=>({ s with counts:=c0 }:PoolS).there a.1∧0≤({ s with counts:=c0 }:PoolS).count a.1∧({ s with counts:=c0 }:PoolS).count a.1≤65536∧(-65536≤a.2∧a.2≤65536)∧
     Trail s (({ s with counts:=c0 }:PoolS).turn a.1 a.2).counts l c1
theorem trail_snoc {s:PoolS}{a:Int × Int}:∀ {l:List (Int × Int)} {c0 c:List Int},Trail s c0 (l++ [a]) c→∃c',Trail s c0 l c'∧({ s with counts:=c' }:PoolS).there a.1∧
 0≤({ s with counts:=c' }:PoolS).count a.1∧({ s with counts:=c' }:PoolS).count a.1≤65536∧(-65536≤a.2∧a.2≤65536)∧c=(({ s with counts:=c' }:PoolS).turn a.1 a.2).counts:=by
 intro l;induction l with
 | nil=>intro c0 c h;obtain⟨h1,h2,h3,h4,h5⟩:=h;exact⟨c0,rfl,h1,h2,h3,h4,h5.symm⟩
 | cons x l ih=>
   intro c0 c h;obtain⟨h1,h2,h3,h4,h5⟩:=h;obtain⟨c',h6,h7⟩:=ih h5;exact⟨c',⟨h1,h2,h3,h4,h6⟩,h7⟩
theorem trail_then {s:PoolS}{a:Int × Int}:∀ {l:List (Int × Int)} {c0 c:List Int},Trail s c0 l c→({ s with counts:=c }:PoolS).there a.1→
 0≤({ s with counts:=c }:PoolS).count a.1→({ s with counts:=c }:PoolS).count a.1≤65536→(-65536≤a.2∧a.2≤65536)→Trail s c0 (l++ [a]) (({ s with counts:=c }:PoolS).turn a.1 a.2).counts:=by
 intro l;induction l with
 | nil=>intro c0 c h h1 h2 h3 h4;cases h;exact⟨h1,h2,h3,h4,rfl⟩
 | cons x l ih=>
   intro c0 c h h1 h2 h3 h4;obtain⟨g1,g2,g3,g4,g5⟩:=h;exact⟨g1,g2,g3,g4,ih g5 h1 h2 h3 h4⟩
theorem turn_back {s:PoolS}{n b:Int}(h:s.there n):(s.turn n b).turn n (-b)=s:=by
 have hc:=turn_count (b:=b) (m:=n) h;rw [if_pos rfl] at hc;have hx:s.count n=s.counts.getD (n.toNat-1) 0:=by unfold PoolS.count;rw [if_pos h]
 obtain⟨h1,h2⟩:=h;have:(s.turn n b).turn n (-b)= { s with counts:=((s.turn n b).counts).set (n.toNat-1) ((s.turn n b).count n+ -b) }:=rfl
 rw [this,hc]
 have e:(s.turn n b).counts.set (n.toNat-1) (s.count n+b+ -b)=s.counts:=by
  show (s.counts.set _ _).set _ _=_
  rw [List.set_set,show s.count n+b+ -b=s.count n by omega,hx];apply List.ext_getElem?;intro i;by_cases hi:i=n.toNat-1
  · subst hi
    rw [List.getElem?_set_self (by omega),List.getD_eq_getElem?_getD,List.getElem?_eq_getElem (by omega)];rfl
  · rw [List.getElem?_set_ne (by omega)]
 rw [e]
end Go.Cop
namespace Go.Proofs.YtkfjilnmnbeokaaGreat.N3
open ChangeShapes WideShapes ChangeAt RowKit Sl Cop D2 D3 E3 G3 J3
theorem poolA_act {p:Nat}{s:PoolS}{F:Pr}{w:World}(h:Sat ((PoolA p s).star F) w){k:Nat}(hk:k<s.acts.length):
 ∃ab c bp bn bb,∃h0:Hp,h0.le w∧w.cell? ⟨p,9,none⟩=some (.slice (some ⟨ab,0,none⟩) s.acts.length c)∧
  w.cell? ⟨ab,k,none⟩=some (.func (.func 167) #[] #[.pointer (some ⟨bp,0,none⟩),.pointer (some ⟨bn,0,none⟩),.pointer (some ⟨bb,0,none⟩)])∧
  h0.cell bp 0=some (.pointer (some ⟨p,0,none⟩))∧h0.cell bn 0=some (.int .i64 s.acts[k].1)∧h0.cell bb 0=some (.int .i64 s.acts[k].2):=by
 obtain⟨ok,cv,lv,fb,av,hA⟩:=poolA_iff.1 h;have hA1:Sat ((ActsA p av s.acts).star ((Pr.pts p (.cells (poolCells s cv lv fb av) 118)).star ((IntsRow cv s.counts).star ((BoolsRow lv s.last).star ((SetOf fb fun m=>s.state m=1).star F))))) w:=hA.perm (by unfold PoolAt;ac_rfl);unfold ActsA at hA1;obtain⟨⟨fs,hx⟩,h2⟩:=Sat.ex.1 hA1;rw [Pr.star_assoc] at h2;obtain⟨⟨l1,l2⟩,h3⟩:=Sat.pure.1 h2
 dsimp only at h3 l1 l2;rw [Pr.star_assoc] at h3;obtain⟨a,c,hav,_,hrow⟩:=Row.read h3;obtain⟨ab,hab,hc⟩:=hrow (by omega);subst hab;subst hav;obtain⟨bp,bn,bb,e,g1,g2,g3⟩:=l2 k hk (by omega);refine⟨ab,c,bp,bn,bb,hx,h3.right.own,by rw [cell_of_heap h3.right.right.pts_heap];rfl,?_,g1,g2,g3⟩;rw [(hc k (by omega)).1,List.getElem?_eq_getElem (by omega),e]
end Go.Proofs.YtkfjilnmnbeokaaGreat.N3
namespace Go.Proofs.YtkfjilnmnbeokaaGreat.Q3
open ChangeShapes WideShapes ChangeAt RowKit Sl Cop D2 D3 G3 J3
def incE(s:PoolS)(n:Int):Int:=if s.count n=0 then 15 else if s.count n=s.refs then 13 else 0
theorem inc_A(p:Nat)(s:PoolS)(n:Int)(F:Pr)(w:World)(hF:Sat ((PoolA p s).star F) w)(hm:s.floor+s.acts.length<1099511627776)(hr:s.count n≤s.refs):
 Calls Tryz.prog 97 #[.pointer (some ⟨p,0,none⟩),.int .i64 n] w fun e w'=>
  e= .returned (.int .i64 (incE s n))∧Stays w w'∧((incE s n≠0∧Sat ((PoolA p s).star F) w')∨(incE s n=0∧Sat ((PoolA p (s.did n 1)).star F) w')):=by
 have ok:=(poolA_rd hF).1;have C:=hQ (count_A p s n F w hF);have HF:=hQ hF
 have q0:w.cell? ⟨p,0,none⟩=some (.int .i64 s.refs):=by
  obtain⟨ok,cv,lv,fb,av,hA⟩:=poolA_iff.1 hF;have hA1:Sat ((Pr.pts p (.cells (poolCells s cv lv fb av) 118)).star ((ActsA p av s.acts).star ((IntsRow cv s.counts).star ((BoolsRow lv s.last).star ((SetOf fb fun m=>s.state m=1).star F))))) w:=hA.perm (by unfold PoolAt;ac_rfl);rw [cell_of_heap hA1.pts_heap];rfl
 obtain⟨b1,b2⟩:=count_bd ok n;have r2:=ok.r2;clear hF;unfold incE;by_cases h0:s.count n=0
 · rw [h0] at C
   simp only [h0,if_true];go_enter Tryz.func97,Tryz.ntmps97
   go_wp2_with fail
   refine C.out.mono ?_;rintro e w' ⟨rfl,rfl⟩;go_wp2;go_ret;exact⟨rfl,Stays.refl _,.inl ⟨by decide,HF.out⟩⟩
 · have hne:(s.count n == 0)=false:=by simpa using h0
   by_cases h1:s.count n=s.refs
   · have hq:(s.count n == s.refs)=true:=beq_iff_eq.2 h1
     rw [if_neg h0,if_pos h1];clear h1 hr;generalize s.refs=rf at*;generalize s.count n=k at*;go_enter Tryz.func97,Tryz.ntmps97
     go_wp2_with fail
     refine C.out.mono ?_;rintro e w' ⟨rfl,rfl⟩;go_wp2;go_ret;exact⟨rfl,Stays.refl _,.inl ⟨by decide,HF.out⟩⟩
   · have hq:(s.count n == s.refs)=false:=beq_eq_false_iff_ne.2 h1
     have ht:=there_of_count h0;have A:=hQ (act_any p s n 1 F w HF.out ht (by omega) (by omega) hm);rw [if_neg h0,if_neg h1];clear h1 hr ht;generalize s.refs=rf at*;generalize s.count n=k at*;go_enter Tryz.func97,Tryz.ntmps97
     go_wp2_with fail
     refine C.out.mono ?_;rintro e w' ⟨rfl,rfl⟩;go_wp2_with fail
     refine A.out.mono ?_;rintro e w' ⟨rfl,hs,hst⟩;have HS:=hQ hs;clear hs;go_wp2;go_ret;exact⟨rfl,hst,.inr ⟨trivial,HS.out⟩⟩
end Go.Proofs.YtkfjilnmnbeokaaGreat.Q3
