/- The pool: Undo at a mark that is one; the conditions stand as hypotheses. -/
import Derived.Test.YtkfjilnmnbeokaaGreatPutInPlaceM08
import Derived.Test.YtkfjilnmnbeokaaGreatPutInPlaceM01
set_option maxRecDepth 100000
set_option maxHeartbeats 16000000
namespace Go.Proofs.YtkfjilnmnbeokaaGreat.U3
open ChangeShapes WideShapes ChangeAt RowKit Sl Cop D2 D3 E3 G3 J3 N3
theorem cap_of {p:Nat}{s:PoolS}{cv lv:Value}{fb:Nat}{av:Value}{F:Pr}{w:World}{a:Option Addr}{c:Nat}(h:Sat ((PoolAt p s cv lv fb av).star F) w)(h9:w.cell? ⟨p,9,none⟩=some (.slice a s.acts.length c)):s.acts.length≤c:=by
 have hA1:Sat ((Pr.pts p (.cells (poolCells s cv lv fb av) 118)).star ((ActsA p av s.acts).star ((IntsRow cv s.counts).star ((BoolsRow lv s.last).star ((SetOf fb fun m=>s.state m=1).star F))))) w:=h.perm (by unfold PoolAt;ac_rfl);have e:w.cell? ⟨p,9,none⟩=some av:=by rw [cell_of_heap hA1.pts_heap];rfl
 rw [e] at h9;cases h9;have h2:=hA1.right;unfold ActsA at h2;obtain⟨⟨fs,hx⟩,h3⟩:=Sat.ex.1 h2;rw [Pr.star_assoc] at h3;obtain⟨_,h4⟩:=Sat.pure.1 h3;dsimp only at h4;rw [Pr.star_assoc] at h4;obtain⟨_,(⟨e1,e2,_⟩ | ⟨b',cap',sp,e1,_,e2,_,_⟩)⟩:=Row.open' h4
 · simp only [Value.slice.injEq] at e1;omega
 · simp only [Value.slice.injEq] at e1;omega
theorem row_cut {T n c m:Nat}{a:Option Addr}{xs:List Value}{F:Pr}{w:World}(h:Sat ((Row T 1 (.slice a n c) n xs).star F) w)(hm:m≤n):Sat ((Row T 1 (.slice a m c) m (xs.take m)).star F) w:=by
 refine h.mono fun x hx=> ?_
 obtain⟨hl,(⟨e,hn,hx⟩ | ⟨b,cap,sp,e,h1,h2,h3,h4⟩)⟩:=hx
 · cases e
   have:m=0:=by omega
   subst this;exact⟨by simp,.inl ⟨rfl,rfl,hx⟩⟩
 · cases e
   refine⟨by simp;omega,.inr ⟨b,c,xs.drop m++sp,rfl,by simp;omega,by omega,h3,?_⟩⟩;rw [← List.append_assoc,List.take_append_drop];exact h4
theorem acts_cut {p:Nat}{s:PoolS}{cv lv:Value}{fb:Nat}{a:Option Addr}{c m:Nat}{F:Pr}{w:World}(ok:PoolOk s)(hm:m≤s.acts.length)
 (h:Sat ((PoolAt p s cv lv fb (.slice a s.acts.length c)).star F) w):Sat ((PoolA p { s with acts:=s.acts.take m }).star F) (w.setCell ⟨p,9,none⟩ (.slice a m c)):=by
 have hlen:(s.acts.take m).length=m:=by rw [List.length_take];omega
 have ok':PoolOk { s with acts:=s.acts.take m }:=⟨ok.n1,ok.n2,ok.len,ok.r1,ok.r2,ok.cs,ok.fl,by
  have:=ok.mb
  show s.floor+((s.acts.take m).length:Nat)≤ _
  rw [hlen];omega⟩
 refine poolA_iff.2 ⟨ok',cv,lv,fb,.slice a m c,?_⟩;have hA1:Sat ((ActsA p (.slice a s.acts.length c) s.acts).star ((Pr.pts p (.cells (poolCells s cv lv fb (.slice a s.acts.length c)) 118)).star ((IntsRow cv s.counts).star ((BoolsRow lv s.last).star ((SetOf fb fun m=>s.state m=1).star F))))) w:=h.perm (by unfold PoolAt;ac_rfl);unfold ActsA at hA1;obtain⟨⟨fs,hx⟩,h2⟩:=Sat.ex.1 hA1
 rw [Pr.star_assoc] at h2;obtain⟨⟨l1,l2⟩,h3⟩:=Sat.pure.1 h2;dsimp only at l1 l2 h3;rw [Pr.star_assoc] at h3;have h4:=row_cut h3 hm
 have h5:Sat ((Pr.pts p (.cells (poolCells s cv lv fb (.slice a s.acts.length c)) 118)).star ((Row 184 1 (.slice a m c) m (fs.take m)).star ((Pr.own hx).star ((IntsRow cv s.counts).star ((BoolsRow lv s.last).star ((SetOf fb fun m=>s.state m=1).star F)))))) w:=h4.perm (by ac_rfl)
 have h6:Sat ((Pr.pts p (.cells (poolCells s cv lv fb (.slice a m c)) 118)).star ((Row 184 1 (.slice a m c) m (fs.take m)).star ((Pr.own hx).star ((IntsRow cv s.counts).star ((BoolsRow lv s.last).star ((SetOf fb fun m=>s.state m=1).star F)))))) (w.setCell ⟨p,9,none⟩ (.slice a m c)):=h5.setCell (i:=9) (.slice a m c)
 have h7:Sat (((Row 184 1 (.slice a m c) m (fs.take m)).star (Pr.own hx)).star ((Pr.pts p (.cells (poolCells s cv lv fb (.slice a m c)) 118)).star ((IntsRow cv s.counts).star ((BoolsRow lv s.last).star ((SetOf fb fun m=>s.state m=1).star F))))) (w.setCell ⟨p,9,none⟩ (.slice a m c)):=h6.perm (by ac_rfl)
 have h8:Sat ((ActsA p (.slice a m c) (s.acts.take m)).star ((Pr.pts p (.cells (poolCells s cv lv fb (.slice a m c)) 118)).star ((IntsRow cv s.counts).star ((BoolsRow lv s.last).star ((SetOf fb fun m=>s.state m=1).star F))))) (w.setCell ⟨p,9,none⟩ (.slice a m c)):=by
  unfold ActsA;refine Sat.ex.2 ⟨(fs.take m,hx),?_⟩;rw [Pr.star_assoc];refine Sat.pure.2 ⟨⟨by rw [List.length_take,List.length_take,l1],fun i hi hf=> ?_⟩,?_⟩
  · have h1:i<s.acts.length:=by rw [hlen] at hi;omega
    rw [List.getElem_take,List.getElem_take];exact l2 i h1 (by omega)
  · rw [hlen];exact h7
 exact h8.perm (show _=((Pr.pts p (.cells (poolCells s cv lv fb (.slice a m c)) 118)).star ((IntsRow cv s.counts).star ((BoolsRow lv s.last).star ((SetOf fb fun m=>s.state m=1).star (ActsA p (.slice a m c) (s.acts.take m)))))).star F from by ac_rfl)
theorem undo_any(p:Nat)(s:PoolS)(m:Nat)(cm:List Int)(F:Pr)(w:World)(hF:Sat ((PoolA p s).star F) w)(hm:m≤s.acts.length)(ht:Trail s cm (s.acts.drop m) s.counts):
 Calls Tryz.prog 103 #[.pointer (some ⟨p,0,none⟩),.int .i64 (s.floor+m)] w fun e w'=>
  e= .returned (.bool true)∧Sat ((PoolA p { s with counts:=cm,acts:=s.acts.take m }).star F) w'∧Stays w w':=by
 obtain⟨ok,_,h10,⟨aa,cc,h9⟩,_⟩:=poolA_rd hF;have C:=hQ (mark_A p s F w hF);have b1:=ok.fl;have b2:=ok.mb;have em:s.mark=s.floor+s.acts.length:=rfl;rw [em] at C;have HF:=hQ hF;have HT:=hQ ht;clear hF ht ok em;go_enter Tryz.func103,Tryz.ntmps103
 go_wp2_with fail
 refine C.out.mono ?_;rintro e w1 ⟨rfl,hst,hh⟩;have h9':w1.cell? ⟨p,9,none⟩=some (.slice aa s.acts.length cc):=by unfold World.cell? at h9 ⊢;rw [hh];exact h9
 have h10':w1.cell? ⟨p,10,none⟩=some (.int .i64 s.floor):=by unfold World.cell? at h10 ⊢;rw [hh];exact h10
 have H1:=hQ (HF.out.ext (w':=w1) (fun _ _=>by rw [hh]));have hd:decide (s.acts.length<m)=false:=by rw [decide_eq_false_iff_not];omega
 have hd2:¬s.acts.length<m:=by omega
 clear h9 h10 hh C;go_wp2;clear hd hd2;go_loopw [5] (fun i wr=> ∃(j:Nat) (c:List Int),j≤s.acts.length-m∧i= .int .i64 ((m:Int)+j-1)∧Stays w wr∧Trail s cm ((s.acts.drop m).take j) c∧Sat ((PoolA p { s with counts:=c }).star F) wr) (fun i _=>(intOf i+1).toNat)
 case atStart=>
  refine⟨s.acts.length-m,s.counts,Nat.le_refl _,?_,hst,?_,H1.out⟩
  · congr 1;omega
  · rw [List.take_of_length_le (by simp)];exact HT.out
 case round=>
  obtain⟨j,c,hj,rfl,hst2,htr,hinv⟩:=hrel;obtain⟨ok2,_,h10,⟨a3,c3,h9⟩,_⟩:=poolA_rd hinv;dsimp only at h10 h9;cases j with
  | zero=>
    have hz:cm=c:=htr;subst hz
    have zp:wr.frozen? ⟨p,9,none⟩=false:=by
     obtain⟨_,cv,lv,fb,av,hA⟩:=poolA_iff.1 hinv;unfold PoolAt at hA;rw [Pr.star_assoc] at hA;exact frozen_of_heap hA.pts_heap 9
    have hcap:s.acts.length≤c3:=by
     obtain⟨_,cv,lv,fb,av,hA⟩:=poolA_iff.1 hinv;exact cap_of (s:= { s with counts:=cm }) hA h9
    have HI:=hQ hinv;clear hinv htr ok2;go_wp2;refine wS 57 [0,1,2,3,4,5,6,7,8,9,10,11,12,13] [(14,[],[12])] ?_;have hw:IntKind.i64.wrap (s.floor+(m:Int)-s.floor)=(m:Int):=by rw [show s.floor+(m:Int)-s.floor=(m:Int) by omega,IntKind.wrap_i64];omega
    have hcond:(0:Int)≤(m:Int)∧(m:Int)≤(c3:Int):=by omega
    iterate 14 (refine wpQ_step rfl rfl (fun K hK=> ?_);go_simp;(try simp only [hw]);(try rw [if_pos hcond]);refine hK _ ?_;clear hK K)
    refine wpQ_nil ?_;refine wpRest_act rfl ?_;go_wp2;refine onN_mk (wpQ_nil ⟨?_,wpRest_nil ?_⟩)
    · refine chk_cons ?_ chk_nil<;>(refine yieldF_of rfl rfl rfl rfl ?_;go_simp;try omega)
    go_wp2;go_ret;obtain⟨ok2,cv,lv,fb,av,hA⟩:=poolA_iff.1 HI.out
    have e9:wr.cell? ⟨p,9,none⟩=some av:=by
     have h9':Sat ((Pr.pts p (.cells (poolCells { s with counts:=cm } cv lv fb av) 118)).star ((ActsA p av s.acts).star ((IntsRow cv cm).star ((BoolsRow lv s.last).star ((SetOf fb fun m=>({ s with counts:=cm }:PoolS).state m=1).star F))))) wr:=hA.perm (by unfold PoolAt;ac_rfl);rw [cell_of_heap h9'.pts_heap];rfl
    rw [h9] at e9;simp only [Option.some.injEq] at e9;subst e9;exact⟨rfl,acts_cut (s:= { s with counts:=cm }) ok2 hm (hA.drew),(hst2.drew).setCell _ _⟩
  | succ j=>
    have hlt:m+j<s.acts.length:=by omega
    have etk:(s.acts.drop m).take (j+1)=(s.acts.drop m).take j++ [s.acts[m+j]]:=by
     rw [List.take_succ_eq_append_getElem (by simp;omega)];simp
    rw [etk] at htr;obtain⟨c',t1,t2,t3,t4,t5,t6⟩:=trail_snoc htr;obtain⟨ab,c4,bp,bn,bb,h0,hle,g9,gk,g1,g2,g3⟩:=poolA_act hinv (k:=m+j) hlt;dsimp only at g9 gk g1 g2 g3;have e2:({ s with counts:=c }:PoolS)=({ s with counts:=c' }:PoolS).turn s.acts[m+j].1 s.acts[m+j].2:=by rw [t6];rfl
    have hcn:=turn_count (b:=s.acts[m+j].2) (m:=s.acts[m+j].1) t2;rw [if_pos rfl] at hcn;have A:=act1_any p ({ s with counts:=c }:PoolS) s.acts[m+j].1 s.acts[m+j].2 bp bn bb h0 g1 g2 g3 F wr hle hinv (by rw [e2];exact turn_there.2 t2) (by rw [e2,hcn];omega) (by rw [e2,hcn];omega) t5
    have e3:({ s with counts:=c }:PoolS).turn s.acts[m+j].1 (-s.acts[m+j].2)= { s with counts:=c' }:=by rw [e2];exact turn_back t2
    rw [e3] at A;have HA:=hQ A;have HTR:=hQ t1;clear A e3 hcn e2 t1 t2 t3 t4 t5 t6 htr etk hinv ok2 h9 g1 g2 g3;go_wp2_with fail
    refine HA.out.mono ?_;rintro e w2 ⟨rfl,hs,hst3⟩;go_wp2;rw [show (m:Int)+((j:Int)+1)-1-1=(m:Int)+j-1 by omega];go_roundw
    case rel=>exact⟨j,c',by omega,rfl,hst2.trans hst3,HTR.out,hs⟩
    case measure=>simp [intOf];omega
end Go.Proofs.YtkfjilnmnbeokaaGreat.U3
