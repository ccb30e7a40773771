/- The pool: Undo; the conditions stand as hypotheses. -/
import Derived.Test.YtpfafhklppondaaGreatVaultCountsM10
import Derived.Test.YtpfafhklppondaaGreatVaultCountsM01
set_option maxRecDepth 100000
set_option maxHeartbeats 16000000
namespace Go.Cop
def Trail(s:PoolS):List Int→List (Int × Int)→List Int→Prop
 | c0,[],c1=>c0=c1
 | c0,a :: l,c1=>({ s with counts:=c0 }:PoolS).there a.1∧0≤({ s with counts:=c0 }:PoolS).count a.1∧({ s with counts:=c0 }:PoolS).count a.1≤65536∧(-65536≤a.2∧a.2≤65536)∧
     Trail s (({ s with counts:=c0 }:PoolS).turn a.1 a.2).counts l c1
theorem trail_snoc {s:PoolS}{a:Int × Int}:∀ {l:List (Int × Int)} {c0 c:List Int},Trail s c0 (l++ [a]) c→∃c',Trail s c0 l c'∧({ s with counts:=c' }:PoolS).there a.1∧
 0≤({ s with counts:=c' }:PoolS).count a.1∧({ s with counts:=c' }:PoolS).count a.1≤65536∧(-65536≤a.2∧a.2≤65536)∧c=(({ s with counts:=c' }:PoolS).turn a.1 a.2).counts:=by
 intro l;induction l with
 | nil=>intro c0 c h;obtain⟨h1,h2,h3,h4,h5⟩:=h;exact⟨c0,rfl,h1,h2,h3,h4,h5.symm⟩
 | cons x l ih=>
   intro c0 c h;obtain⟨h1,h2,h3,h4,h5⟩:=h;obtain⟨c',h6,h7⟩:=ih h5;exact⟨c',⟨h1,h2,h3,h4,h6⟩,h7⟩
theorem trail_then {s:PoolS}{a:Int × Int}:∀ {l:List (Int × Int)} {c0 c:List Int},Trail s c0 l c→({ s with counts:=c }:PoolS).there a.1→
 0≤({ s with counts:=c }:PoolS).count a.1→({ s with counts:=c }:PoolS).count a.1≤65536→(-65536≤a.2∧a.2≤65536)→Trail s c0 (l++ [a]) (({ s with counts:=c }:PoolS).turn a.1 a.2).counts:=by
 intro l;induction l with
 | nil=>intro c0 c h h1 h2 h3 h4;cases h;exact⟨h1,h2,h3,h4,rfl⟩
 | cons x l ih=>
   intro c0 c h h1 h2 h3 h4;obtain⟨g1,g2,g3,g4,g5⟩:=h;exact⟨g1,g2,g3,g4,ih g5 h1 h2 h3 h4⟩
theorem turn_back {s:PoolS}{n b:Int}(h:s.there n):(s.turn n b).turn n (-b)=s:=by
 have hc:=turn_count (b:=b) (m:=n) h;rw [if_pos rfl] at hc;have hx:s.count n=s.counts.getD (n.toNat-1) 0:=by unfold PoolS.count;rw [if_pos h]
 obtain⟨h1,h2⟩:=h;have:(s.turn n b).turn n (-b)= { s with counts:=((s.turn n b).counts).set (n.toNat-1) ((s.turn n b).count n+ -b) }:=rfl
 rw [this,hc]
 have e:(s.turn n b).counts.set (n.toNat-1) (s.count n+b+ -b)=s.counts:=by
  show (s.counts.set _ _).set _ _=_
  rw [List.set_set,show s.count n+b+ -b=s.count n by omega,hx];apply List.ext_getElem?;intro i;by_cases hi:i=n.toNat-1
  · subst hi
    rw [List.getElem?_set_self (by omega),List.getD_eq_getElem?_getD,List.getElem?_eq_getElem (by omega)];rfl
  · rw [List.getElem?_set_ne (by omega)]
 rw [e]
end Go.Cop
namespace Go.Proofs.YtpfafhklppondaaGreat.Z3
open ChangeShapes WideShapes ChangeAt RowKit Sl Cop M2 P3 Q3 U3 X3
theorem poolA_act {p:Nat}{s:PoolS}{F:Pr}{w:World}(h:Sat ((PoolA p s).star F) w){k:Nat}(hk:k<s.acts.length):
 ∃ab c bp bn bb,∃h0:Hp,h0.le w∧w.cell? ⟨p,9,none⟩=some (.slice (some ⟨ab,0,none⟩) s.acts.length c)∧
  w.cell? ⟨ab,k,none⟩=some (.func (.func 163) #[] #[.pointer (some ⟨bp,0,none⟩),.pointer (some ⟨bn,0,none⟩),.pointer (some ⟨bb,0,none⟩)])∧
  h0.cell bp 0=some (.pointer (some ⟨p,0,none⟩))∧h0.cell bn 0=some (.int .i64 s.acts[k].1)∧h0.cell bb 0=some (.int .i64 s.acts[k].2):=by
 obtain⟨ok,cv,lv,fb,av,hA⟩:=poolA_iff.1 h;have hA1:Sat ((ActsA p av s.acts).star ((Pr.pts p (.cells (poolCells s cv lv fb av) 112)).star ((IntsRow cv s.counts).star ((BoolsRow lv s.last).star ((SetOf fb fun m=>s.state m=1).star F))))) w:=hA.perm (by unfold PoolAt;ac_rfl);unfold ActsA at hA1;obtain⟨⟨fs,hx⟩,h2⟩:=Sat.ex.1 hA1;rw [Pr.star_assoc] at h2;obtain⟨⟨l1,l2⟩,h3⟩:=Sat.pure.1 h2
 dsimp only at h3 l1 l2;rw [Pr.star_assoc] at h3;obtain⟨a,c,hav,_,hrow⟩:=Row.read h3;obtain⟨ab,hab,hc⟩:=hrow (by omega);subst hab;subst hav;obtain⟨bp,bn,bb,e,g1,g2,g3⟩:=l2 k hk (by omega);refine⟨ab,c,bp,bn,bb,hx,h3.right.own,by rw [cell_of_heap h3.right.right.pts_heap];rfl,?_,g1,g2,g3⟩;rw [(hc k (by omega)).1,List.getElem?_eq_getElem (by omega),e]
end Go.Proofs.YtpfafhklppondaaGreat.Z3
namespace Go.Proofs.YtpfafhklppondaaGreat.E4
open ChangeShapes WideShapes ChangeAt RowKit Sl Cop M2 P3 U3 X3
def incE(s:PoolS)(n:Int):Int:=if s.count n=0 then 15 else if s.count n=s.refs then 13 else 0
theorem inc_A(p:Nat)(s:PoolS)(n:Int)(F:Pr)(w:World)(hF:Sat ((PoolA p s).star F) w)(hm:s.floor+s.acts.length<1099511627776)(hr:s.count n≤s.refs):
 Calls Tryz.prog 98 #[.pointer (some ⟨p,0,none⟩),.int .i64 n] w fun e w'=>
  e= .returned (.int .i64 (incE s n))∧Stays w w'∧((incE s n≠0∧Sat ((PoolA p s).star F) w')∨(incE s n=0∧Sat ((PoolA p (s.did n 1)).star F) w')):=by
 have ok:=(poolA_rd hF).1;have C:=hQ (count_A p s n F w hF);have HF:=hQ hF
 have q0:w.cell? ⟨p,0,none⟩=some (.int .i64 s.refs):=by
  obtain⟨ok,cv,lv,fb,av,hA⟩:=poolA_iff.1 hF;have hA1:Sat ((Pr.pts p (.cells (poolCells s cv lv fb av) 112)).star ((ActsA p av s.acts).star ((IntsRow cv s.counts).star ((BoolsRow lv s.last).star ((SetOf fb fun m=>s.state m=1).star F))))) w:=hA.perm (by unfold PoolAt;ac_rfl);rw [cell_of_heap hA1.pts_heap];rfl
 obtain⟨b1,b2⟩:=count_bd ok n;have r2:=ok.r2;clear hF;unfold incE;by_cases h0:s.count n=0
 · rw [h0] at C
   simp only [h0,if_true];go_enter Tryz.func98,Tryz.ntmps98
   go_wp2_with fail
   refine C.out.mono ?_;rintro e w' ⟨rfl,rfl⟩;go_wp2;go_ret;exact⟨rfl,Stays.refl _,.inl ⟨by decide,HF.out⟩⟩
 · have hne:(s.count n == 0)=false:=by simpa using h0
   by_cases h1:s.count n=s.refs
   · have hq:(s.count n == s.refs)=true:=beq_iff_eq.2 h1
     rw [if_neg h0,if_pos h1];clear h1 hr;generalize s.refs=rf at*;generalize s.count n=k at*;go_enter Tryz.func98,Tryz.ntmps98
     go_wp2_with fail
     refine C.out.mono ?_;rintro e w' ⟨rfl,rfl⟩;go_wp2;go_ret;exact⟨rfl,Stays.refl _,.inl ⟨by decide,HF.out⟩⟩
   · have hq:(s.count n == s.refs)=false:=beq_eq_false_iff_ne.2 h1
     have ht:=there_of_count h0;have A:=hQ (act_any p s n 1 F w HF.out ht (by omega) (by omega) hm);rw [if_neg h0,if_neg h1];clear h1 hr ht;generalize s.refs=rf at*;generalize s.count n=k at*;go_enter Tryz.func98,Tryz.ntmps98
     go_wp2_with fail
     refine C.out.mono ?_;rintro e w' ⟨rfl,rfl⟩;go_wp2_with fail
     refine A.out.mono ?_;rintro e w' ⟨rfl,hs,hst⟩;have HS:=hQ hs;clear hs;go_wp2;go_ret;exact⟨rfl,hst,.inr ⟨trivial,HS.out⟩⟩
end Go.Proofs.YtpfafhklppondaaGreat.E4
namespace Go.Proofs.YtpfafhklppondaaGreat.F4
open ChangeShapes WideShapes ChangeAt RowKit Sl Cop M2 P3 Q3 U3 X3 Z3
theorem cap_of {p:Nat}{s:PoolS}{cv lv:Value}{fb:Nat}{av:Value}{F:Pr}{w:World}{a:Option Addr}{c:Nat}(h:Sat ((PoolAt p s cv lv fb av).star F) w)(h9:w.cell? ⟨p,9,none⟩=some (.slice a s.acts.length c)):s.acts.length≤c:=by
 have hA1:Sat ((Pr.pts p (.cells (poolCells s cv lv fb av) 112)).star ((ActsA p av s.acts).star ((IntsRow cv s.counts).star ((BoolsRow lv s.last).star ((SetOf fb fun m=>s.state m=1).star F))))) w:=h.perm (by unfold PoolAt;ac_rfl);have e:w.cell? ⟨p,9,none⟩=some av:=by rw [cell_of_heap hA1.pts_heap];rfl
 rw [e] at h9;cases h9;have h2:=hA1.right;unfold ActsA at h2;obtain⟨⟨fs,hx⟩,h3⟩:=Sat.ex.1 h2;rw [Pr.star_assoc] at h3;obtain⟨_,h4⟩:=Sat.pure.1 h3;dsimp only at h4;rw [Pr.star_assoc] at h4;obtain⟨_,(⟨e1,e2,_⟩ | ⟨b',cap',sp,e1,_,e2,_,_⟩)⟩:=Row.open' h4
 · simp only [Value.slice.injEq] at e1;omega
 · simp only [Value.slice.injEq] at e1;omega
theorem row_cut {T n c m:Nat}{a:Option Addr}{xs:List Value}{F:Pr}{w:World}(h:Sat ((Row T 1 (.slice a n c) n xs).star F) w)(hm:m≤n):Sat ((Row T 1 (.slice a m c) m (xs.take m)).star F) w:=by
 refine h.mono fun x hx=> ?_
 obtain⟨hl,(⟨e,hn,hx⟩ | ⟨b,cap,sp,e,h1,h2,h3,h4⟩)⟩:=hx
 · cases e
   have:m=0:=by omega
   subst this;exact⟨by simp,.inl ⟨rfl,rfl,hx⟩⟩
 · cases e
   refine⟨by simp;omega,.inr ⟨b,c,xs.drop m++sp,rfl,by simp;omega,by omega,h3,?_⟩⟩;rw [← List.append_assoc,List.take_append_drop];exact h4
theorem acts_cut {p:Nat}{s:PoolS}{cv lv:Value}{fb:Nat}{a:Option Addr}{c m:Nat}{F:Pr}{w:World}(ok:PoolOk s)(hm:m≤s.acts.length)
 (h:Sat ((PoolAt p s cv lv fb (.slice a s.acts.length c)).star F) w):Sat ((PoolA p { s with acts:=s.acts.take m }).star F) (w.setCell ⟨p,9,none⟩ (.slice a m c)):=by
 have hlen:(s.acts.take m).length=m:=by rw [List.length_take];omega
 have ok':PoolOk { s with acts:=s.acts.take m }:=⟨ok.n1,ok.n2,ok.len,ok.r1,ok.r2,ok.cs,ok.fl,by
  have:=ok.mb
  show s.floor+((s.acts.take m).length:Nat)≤ _
  rw [hlen];omega⟩
 refine poolA_iff.2 ⟨ok',cv,lv,fb,.slice a m c,?_⟩;have hA1:Sat ((ActsA p (.slice a s.acts.length c) s.acts).star ((Pr.pts p (.cells (poolCells s cv lv fb (.slice a s.acts.length c)) 112)).star ((IntsRow cv s.counts).star ((BoolsRow lv s.last).star ((SetOf fb fun m=>s.state m=1).star F))))) w:=h.perm (by unfold PoolAt;ac_rfl);unfold ActsA at hA1;obtain⟨⟨fs,hx⟩,h2⟩:=Sat.ex.1 hA1
 rw [Pr.star_assoc] at h2;obtain⟨⟨l1,l2⟩,h3⟩:=Sat.pure.1 h2;dsimp only at l1 l2 h3;rw [Pr.star_assoc] at h3;have h4:=row_cut h3 hm
 have h5:Sat ((Pr.pts p (.cells (poolCells s cv lv fb (.slice a s.acts.length c)) 112)).star ((Row 174 1 (.slice a m c) m (fs.take m)).star ((Pr.own hx).star ((IntsRow cv s.counts).star ((BoolsRow lv s.last).star ((SetOf fb fun m=>s.state m=1).star F)))))) w:=h4.perm (by ac_rfl)
 have h6:Sat ((Pr.pts p (.cells (poolCells s cv lv fb (.slice a m c)) 112)).star ((Row 174 1 (.slice a m c) m (fs.take m)).star ((Pr.own hx).star ((IntsRow cv s.counts).star ((BoolsRow lv s.last).star ((SetOf fb fun m=>s.state m=1).star F)))))) (w.setCell ⟨p,9,none⟩ (.slice a m c)):=h5.setCell (i:=9) (.slice a m c)
 have h7:Sat (((Row 174 1 (.slice a m c) m (fs.take m)).star (Pr.own hx)).star ((Pr.pts p (.cells (poolCells s cv lv fb (.slice a m c)) 112)).star ((IntsRow cv s.counts).star ((BoolsRow lv s.last).star ((SetOf fb fun m=>s.state m=1).star F))))) (w.setCell ⟨p,9,none⟩ (.slice a m c)):=h6.perm (by ac_rfl)
 have h8:Sat ((ActsA p (.slice a m c) (s.acts.take m)).star ((Pr.pts p (.cells (poolCells s cv lv fb (.slice a m c)) 112)).star ((IntsRow cv s.counts).star ((BoolsRow lv s.last).star ((SetOf fb fun m=>s.state m=1).star F))))) (w.setCell ⟨p,9,none⟩ (.slice a m c)):=by
  unfold ActsA;refine Sat.ex.2 ⟨(fs.take m,hx),?_⟩;rw [Pr.star_assoc];refine Sat.pure.2 ⟨⟨by rw [List.length_take,List.length_take,l1],fun i hi hf=> ?_⟩,?_⟩
  · have h1:i<s.acts.length:=by rw [hlen] at hi;omega
    rw [List.getElem_take,List.getElem_take];exact l2 i h1 (by omega)
  · rw [hlen];exact h7
 exact h8.perm (show _=((Pr.pts p (.cells (poolCells s cv lv fb (.slice a m c)) 112)).star ((IntsRow cv s.counts).star ((BoolsRow lv s.last).star ((SetOf fb fun m=>s.state m=1).star (ActsA p (.slice a m c) (s.acts.take m)))))).star F from by ac_rfl)
theorem undo_any(p:Nat)(s:PoolS)(m:Nat)(cm:List Int)(F:Pr)(w:World)(hF:Sat ((PoolA p s).star F) w)(hm:m≤s.acts.length)(ht:Trail s cm (s.acts.drop m) s.counts):
 Calls Tryz.prog 160 #[.pointer (some ⟨p,0,none⟩),.int .i64 (s.floor+m)] w fun e w'=>
  e= .returned (.bool true)∧Sat ((PoolA p { s with counts:=cm,acts:=s.acts.take m }).star F) w'∧Stays w w':=by
 obtain⟨ok,_,h10,⟨aa,cc,h9⟩,_⟩:=poolA_rd hF;have C:=hQ (mark_A p s F w hF);have b1:=ok.fl;have b2:=ok.mb;have em:s.mark=s.floor+s.acts.length:=rfl;rw [em] at C;have HF:=hQ hF;have HT:=hQ ht;clear hF ht ok em;go_enter Tryz.func160,Tryz.ntmps160
 go_wp2_with fail
 refine C.out.mono ?_;rintro e w1 ⟨rfl,hst,hh⟩;have h9':w1.cell? ⟨p,9,none⟩=some (.slice aa s.acts.length cc):=by unfold World.cell? at h9 ⊢;rw [hh];exact h9
 have h10':w1.cell? ⟨p,10,none⟩=some (.int .i64 s.floor):=by unfold World.cell? at h10 ⊢;rw [hh];exact h10
 have H1:=hQ (HF.out.ext (w':=w1) (fun _ _=>by rw [hh]));have hd:decide (s.acts.length<m)=false:=by rw [decide_eq_false_iff_not];omega
 have hd2:¬s.acts.length<m:=by omega
 clear h9 h10 hh C;go_wp2;clear hd hd2;go_loopw [5] (fun i wr=> ∃(j:Nat) (c:List Int),j≤s.acts.length-m∧i= .int .i64 ((m:Int)+j-1)∧Stays w wr∧Trail s cm ((s.acts.drop m).take j) c∧Sat ((PoolA p { s with counts:=c }).star F) wr) (fun i _=>(intOf i+1).toNat)
 case atStart=>
  refine⟨s.acts.length-m,s.counts,Nat.le_refl _,?_,hst,?_,H1.out⟩
  · congr 1;omega
  · rw [List.take_of_length_le (by simp)];exact HT.out
 case round=>
  obtain⟨j,c,hj,rfl,hst2,htr,hinv⟩:=hrel;obtain⟨ok2,_,h10,⟨a3,c3,h9⟩,_⟩:=poolA_rd hinv;dsimp only at h10 h9;cases j with
  | zero=>
    have hz:cm=c:=htr;subst hz
    have zp:wr.frozen? ⟨p,9,none⟩=false:=by
     obtain⟨_,cv,lv,fb,av,hA⟩:=poolA_iff.1 hinv;unfold PoolAt at hA;rw [Pr.star_assoc] at hA;exact frozen_of_heap hA.pts_heap 9
    have hcap:s.acts.length≤c3:=by
     obtain⟨_,cv,lv,fb,av,hA⟩:=poolA_iff.1 hinv;exact cap_of (s:= { s with counts:=cm }) hA h9
    have HI:=hQ hinv;clear hinv htr ok2;go_wp2;refine wS 57 [0,1,2,3,4,5,6,7,8,9,10,11,12,13] [(14,[],[12])] ?_;have hw:IntKind.i64.wrap (s.floor+(m:Int)-s.floor)=(m:Int):=by rw [show s.floor+(m:Int)-s.floor=(m:Int) by omega,IntKind.wrap_i64];omega
    have hcond:(0:Int)≤(m:Int)∧(m:Int)≤(c3:Int):=by omega
    iterate 14 (refine wpQ_step rfl rfl (fun K hK=> ?_);go_simp;(try simp only [hw]);(try rw [if_pos hcond]);refine hK _ ?_;clear hK K)
    refine wpQ_nil ?_;refine wpRest_act rfl ?_;go_wp2;refine onN_mk (wpQ_nil ⟨?_,wpRest_nil ?_⟩)
    · refine chk_cons ?_ chk_nil<;>(refine yieldF_of rfl rfl rfl rfl ?_;go_simp;try omega)
    go_wp2;go_ret;obtain⟨ok2,cv,lv,fb,av,hA⟩:=poolA_iff.1 HI.out
    have e9:wr.cell? ⟨p,9,none⟩=some av:=by
     have h9':Sat ((Pr.pts p (.cells (poolCells { s with counts:=cm } cv lv fb av) 112)).star ((ActsA p av s.acts).star ((IntsRow cv cm).star ((BoolsRow lv s.last).star ((SetOf fb fun m=>({ s with counts:=cm }:PoolS).state m=1).star F))))) wr:=hA.perm (by unfold PoolAt;ac_rfl);rw [cell_of_heap h9'.pts_heap];rfl
    rw [h9] at e9;simp only [Option.some.injEq] at e9;subst e9;exact⟨rfl,acts_cut (s:= { s with counts:=cm }) ok2 hm (hA.drew),(hst2.drew).setCell _ _⟩
  | succ j=>
    have hlt:m+j<s.acts.length:=by omega
    have etk:(s.acts.drop m).take (j+1)=(s.acts.drop m).take j++ [s.acts[m+j]]:=by
     rw [List.take_succ_eq_append_getElem (by simp;omega)];simp
    rw [etk] at htr;obtain⟨c',t1,t2,t3,t4,t5,t6⟩:=trail_snoc htr;obtain⟨ab,c4,bp,bn,bb,h0,hle,g9,gk,g1,g2,g3⟩:=poolA_act hinv (k:=m+j) hlt;dsimp only at g9 gk g1 g2 g3;have e2:({ s with counts:=c }:PoolS)=({ s with counts:=c' }:PoolS).turn s.acts[m+j].1 s.acts[m+j].2:=by rw [t6];rfl
    have hcn:=turn_count (b:=s.acts[m+j].2) (m:=s.acts[m+j].1) t2;rw [if_pos rfl] at hcn;have A:=act1_any p ({ s with counts:=c }:PoolS) s.acts[m+j].1 s.acts[m+j].2 bp bn bb h0 g1 g2 g3 F wr hle hinv (by rw [e2];exact turn_there.2 t2) (by rw [e2,hcn];omega) (by rw [e2,hcn];omega) t5
    have e3:({ s with counts:=c }:PoolS).turn s.acts[m+j].1 (-s.acts[m+j].2)= { s with counts:=c' }:=by rw [e2];exact turn_back t2
    rw [e3] at A;have HA:=hQ A;have HTR:=hQ t1;clear A e3 hcn e2 t1 t2 t3 t4 t5 t6 htr etk hinv ok2 h9 g1 g2 g3;go_wp2_with fail
    refine HA.out.mono ?_;rintro e w2 ⟨rfl,hs,hst3⟩;go_wp2;rw [show (m:Int)+((j:Int)+1)-1-1=(m:Int)+j-1 by omega];go_roundw
    case rel=>exact⟨j,c',by omega,rfl,hst2.trans hst3,HTR.out,hs⟩
    case measure=>simp [intOf];omega
end Go.Proofs.YtpfafhklppondaaGreat.F4
