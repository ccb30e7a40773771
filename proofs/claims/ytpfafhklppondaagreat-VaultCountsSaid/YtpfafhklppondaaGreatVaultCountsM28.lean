/- The document's vault in memory, and what it tells of a page; the conditions stand as hypotheses. -/
import Derived.Test.YtpfafhklppondaaGreatVaultCountsM26
import Derived.Test.YtpfafhklppondaaGreatVaultCountsM15
import Derived.Test.YtpfafhklppondaaGreatVaultCountsM22
import Derived.BigQuiet
import Derived.Test.YtpfafhklppondaaGreatVaultCountsM07
import Derived.Test.YtpfafhklppondaaGreatVaultCountsM21
import Derived.Test.YtpfafhklppondaaGreatVaultCountsM04
import Derived.Test.YtpfafhklppondaaGreatVaultCountsM01
set_option maxRecDepth 100000
set_option maxHeartbeats 16000000
namespace Go.Proofs.YtpfafhklppondaaGreat.X7
open ChangeShapes WideShapes ChangeAt RowKit Sl Cop M2 P3 X3 G4 Q2 X2 J4 L4 D5 K6 L6 P4 Q6 Y6 G5 Q7
structure RX where
 cv:Value
 lv:Value
 pv:Value
 xs:List (Value × Value)
 h:Hp
def pgCells(x:(Value × Value) × PageV):List Value:= [.int .i64 x.2.kind,.int .i64 x.2.level,x.1.1,x.1.2,.int .i64 x.2.next]
def PgRow(v:Value)(xs:List (Value × Value))(gs:List PageV):Pr:=Row 37 5 v gs.length ((xs.zip gs).flatMap pgCells)
structure PgsAt(h:Hp)(xs:List (Value × Value))(gs:List PageV):Prop where
 len:xs.length=gs.length
 at':∀i (hx:i<xs.length) (hl:i<gs.length),ItemsIn h xs[i].1 gs[i].items∧Bytes h xs[i].2 gs[i].data
structure RTail where
 av:Value
 fl:Int
 q:Bool
abbrev quietT(b:Bool):RTail:=⟨.slice none 0 0,0,b⟩
abbrev refC(refs:Int)(cv lv pv:Value)(hush:RTail):Obj:= .cells #[.int .i64 refs,cv,lv,pv,hush.av,.int .i64 hush.fl,.bool hush.q] 115
def RefAt(r:Nat)(s:PoolS)(gs:List PageV)(hush:RTail)(x:RX):Pr:=
 (Pr.pts r (refC s.refs x.cv x.lv x.pv hush)).star ((IntsRow x.cv s.counts).star ((BoolsRow x.lv s.last).star ((PgRow x.pv x.xs gs).star (Pr.own x.h))))
structure ROk(s:PoolS)(gs:List PageV)(x:RX):Prop where
 pgs:PgsAt x.h x.xs gs
 ll:s.last.length=s.counts.length
 gl:gs.length=s.counts.length
 n2:s.counts.length≤65536
 c0:∀c∈s.counts,0≤c
 fit:∀g∈gs,Fit g
def RefA(r:Nat)(s:PoolS)(gs:List PageV)(hush:RTail):Pr:=Pr.ex fun x:RX=>(Pr.pure (ROk s gs x)).star (RefAt r s gs hush x)
theorem refA_iff {r:Nat}{s:PoolS}{gs:List PageV}{hush:RTail}{F:Pr}{w:World}:Sat ((RefA r s gs hush).star F) w↔∃x,ROk s gs x∧Sat ((RefAt r s gs hush x).star F) w:=by
 unfold RefA;rw [Sat.ex];constructor
 · rintro⟨x,h⟩
   rw [Pr.star_assoc] at h;obtain⟨h1,h2⟩:=Sat.pure.1 h;exact⟨x,h1,h2⟩
 · rintro⟨x,h1,h2⟩
   refine⟨x,?_⟩;rw [Pr.star_assoc];exact Sat.pure.2 ⟨h1,h2⟩
theorem ref_rd {r:Nat}{s:PoolS}{gs:List PageV}{hush:RTail}{x:RX}{F:Pr}{w:World}(ok:ROk s gs x)(h:Sat ((RefAt r s gs hush x).star F) w):
 ∃ac cc al cl ap cp,(w.cell? ⟨r,1,none⟩=some (.slice ac s.counts.length cc)∧w.cell? ⟨r,2,none⟩=some (.slice al s.counts.length cl)∧w.cell? ⟨r,3,none⟩=some (.slice ap s.counts.length cp)∧w.cell? ⟨r,0,none⟩=some (.int .i64 s.refs))∧r<w.heap.size∧True∧
  ∀j,j<s.counts.length→(∃b,ac=some ⟨b,0,none⟩∧w.cell? ⟨b,j,none⟩=some (.int .i64 (s.counts.getD j 0)))∧(∃b,al=some ⟨b,0,none⟩∧w.cell? ⟨b,j,none⟩=some (.bool (s.last.getD j false)))∧
   ∃b g vi vd,ap=some ⟨b,0,none⟩∧gs[j]? =some g∧PageIn x.h (pageV g.kind g.level vi vd g.next) g∧
    w.cell? ⟨b,j*5,none⟩=some (.int .i64 g.kind)∧w.cell? ⟨b,j*5+1,none⟩=some (.int .i64 g.level)∧w.cell? ⟨b,j*5+2,none⟩=some vi∧w.cell? ⟨b,j*5+3,none⟩=some vd∧w.cell? ⟨b,j*5+4,none⟩=some (.int .i64 g.next):=by
 have h1:Sat ((Pr.pts r (refC s.refs x.cv x.lv x.pv hush)).star ((IntsRow x.cv s.counts).star ((BoolsRow x.lv s.last).star ((PgRow x.pv x.xs gs).star ((Pr.own x.h).star F))))) w:=h.perm (by unfold RefAt;ac_rfl);have hp:=h1.pts_heap;obtain⟨ac,cc,e1,_,r1⟩:=Row.read h1.right;obtain⟨al,cl,e2,_,r2⟩:=Row.read h1.right.right;obtain⟨ap,cp,e3,_,r3⟩:=Row.read h1.right.right.right;rw [ok.ll] at e2
 rw [ok.gl] at e3;refine⟨ac,cc,al,cl,ap,cp,⟨by rw [cell_of_heap hp, ← e1];rfl,by rw [cell_of_heap hp, ← e2];rfl,by rw [cell_of_heap hp, ← e3];rfl,by rw [cell_of_heap hp];rfl⟩,h1.lt,trivial,fun j hj=>⟨?_,?_,?_⟩⟩
 · obtain⟨b,e,hc⟩:=r1 (by omega)
   refine⟨b,e,?_⟩;rw [(hc j (by omega)).1];simp [hj]
 · obtain⟨b,e,hc⟩:=r2 (by have:=ok.ll;omega)
   refine⟨b,e,?_⟩;have hj2:j<s.last.length:=by have:=ok.ll;omega
   rw [(hc j (by omega)).1];simp [hj2]
 · have hj2:j<gs.length:=by have:=ok.gl;omega
   have hj3:j<x.xs.length:=by have:=ok.pgs.len;omega
   obtain⟨b,e,hc⟩:=r3 (by omega);have hz:j<(x.xs.zip gs).length:=by simp;omega
   have at':∀i,i<5→w.cell? ⟨b,j*5+i,none⟩=(pgCells (x.xs[j],gs[j]))[i]? :=by
    intro i hi;rw [(hc (j*5+i) (by omega)).1,flat_at pgCells 5 (fun _=>rfl) (x.xs.zip gs) j i hz hi];simp
   obtain⟨p1,p2⟩:=ok.pgs.at' j hj3 hj2;exact⟨b,gs[j],x.xs[j].1,x.xs[j].2,e,List.getElem?_eq_getElem hj2,⟨_,_,rfl,p1,p2⟩,at' 0 (by omega),at' 1 (by omega),at' 2 (by omega),at' 3 (by omega),at' 4 (by omega)⟩
theorem ris_any(r:Nat)(s:PoolS)(gs:List PageV)(hush:RTail)(n:Int)(F:Pr)(w:World)(hF:Sat ((RefA r s gs hush).star F) w):
 Calls Tryz.prog 122 #[.pointer (some ⟨r,0,none⟩),.int .i64 n] w fun e w'=>e= .returned (.bool (decide (s.there n)))∧w=w':=by
 obtain⟨x,ok,h⟩:=refA_iff.1 hF;obtain⟨ac,cc,al,cl,ap,cp,⟨q1,q2,q3,_⟩,z,_,_⟩:=ref_rd ok h
 have fin:∀(b:Bool),(b=true↔s.there n)→Ending.returned (Value.bool b)=Ending.returned (Value.bool (decide (s.there n))):=fun b e=>by
  congr 2
  rw [Bool.eq_iff_iff,e,decide_eq_true_eq]
 by_cases h1:1≤n
 · go_enter Tryz.func122,Tryz.ntmps122
   go_wp2;go_ret;refine⟨fin _ ?_,rfl⟩;simp [PoolS.there,h1]
 · go_enter Tryz.func122,Tryz.ntmps122
   go_wp2;go_ret;refine⟨fin _ ?_,rfl⟩;simp [PoolS.there];omega
theorem there_idx {s:PoolS}{n:Int}(h:s.there n):∃j:Nat,n=(j:Int)+1∧j<s.counts.length:=by
 obtain⟨h1,h2⟩:=h;exact⟨n.toNat-1,by omega,by omega⟩
theorem count_idx {s:PoolS}{j:Nat}(hj:j<s.counts.length):s.count ((j:Int)+1)=s.counts.getD j 0:=by
 have ht:s.there ((j:Int)+1):=⟨by omega,by omega⟩;unfold PoolS.count;rw [if_pos ht,show ((j:Int)+1).toNat-1=j by omega]
theorem lasts_idx {s:PoolS}(j:Nat):s.lasts ((j:Int)+1)=s.last.getD j false:=by
 unfold PoolS.lasts;rw [show ((j:Int)+1).toNat-1=j by omega]
theorem rthere_any(r:Nat)(s:PoolS)(gs:List PageV)(hush:RTail)(n:Int)(F:Pr)(w:World)(hF:Sat ((RefA r s gs hush).star F) w):
 Calls Tryz.prog 73 #[.pointer (some ⟨r,0,none⟩),.int .i64 n] w fun e w'=>e= .returned (.bool (decide (0<s.count n)))∧w=w':=by
 obtain⟨x,ok,h⟩:=refA_iff.1 hF;obtain⟨ac,cc,al,cl,ap,cp,⟨q1,q2,q3,_⟩,z,_,rd⟩:=ref_rd ok h;have IS:=hQ (ris_any r s gs hush n F w hF);by_cases ht:s.there n
 · rw [decide_eq_true ht] at IS
   obtain⟨j,rfl,hj⟩:=there_idx ht;obtain⟨⟨b,rfl,c0⟩,_,_⟩:=rd j hj;have hcnt:=count_idx hj;rw [hcnt];have hn2:=ok.n2;clear rd hF h ok ht hcnt;generalize s.counts.getD j 0=c at*;go_enter Tryz.func73,Tryz.ntmps73
   go_wp2_with fail
   refine IS.out.mono ?_;rintro e w1 ⟨rfl,rfl⟩;go_wp2;go_ret;exact⟨rfl,rfl⟩
 · rw [decide_eq_false ht] at IS
   have hcnt:s.count n=0:=by unfold PoolS.count;rw [if_neg ht]
   rw [hcnt];clear rd hF h ok;go_enter Tryz.func73,Tryz.ntmps73
   go_wp2_with fail
   refine IS.out.mono ?_;rintro e w1 ⟨rfl,rfl⟩;go_wp2;go_ret;exact⟨rfl,rfl⟩
theorem rstate_any(r:Nat)(s:PoolS)(gs:List PageV)(hush:RTail)(n:Int)(F:Pr)(w:World)(hF:Sat ((RefA r s gs hush).star F) w):
 Calls Tryz.prog 66 #[.pointer (some ⟨r,0,none⟩),.int .i64 n] w fun e w'=>e= .returned (.int .i64 (s.state n))∧w=w':=by
 obtain⟨x,ok,h⟩:=refA_iff.1 hF;obtain⟨ac,cc,al,cl,ap,cp,⟨q1,q2,q3,_⟩,z,_,rd⟩:=ref_rd ok h;have IS:=hQ (ris_any r s gs hush n F w hF);by_cases ht:s.there n
 · rw [decide_eq_true ht] at IS
   have hst:=state_there ht;obtain⟨j,rfl,hj⟩:=there_idx ht;obtain⟨⟨b,rfl,c0⟩,⟨b2,rfl,c1⟩,_⟩:=rd j hj;rw [hst,count_idx hj,lasts_idx];have hn2:=ok.n2
   have hc0:0≤s.counts.getD j 0:=by
    have:=ok.c0 s.counts[j] (List.getElem_mem hj)
    simpa [hj] using this
   clear rd hF h ok ht hst;generalize s.counts.getD j 0=c at*;generalize s.last.getD j false=l at*;cases l with
   | true=>
     by_cases hc:c=0
     · subst hc
       go_enter Tryz.func66,Tryz.ntmps66
       go_wp2_with fail
       refine IS.out.mono ?_;rintro e w1 ⟨rfl,rfl⟩;go_wp2;go_ret;exact⟨rfl,rfl⟩
     · have hb:(c == 0)=false:=by rw [beq_eq_false_iff_ne];exact hc
       have hp:0<c:=by omega
       have e:stateOf c true=4:=by simp [stateOf,hp]
       rw [e];go_enter Tryz.func66,Tryz.ntmps66
       go_wp2_with fail
       refine IS.out.mono ?_;rintro e w1 ⟨rfl,rfl⟩;go_wp2;go_ret;exact⟨rfl,rfl⟩
   | false=>
     by_cases hc:c=0
     · subst hc
       go_enter Tryz.func66,Tryz.ntmps66
       go_wp2_with fail
       refine IS.out.mono ?_;rintro e w1 ⟨rfl,rfl⟩;go_wp2;go_ret;exact⟨rfl,rfl⟩
     · have hb:(c == 0)=false:=by rw [beq_eq_false_iff_ne];exact hc
       have hp:0<c:=by omega
       have e:stateOf c false=3:=by simp [stateOf,hp]
       rw [e];go_enter Tryz.func66,Tryz.ntmps66
       go_wp2_with fail
       refine IS.out.mono ?_;rintro e w1 ⟨rfl,rfl⟩;go_wp2;go_ret;exact⟨rfl,rfl⟩
 · rw [decide_eq_false ht] at IS
   have hcnt:s.state n=0:=by unfold PoolS.state;rw [if_neg ht]
   rw [hcnt];clear rd hF h ok;go_enter Tryz.func66,Tryz.ntmps66
   go_wp2_with fail
   refine IS.out.mono ?_;rintro e w1 ⟨rfl,rfl⟩;go_wp2;go_ret;exact⟨rfl,rfl⟩
end Go.Proofs.YtpfafhklppondaaGreat.X7
namespace Go.Proofs.YtpfafhklppondaaGreat.Z7
open ChangeShapes WideShapes ChangeAt RowKit Sl Cop M2 P3 X3 G4 Q2 X2 J4 L4 V4 Y4 B5 D5 E5 K5 K6 L6 P4 Q6 Y6 G5 Q7 X7
theorem fit_keys {g:PageV}(h:Fit g):∀y∈g.items,y.key.length≤65536∧y.value.length≤65536:=fun y hy=>by have:=h.k y hy;omega
theorem read_some(v:Nat)(s:VaultS)(n:Int)(hn:1≤n∧n≤65536)(g:PageV)(hfit:Fit g)(F:Pr)(w:World)(hF:Sat ((VaultA v s).star F) w)(h0:s.pool.count n≠0)(hon:s.on n=some g):
 Calls Tryz.prog 38 #[.pointer (some ⟨v,0,none⟩),.int .i64 n] w fun e w'=>
  Stays w w'∧∃pv,e= .returned (.tuple #[pv,.int .i64 0])∧∃h',PageIn h' pv g∧Sat ((Pr.own h').star ((VaultA v s).star F)) w':=by
 obtain⟨x,ok,hF⟩:=vaultA_iff.1 hF;have ho:Only w (w.alloc (pageC 0 0 (.slice none 0 0) (.slice none 0 0) 0)):=(Only.refl w).alloc _
 have h1:Sat ((PoolA x.p s.pool).star ((Pr.pts v (.cells #[.pointer (some ⟨x.p,0,none⟩),.map (some x.mb),x.av,.int .i64 s.floor] 62)).star
  ((((MapA Tryz.prog 3 x.mb x.f).star ((Row 153 2 x.av s.acts.length (actCells x.axs)).star (Pr.own x.h)))).star F))) w:=hF.perm (by unfold VaultAt;ac_rfl)
 have qv:w.cell? ⟨v,0,none⟩=some (.pointer (some ⟨x.p,0,none⟩)):=by rw [cell_of_heap h1.right.pts_heap];rfl
 have qm:w.cell? ⟨v,1,none⟩=some (.map (some x.mb)):=by rw [cell_of_heap h1.right.pts_heap];rfl
 have zv:=h1.right.lt;have C:=hQ (count_A x.p s.pool n _ _ (h1.only ho));have hm:=(h1.only ho).perm (B:=(MapA Tryz.prog 3 x.mb x.f).star ((PoolA x.p s.pool).star ((Pr.pts v (.cells #[.pointer (some ⟨x.p,0,none⟩),.map (some x.mb),x.av,.int .i64 s.floor] 62)).star ((Row 153 2 x.av s.acts.length (actCells x.axs)).star ((Pr.own x.h).star F))))) (by ac_rfl);have hO:=ok.on n;rw [hon] at hO
 obtain⟨pv,hf,hpv⟩:=hO;have hne:(s.pool.count n == 0)=false:=by rw [beq_eq_false_iff_ne];exact h0
 have h2:=(hF.alloc (pageC 0 0 (.slice none 0 0) (.slice none 0 0) 0)).perm (B:=(Pr.own x.h).star ((Pr.pts w.heap.size (pageC 0 0 (.slice none 0 0) (.slice none 0 0) 0)).star ((Pr.pts v (.cells #[.pointer (some ⟨x.p,0,none⟩),.map (some x.mb),x.av,.int .i64 s.floor] 62)).star ((PoolA x.p s.pool).star ((MapA Tryz.prog 3 x.mb x.f).star ((Row 153 2 x.av s.acts.length (actCells x.axs)).star F)))))) (by unfold VaultAt;ac_rfl)
 have D:=hQ (copied_any x.h pv g hpv (by have:=hfit.n;omega) (fit_keys hfit) (by have:=hfit.d;omega) _ _ h2);have HM:=hQ hm;have HO:=hQ ho;have OK:=hQ ok;have HFN:=hQ hf;clear h1 hF ok ho hm hf hpv h2;go_enter Tryz.func38,Tryz.ntmps38
 go_wp2_with fail
 refine C.out.mono ?_;rintro e w1 ⟨rfl,rfl⟩;generalize s.pool.count n=k at*;go_wp2_with (at_lookup;refine wpList_look rfl _ _ _ false rfl Tryz.underlying3 Tryz.underlying59 zeroPage (zero_page _) n hn rfl rfl HM.out ?_;rw [HFN.out])
 refine D.out.mono ?_;rintro e w1 ⟨pv2,h',rfl,hp',h3,hst⟩;obtain⟨pk,pl,ai,mi,ci,ad,md,cd,nx,rfl⟩:=page_shape hp';have h4:=h3.perm (B:=(Pr.pts w.heap.size (pageC 0 0 (.slice none 0 0) (.slice none 0 0) 0)).star ((Pr.own h').star ((VaultAt v s x).star F))) (by unfold VaultAt;ac_rfl);obtain⟨f0,f1,f2,f3,f4,⟨z0,z1,z2,z3,z4⟩,zz⟩:=pts5 h4
 have s6:=((((h4.setCell (i:=0) (.int .i64 pk)).setCell (i:=1) (.int .i64 pl)).setCell (i:=2) (.slice ai mi ci)).setCell (i:=3) (.slice ad md cd)).setCell (i:=4) (.int .i64 nx);have s7:Sat ((Pr.pts w.heap.size (pageC pk pl (.slice ai mi ci) (.slice ad md cd) nx)).star ((Pr.own h').star ((VaultAt v s x).star F))) _:=s6;have S7:=hQ s7;have HST:=hQ (HO.out.st.trans hst);have HP:=hQ hp'
 clear h3 h4 s6 s7 hst hp' C D HM HFN;go_wp2;refine bodyPost_ret (results_cell_row_tmp rfl _ _ w.heap.size _ rfl (run_loadVar_row _ w.heap.size _ _ _ _ _ S7.out.pts_heap Tryz.underlying37 rfl infoPage)) rfl ?_;exact⟨((((HST.out.setCell _ _).setCell _ _).setCell _ _).setCell _ _).setCell _ _,_,rfl,h',HP.out,(vaultA_iff.2 ⟨x,OK.out,S7.out.right.perm (Pr.left_comm _ _ _)⟩).perm (Pr.left_comm _ _ _)⟩
def pgAt(gs:List PageV)(n:Int):PageV:=gs.getD (n.toNat-1) zeroP
theorem rread_none(r:Nat)(s:PoolS)(gs:List PageV)(hush:RTail)(n:Int)(F:Pr)(w:World)(hF:Sat ((RefA r s gs hush).star F) w)(h0:s.count n=0):
 Calls Tryz.prog 65 #[.pointer (some ⟨r,0,none⟩),.int .i64 n] w fun e w'=>e= .returned (.tuple #[zeroPage,.int .i64 15])∧Only w w':=by
 have ho:Only w (w.alloc (pageC 0 0 (.slice none 0 0) (.slice none 0 0) 0)):=(Only.refl w).alloc _;have hh:=heap_new w (pageC 0 0 (.slice none 0 0) (.slice none 0 0) 0);have C:=hQ (rthere_any r s gs hush n _ _ (hF.only ho));rw [h0] at C;have HH:=hQ hh;have HO:=hQ ho;clear hF hh ho;go_enter Tryz.func65,Tryz.ntmps65
 go_wp2_with fail
 refine C.out.mono ?_;rintro e w1 ⟨rfl,rfl⟩;go_wp2;refine bodyPost_ret (results_cell_row_tmp rfl _ _ w.heap.size _ rfl (run_loadVar_row _ w.heap.size _ _ _ _ _ HH.out Tryz.underlying37 rfl infoPage)) rfl ?_;exact⟨rfl,HO.out⟩
theorem copyints_any(h:Hp)(v:Value)(l:List Int)(F:Pr)(w:World)(hF:Sat ((Pr.own h).star F) w)(hx:Ints h v l)(hn:l.length≤65536):
 Calls Tryz.prog 62 #[v] w fun e w'=> ∃v',e= .returned v'∧Sat ((IntsRow v' l).star ((Pr.own h).star F)) w'∧Stays w w':=by
 obtain⟨a,c,rfl,r1⟩:=ints_rd hx;obtain⟨i0,hi,hz0,hz1,hz2⟩:=info_parts infoInt
 have hmk:∀wx:World,(Instr.makeSlice 29 (.int .i64 0) (.int .i64 (l.length:Int))).run Tryz.prog wx= .ok (.slice (some ⟨wx.heap.size,0,none⟩) 0 l.length) (wx.alloc (.cells (madeCells #[.int .i64 0] l.length) 3)):=by
  intro wx;have:=run_make (P:=Tryz.prog) wx 29 3 i0 (.int .i64 0) Tryz.underlying29 hi hz0 .i64 .i64 0 l.length (by omega) (by omega) (by rw [hz2];omega) (by omega)
  rw [hz1,Int.toNat_natCast,Nat.mul_one] at this;exact this
 have h2:=hQ (row_room 3 (.int .i64 0) l.length (by simp only [maxLen];omega) hF);have R1:=hQ r1;clear hF hx r1;go_enter Tryz.func62,Tryz.ntmps62
 go_wp2;go_loopw [3,4] (fun o i wr=> ∃k:Nat,k≤l.length∧i= .int .i64 k∧Stays w wr∧Sat ((IntsRow o (l.take k)).star ((Pr.own h).star F)) wr) (fun _ i _=>l.length-(intOf i).toNat)
 case atStart=>exact⟨0,Nat.zero_le _,rfl,(Stays.refl w).alloc _,h2.out⟩
 case round=>
  obtain⟨k,hk,rfl,hst,hs⟩:=hrel;have hlt':(l.take k).length=k:=by rw [List.length_take];omega
  obtain⟨ao,co,eo,_,_⟩:=Row.read hs;rw [hlt'] at eo;subst eo;rcases Nat.lt_or_ge k l.length with hlt | hge
  · obtain⟨b,off,rfl,c1⟩:=R1.out k hlt
    have q1:=c1 wr hs.right.own
    have hs1:Sat ((Row 3 1 (.slice ao k co) k ((l.take k).map (Value.int .i64))).star ((Pr.own h).star F)) wr:=by
     have:=hs
     unfold IntsRow at this;rw [hlt'] at this;exact this
    have H1:=hQ (hs1.alloc (.cells #[.int .i64 (l.getD k 0)] 3)).right;have hnew:=hQ (new_cells wr [.int .i64 (l.getD k 0)] 3 _ rfl);have HT:=hQ (show l.take (k+1)=l.take k++ [l.getD k 0] by rw [List.take_succ_eq_append_getElem hlt];simp [hlt]);have zb:=World.block_lt_of_cell? _ _ q1;clear hs hs1 c1;generalize l.getD k 0=x at*
    go_wp2_with (at_builtin;refine wpList_append_sl rfl _ _ _ rfl 3 i0 (.int .i64 0) 1 8 Tryz.underlying29 hi hz0 hz1 hz2 rfl _ _ _ rfl H1.out ⟨wr.heap.size,0,none⟩ 1 1 [.int .i64 x] rfl rfl hnew.out (by simp [Value.oneCell']) (by simp only [maxLen];omega) (by omega) ?_;intro v7 w4 hs4 hg4 _;obtain⟨a7',c7',e7',_,_⟩:=Row.read hs4;subst e7';have HS4:=hQ hs4;have HG4:=hQ hg4;clear hs4 hg4)
    refine⟨⟨k+1,by omega,congrArg (Value.int .i64) (by omega),(hst.alloc _).of_grown HG4.out,?_⟩,by simp [intOf];omega⟩;have hl2:(l.take (k+1)).length=k+1:=by rw [List.length_take];omega
    unfold IntsRow;rw [hl2,HT.out,List.map_append];exact HS4.out
  · have hkl:k=l.length:=by omega
    subst hkl;have HS:=hQ hs;clear hs;go_wp2;go_ret;refine⟨_,rfl,?_,hst⟩;have:=HS.out
    rw [List.take_length] at this;exact this
end Go.Proofs.YtpfafhklppondaaGreat.Z7
namespace Go.Proofs.YtpfafhklppondaaGreat.B8
open ChangeShapes WideShapes ChangeAt RowKit Sl Cop M2 P3 X3 G4 Q2 X2 J4 L4 V4 D5 K5 P4 Q6 Q7 Z7
structure Looks(s:VaultS)(look:Int→Option PageV):Prop where
 none:∀n,look n=none→s.pool.count n=0
 some:∀n g,look n=some g→(1≤n∧n≤65536)∧s.pool.count n≠0∧s.on n=some g∧Fit g
def lenV:Value→Nat
 | .slice _ n _=>n
 | _=>0
end Go.Proofs.YtpfafhklppondaaGreat.B8
namespace Go.Proofs.YtpfafhklppondaaGreat.C8
open ChangeShapes WideShapes ChangeAt RowKit Sl Cop M2 P3 X3 G4 Q2 X2 J4 L4 V4 D5 K6 L6 P4 Q6 Y6 M6 G5 Q7 X7 Z7
theorem infoPageF:(Tryz.prog.info? 37).map (fun i=>(i.zero,i.size,i.bytes))=some (some (.agg #[.int .i64 0,.int .i64 0,.slice none 0 0,.slice none 0 0,.int .i64 0]),5,72):=by kernel_rfl
theorem refsAre_any(r:Int)(w:World):Calls Tryz.prog 110 #[.int .i64 r] w fun e w'=>e= .returned (.bool (decide (2≤r∧r<65536)))∧w=w':=by
 by_cases h1:2≤r
 · go_enter Tryz.func110,Tryz.ntmps110
   go_wp2;go_ret;simp [h1]
 · go_enter Tryz.func110,Tryz.ntmps110
   go_wp2;go_ret;simp;omega
theorem rep_snoc {α:Type}(a:α)(k:Nat):List.replicate k a++ [a]=List.replicate (k+1) a:=by
 rw [List.replicate_succ']
abbrev nilP:Value × Value:=(.slice none 0 0,.slice none 0 0)
theorem zip_rep {α β:Type}(a:α)(b:β)(k:Nat):(List.replicate k a).zip (List.replicate k b)=List.replicate k (a,b):=by
 induction k with
 | zero=>rfl
 | succ k ih=>simp [List.replicate_succ,ih]
theorem pg_snoc(k:Nat):((List.replicate k nilP).zip (List.replicate k zeroP)).flatMap pgCells++ [.int .i64 0,.int .i64 0,.slice none 0 0,.slice none 0 0,.int .i64 0]=((List.replicate (k+1) nilP).zip (List.replicate (k+1) zeroP)).flatMap pgCells:=by
 rw [zip_rep,zip_rep,List.replicate_succ',List.flatMap_append];simp [pgCells]
def NewAt(r:Nat)(refs:Int)(cv lv pv:Value)(a b c:Nat):Pr:=
 (Pr.pts r (refC refs cv lv pv (quietT false))).star ((Row 3 1 cv a (List.replicate a (.int .i64 0))).star ((Row 4 1 lv b (List.replicate b (.bool false))).star (Row 37 5 pv c (((List.replicate c nilP).zip (List.replicate c zeroP)).flatMap pgCells))))
theorem pts7 {b T:Nat}{v0 v1 v2 v3 v4 v5 v6:Value}{F:Pr}{w:World}(h:Sat ((Pr.pts b (.cells #[v0,v1,v2,v3,v4,v5,v6] T)).star F) w):
 w.cell? ⟨b,1,none⟩=some v1∧w.cell? ⟨b,2,none⟩=some v2∧w.cell? ⟨b,3,none⟩=some v3∧(w.frozen? ⟨b,1,none⟩=false∧w.frozen? ⟨b,2,none⟩=false∧w.frozen? ⟨b,3,none⟩=false)∧b<w.heap.size∧w.cell? ⟨b,0,none⟩=some v0:=by
 have h1:=h.pts_heap;exact⟨by rw [cell_of_heap h1];rfl,by rw [cell_of_heap h1];rfl,by rw [cell_of_heap h1];rfl,⟨frozen_of_heap h1 1,frozen_of_heap h1 2,frozen_of_heap h1 3⟩,h.lt,by rw [cell_of_heap h1];rfl⟩
abbrev poolN(refs:Int)(n:Nat):PoolS:= { refs:=refs,counts:=List.replicate n 0,last:=List.replicate n false,acts:= [],floor:=0 }
theorem rnew_any(n:Nat)(refs:Int)(h:rangeOk n refs=true)(F:Pr)(w:World)(hF:Sat F w):
 Calls Tryz.prog 51 #[.int .i64 n,.int .i64 refs] w fun e w'=>Stays w w'∧
  ∃r,e= .returned (.tuple #[.pointer (some ⟨r,0,none⟩),.int .i64 0])∧Sat ((RefA r (poolN refs n) (List.replicate n zeroP) (quietT false)).star F) w':=by
 obtain⟨n1,n2,n3,n4⟩:=rangeOk_iff.1 h;have hn:n≤65536:=by omega
 have RA:=hQ (refsAre_any refs w);rw [decide_eq_true (show 2≤refs∧refs<65536 by omega)] at RA;have h1:=hF.alloc (refC refs (.slice none 0 0) (.slice none 0 0) (.slice none 0 0) (quietT false));have H1:=hQ h1;obtain⟨i0,hi,hz0,hz1,hz2⟩:=info_parts infoInt;obtain⟨j0,hj,hy0,hy1,hy2⟩:=info_parts infoBool;obtain⟨k0,hk,hx0,hx1,hx2⟩:=info_parts infoPageF;clear h1 hF h n3 n4
 go_enter Tryz.func51,Tryz.ntmps51
 go_wp2_with fail
 refine RA.out.mono ?_;rintro e w1 ⟨rfl,rfl⟩;go_wp2_with fail
 go_loopw [7] (fun i wr=> ∃(k:Nat) (cv lv pv:Value),k≤n∧i= .int .i64 k∧Stays w wr∧Sat ((NewAt w.heap.size refs cv lv pv k k k).star F) wr) (fun i _=>n-(intOf i).toNat)
 case atStart=>
  refine⟨0,.slice none 0 0,.slice none 0 0,.slice none 0 0,Nat.zero_le _,rfl,(Stays.refl w).alloc _,?_⟩;unfold NewAt;show Sat (((Pr.pts w.heap.size _).star ((Row _ 1 (.slice none 0 0) 0 []).star ((Row _ 1 (.slice none 0 0) 0 []).star (Row _ 5 (.slice none 0 0) 0 [])))).star F) _
  rw [Row.nil,Row.nil,Row.nil,Pr.emp_star,Pr.star_emp,Pr.star_emp];exact H1.out
 case round=>
  obtain⟨k,cv,lv,pv,hkn,rfl,hst,hs⟩:=hrel;rcases Nat.lt_or_ge k n with hlt | hge
  · have e1:Sat ((Row 3 1 cv k (List.replicate k (.int .i64 0))).star ((Pr.pts w.heap.size (refC refs cv lv pv (quietT false))).star ((Row 4 1 lv k (List.replicate k (.bool false))).star ((Row 37 5 pv k (((List.replicate k nilP).zip (List.replicate k zeroP)).flatMap pgCells)).star F)))) wr:=hs.perm (by unfold NewAt;ac_rfl)
    obtain⟨a1,c1,rfl,_,_⟩:=Row.read e1;obtain⟨a2,c2,rfl,_,_⟩:=Row.read e1.right.right;obtain⟨a3,c3,rfl,_,_⟩:=Row.read e1.right.right.right;obtain⟨q1,q2,q3,⟨f1,f2,f3⟩,z,_⟩:=pts7 e1.right;have A1:=hQ (e1.alloc (.cells #[.int .i64 0] 3)).right;have hnew:=hQ (new_cells wr [.int .i64 0] 3 _ rfl);have HST:=hQ hst;clear hs e1 hst
    go_wp2_with (first
     | (at_builtin
        refine wpList_append_sl rfl _ _ _ rfl 3 i0 (.int .i64 0) 1 8 Tryz.underlying29 hi hz0 hz1 hz2 rfl _ _ _ rfl A1.out ⟨wr.heap.size,0,none⟩ 1 1 [.int .i64 0] rfl rfl hnew.out (by simp [Value.oneCell']) (by simp only [maxLen];omega) (by omega) ?_
        intro v4 w4 hs4 hg4 _
        obtain⟨a4,c4,e4,_,_⟩:=Row.read hs4
        subst e4
        obtain⟨q1,q2,q3,⟨f1,f2,f3⟩,z4⟩:=pts7 hs4.right
        have s4:=(hs4.perm (Pr.left_comm _ _ _)).setCell (i:=1) (.slice a4 (k+1) c4)
        have B1:Sat ((Row 4 1 (.slice a2 k c2) k (List.replicate k (.bool false))).star ((Pr.pts w.heap.size (refC refs (.slice a4 (k+1) c4) (.slice a2 k c2) (.slice a3 k c3) (quietT false))).star ((Row 3 1 (.slice a4 (k+1) c4) (k+1) (List.replicate k (.int .i64 0)++ [.int .i64 0])).star ((Row 37 5 (.slice a3 k c3) k (((List.replicate k nilP).zip (List.replicate k zeroP)).flatMap pgCells)).star F)))) (w4.setCell ⟨w.heap.size,1,none⟩ (.slice a4 (k+1) c4)):=s4.perm (by rw [Pr.left_comm];ac_rfl)
        have A2:=hQ (B1.alloc (.cells #[.bool false] 4)).right
        have hnew2:=hQ (new_cells (w4.setCell ⟨w.heap.size,1,none⟩ (.slice a4 (k+1) c4)) [.bool false] 4 w4.heap.size (by simp [World.setCell]))
        have HST4:=hQ (((HST.out.alloc _).of_grown hg4).setCell ⟨w.heap.size,1,none⟩ (.slice a4 (k+1) c4))
        clear hs4 hg4 s4 B1)
     | (at_builtin
        refine wpList_append_sl rfl _ _ _ rfl 4 j0 (.bool false) 1 1 Tryz.underlying107 hj hy0 hy1 hy2 rfl _ _ _ rfl A2.out ⟨w4.heap.size,0,none⟩ 1 1 [.bool false] rfl rfl hnew2.out (by simp [Value.oneCell']) (by simp only [maxLen];omega) (by omega) ?_
        intro v5 w5 hs5 hg5 _
        obtain⟨a5,c5,e5,_,_⟩:=Row.read hs5
        subst e5
        obtain⟨q1,q2,q3,⟨f1,f2,f3⟩,z5⟩:=pts7 hs5.right
        have s5:=(hs5.perm (Pr.left_comm _ _ _)).setCell (i:=2) (.slice a5 (k+1) c5)
        have B2:Sat ((Row 37 5 (.slice a3 k c3) k (((List.replicate k nilP).zip (List.replicate k zeroP)).flatMap pgCells)).star ((Pr.pts w.heap.size (refC refs (.slice a4 (k+1) c4) (.slice a5 (k+1) c5) (.slice a3 k c3) (quietT false))).star ((Row 3 1 (.slice a4 (k+1) c4) (k+1) (List.replicate k (.int .i64 0)++ [.int .i64 0])).star ((Row 4 1 (.slice a5 (k+1) c5) (k+1) (List.replicate k (.bool false)++ [.bool false])).star F)))) (w5.setCell ⟨w.heap.size,2,none⟩ (.slice a5 (k+1) c5)):=(show Sat ((Pr.pts w.heap.size (refC refs (.slice a4 (k+1) c4) (.slice a5 (k+1) c5) (.slice a3 k c3) (quietT false))).star ((Row 4 1 (.slice a5 (k+1) c5) (k+1) (List.replicate k (.bool false)++ [.bool false])).star ((Row 3 1 (.slice a4 (k+1) c4) (k+1) (List.replicate k (.int .i64 0)++ [.int .i64 0])).star ((Row 37 5 (.slice a3 k c3) k (((List.replicate k nilP).zip (List.replicate k zeroP)).flatMap pgCells)).star F)))) _ from s5).perm (by ac_rfl)
        have A3:=hQ (B2.alloc (.cells [.int .i64 0,.int .i64 0,.slice none 0 0,.slice none 0 0,.int .i64 0].toArray 37)).right
        have hnew3:=hQ (new_cells (w5.setCell ⟨w.heap.size,2,none⟩ (.slice a5 (k+1) c5)) [.int .i64 0,.int .i64 0,.slice none 0 0,.slice none 0 0,.int .i64 0] 37 w5.heap.size (by simp [World.setCell]))
        have HST5:=hQ (((HST4.out.alloc (.cells #[.bool false] 4)).of_grown hg5).setCell ⟨w.heap.size,2,none⟩ (.slice a5 (k+1) c5))
        clear hs5 hg5 s5 B2 A2)
     | (at_builtin
        refine wpList_append_sl rfl _ _ _ rfl 37 k0 (.agg #[.int .i64 0,.int .i64 0,.slice none 0 0,.slice none 0 0,.int .i64 0]) 5 72 Tryz.underlying77 hk hx0 hx1 hx2 rfl _ _ _ rfl A3.out ⟨w5.heap.size,0,none⟩ 1 1 [.int .i64 0,.int .i64 0,.slice none 0 0,.slice none 0 0,.int .i64 0] rfl rfl hnew3.out (by simp [Value.oneCell']) (by simp only [maxLen];omega) (by omega) ?_
        intro v6 w6 hs6 hg6 _
        obtain⟨a6,c6,e6,_,_⟩:=Row.read hs6
        subst e6
        obtain⟨q1,q2,q3,⟨f1,f2,f3⟩,z6⟩:=pts7 hs6.right
        have HST6:=hQ ((HST5.out.alloc (.cells [.int .i64 0,.int .i64 0,.slice none 0 0,.slice none 0 0,.int .i64 0].toArray 37)).of_grown hg6)
        have HS6:=hQ hs6
        clear hs6 hg6 A3))
    go_roundw
    case rel=>
     have s7:=(HS6.out.perm (Pr.left_comm _ _ _)).setCell (i:=3) (.slice a6 (k+1) c6);refine⟨k+1,.slice a4 (k+1) c4,.slice a5 (k+1) c5,.slice a6 (k+1) c6,by omega,congrArg (Value.int .i64) (by omega),HST6.out.setCell _ _,?_⟩;unfold NewAt;rw [← rep_snoc, ← rep_snoc, ← pg_snoc]
     exact(show Sat ((Pr.pts w.heap.size (refC refs (.slice a4 (k+1) c4) (.slice a5 (k+1) c5) (.slice a6 (k+1) c6) (quietT false))).star ((Row 37 5 (.slice a6 (k+1) c6) (k+1) (((List.replicate k nilP).zip (List.replicate k zeroP)).flatMap pgCells++ [.int .i64 0,.int .i64 0,.slice none 0 0,.slice none 0 0,.int .i64 0])).star ((Row 3 1 (.slice a4 (k+1) c4) (k+1) (List.replicate k (.int .i64 0)++ [.int .i64 0])).star ((Row 4 1 (.slice a5 (k+1) c5) (k+1) (List.replicate k (.bool false)++ [.bool false])).star F)))) _ from s7).perm (by ac_rfl)
    case measure=>simp [intOf];omega
  · have hkn2:k=n:=by omega
    subst hkn2;have HS:=hQ hs;clear hs;go_wp2;go_ret2;refine⟨hst,w.heap.size,rfl,refA_iff.2 ⟨⟨cv,lv,pv,List.replicate k nilP,Hp.nil⟩,?_,?_⟩⟩
    · refine⟨⟨by simp,fun i hx hl=> ?_⟩,by simp,by simp,by simpa using hn,fun c hc=> ?_,fun g hg=> ?_⟩
      · simp only [List.getElem_replicate]
        exact⟨items_mk (Nat.zero_le _),RowIn.nil _ _⟩
      · rw [List.eq_of_mem_replicate hc];exact Int.le_refl _
      · rw [List.eq_of_mem_replicate hg]
        exact⟨by simp,by simp,fun x hx=>by cases hx⟩
    · refine HS.out.perm ?_
      unfold NewAt RefAt PgRow IntsRow BoolsRow;rw [own_nil,Pr.star_emp];simp only [List.length_replicate,List.map_replicate]
end Go.Proofs.YtpfafhklppondaaGreat.C8
namespace Go.Proofs.YtpfafhklppondaaGreat.E8
open ChangeShapes WideShapes ChangeAt RowKit Sl Cop M2 P3 X3 G4 Q2 X2 J4 L4 D5 K6 P4 Q6 Y6 Q7 X7 Z7 C8
theorem row_room5 {F:Pr}{w:World}(T:Nat)(z:Array Value)(n:Nat)(hn:n≤maxLen)(h:Sat F w):
 Sat ((Row T 5 (.slice (some ⟨w.heap.size,0,none⟩) 0 n) 0 []).star F) (w.alloc (.cells (madeCells z (n*5)) T)):=by
 have h1:=h.alloc (.cells (madeCells z (n*5)) T);refine Row.mk' (xs:= []) (sp:=(madeCells z (n*5)).toList) (by simp) (by simp [size_madeCells]) (Nat.zero_le _) hn ?_;rw [List.nil_append,Array.toArray_toList];exact h1
theorem copypages_any(a:Hp)(v:Value)(h:Hp)(xs:List (Value × Value))(gs:List PageV)(hp:PgsAt h xs gs)(hx:RowIn a 5 v gs.length ((xs.zip gs).flatMap pgCells))(hn:gs.length≤65536)(F:Pr)(w:World)(hF:Sat ((Pr.own a).star F) w):
 Calls Tryz.prog 111 #[v] w fun e w'=> ∃v',e= .returned v'∧Sat ((PgRow v' xs gs).star ((Pr.own a).star F)) w'∧Stays w w':=by
 obtain⟨hlen,ad,cd,rfl,_,_,hc⟩:=id hx;obtain⟨i0,hi,hz0,hz1,hz2⟩:=info_parts infoPageF
 have hmk:∀wx:World,(Instr.makeSlice 77 (.int .i64 0) (.int .i64 (gs.length:Int))).run Tryz.prog wx= .ok (.slice (some ⟨wx.heap.size,0,none⟩) 0 gs.length) (wx.alloc (.cells (madeCells #[.int .i64 0,.int .i64 0,.slice none 0 0,.slice none 0 0,.int .i64 0] (gs.length*5)) 37)):=by
  intro wx;have:=run_make (P:=Tryz.prog) wx 77 37 i0 (.agg #[.int .i64 0,.int .i64 0,.slice none 0 0,.slice none 0 0,.int .i64 0]) Tryz.underlying77 hi hz0 .i64 .i64 0 gs.length (by omega) (by omega) (by rw [hz2];omega) (by omega)
  rw [hz1,Int.toNat_natCast] at this;exact this
 have h2:=hQ (row_room5 37 #[.int .i64 0,.int .i64 0,.slice none 0 0,.slice none 0 0,.int .i64 0] gs.length (by simp only [maxLen];omega) hF);have HC:=hQ hc;have HP:=hQ hp;have hnn:(gs.length:Int)≤65536:=by omega
 clear hF hx hc hp hlen;go_enter Tryz.func111,Tryz.ntmps111
 go_wp2;go_loopw [3,4] (fun o i wr=> ∃k:Nat,k≤gs.length∧i= .int .i64 k∧Stays w wr∧Sat ((Row 37 5 o k (((xs.zip gs).take k).flatMap pgCells)).star ((Pr.own a).star F)) wr) (fun _ i _=>gs.length-(intOf i).toNat)
 case atStart=>exact⟨0,Nat.zero_le _,rfl,(Stays.refl w).alloc _,h2.out⟩
 case round=>
  obtain⟨k,hk,rfl,hst,hs⟩:=hrel;obtain⟨ao,co,rfl,_,_⟩:=Row.read hs;rcases Nat.lt_or_ge k gs.length with hlt | hge
  · obtain⟨b,off,rfl,hcell⟩:=HC.out (by omega)
    have hkx:k<xs.length:=by have:=HP.out.len;omega
    have hz:k<(xs.zip gs).length:=by simp;omega
    have hle:=hs.right.own
    have at':∀j v,(pgCells (xs[k],gs[k]))[j]? =some v→j<5→wr.cell? ⟨b,off+k*5+j,none⟩=some v:=by
     intro j v hv hj;have h3:=hcell (k*5+j) (by omega);have h4:=flat_at pgCells 5 (fun _=>rfl) (xs.zip gs) k j hz hj;rw [show (xs.zip gs)[k]=(xs[k],gs[k]) by simp,hv] at h4;rw [Nat.add_assoc];exact Hp.cell_le hle (h3.trans h4)
    obtain⟨y1,y2⟩:=HP.out.at' k hkx hlt;obtain⟨a1,d1,e1,_,_⟩:=items_rd y1;obtain⟨a2,d2,e2⟩:=bytes_shape y2;have c0:=at' 0 _ rfl (by omega);have c1:=at' 1 _ rfl (by omega);have c2:=at' 2 _ rfl (by omega);have c3:=at' 3 _ rfl (by omega);have c4:=at' 4 _ rfl (by omega)
    have HT:=hQ (show ((xs.zip gs).take (k+1)).flatMap pgCells=((xs.zip gs).take k).flatMap pgCells++ [.int .i64 gs[k].kind,.int .i64 gs[k].level,xs[k].1,xs[k].2,.int .i64 gs[k].next] by
     rw [List.take_succ_eq_append_getElem hz,List.flatMap_append]
     simp [pgCells])
    dsimp only at c2 c3;rw [e1] at c2;rw [e2] at c3;rw [e1,e2] at HT;rw [Nat.add_zero] at c0;generalize gs[k]=g at*;have H1:=hQ (hs.alloc (.cells [.int .i64 g.kind,.int .i64 g.level,.slice a1 g.items.length d1,.slice a2 g.data.length d2,.int .i64 g.next].toArray 37)).right
    have hnew:=hQ (new_cells wr [.int .i64 g.kind,.int .i64 g.level,.slice a1 g.items.length d1,.slice a2 g.data.length d2,.int .i64 g.next] 37 _ rfl);have zb:=World.block_lt_of_cell? _ _ c0;have HST:=hQ hst;clear hs hcell hle at' y1 y2 e1 e2 hst hz
    go_wp2_with (
     at_builtin
     refine wpList_append_sl rfl _ _ _ rfl 37 i0 (.agg #[.int .i64 0,.int .i64 0,.slice none 0 0,.slice none 0 0,.int .i64 0]) 5 72 Tryz.underlying77 hi hz0 hz1 hz2 rfl _ _ _ rfl H1.out ⟨wr.heap.size,0,none⟩ 1 1 [.int .i64 g.kind,.int .i64 g.level,.slice a1 g.items.length d1,.slice a2 g.data.length d2,.int .i64 g.next] rfl rfl hnew.out (by simp [Value.oneCell']) (by simp only [maxLen];omega) (by omega) ?_
     intro v7 w4 hs4 hg4 _
     obtain⟨a7',c7',e7',_,_⟩:=Row.read hs4
     subst e7'
     have HS4:=hQ hs4
     have HG4:=hQ hg4
     clear hs4 hg4)
    refine⟨⟨k+1,by omega,congrArg (Value.int .i64) (by omega),(HST.out.alloc _).of_grown HG4.out,?_⟩,by simp [intOf];omega⟩;rw [HT.out];exact HS4.out
  · have hkl:k=gs.length:=by omega
    subst hkl;have HS:=hQ hs;clear hs;go_wp2;go_ret;refine⟨_,rfl,?_,hst⟩;have h9:=HS.out;rw [List.take_of_length_le (by simp;omega)] at h9;exact h9
end Go.Proofs.YtpfafhklppondaaGreat.E8
namespace Go.Sl
theorem flat_set5 {α:Type}(f:α→List Value)(hf:∀x,(f x).length=5)(v0 v1 v2 v3 v4:Value)(y:α)(hy:f y= [v0,v1,v2,v3,v4]):∀(l:List α) (i:Nat),i<l.length→
 (((((l.flatMap f).set (i*5) v0).set (i*5+1) v1).set (i*5+2) v2).set (i*5+3) v3).set (i*5+4) v4=(l.set i y).flatMap f
 | [],i,hi=>absurd hi (by simp)
 | x :: l,0,_=>by
   have hx:=hf x;match hfx:f x,hx with
   | [a,b,c,d,e],_=>simp [hfx,hy]
 | x :: l,i+1,hi=>by
   have hx:=hf x;have ih:=flat_set5 f hf v0 v1 v2 v3 v4 y hy l i (by simpa using hi);simp only [List.flatMap_cons,List.set_cons_succ]
   rw [List.set_append_right _ _ (by rw [hx];omega),List.set_append_right _ _ (by rw [hx];omega),List.set_append_right _ _ (by rw [hx];omega),List.set_append_right _ _ (by rw [hx];omega),List.set_append_right _ _ (by rw [hx];omega),hx,
    show (i+1)*5-5=i*5 by omega,show (i+1)*5+1-5=i*5+1 by omega,show (i+1)*5+2-5=i*5+2 by omega,show (i+1)*5+3-5=i*5+3 by omega,show (i+1)*5+4-5=i*5+4 by omega,ih]
end Go.Sl
namespace Go.Proofs.YtpfafhklppondaaGreat.F8
open ChangeShapes WideShapes ChangeAt RowKit Sl Cop M2 P3 X3 G4 Q2 X2 J4 L4 V4 D5 K6 L6 P4 Q6 Y6 M6 G5 Q7 X7 Z7 C8
theorem zip_set_both {α β:Type}:∀(xs:List α) (l:List β) (k:Nat) (v:α) (y:β),(xs.zip l).set k (v,y)=(xs.set k v).zip (l.set k y)
 | [],l,k,v,y=>by simp
 | x :: xs,[],k,v,y=>by cases k<;>simp
 | x :: xs,z :: l,0,v,y=>by simp
 | x :: xs,z :: l,k+1,v,y=>by
   have:=zip_set_both xs l k v y
   simp only [List.zip_cons_cons,List.set_cons_succ,this]
theorem ref_wr_count {r:Nat}{s:PoolS}{gs:List PageV}{hush:RTail}{x:RX}{F:Pr}{w:World}(h:Sat ((RefAt r s gs hush x).star F) w){j:Nat}(hj:j<s.counts.length):
 ∃b c,x.cv= .slice (some ⟨b,0,none⟩) s.counts.length c∧w.cell? ⟨b,j,none⟩=some (.int .i64 (s.counts.getD j 0))∧w.frozen? ⟨b,j,none⟩=false∧
  ∀v:Int,Sat ((RefAt r { s with counts:=s.counts.set j v } gs hush x).star F) (w.setCell ⟨b,j,none⟩ (.int .i64 v)):=by
 have h1:Sat ((IntsRow x.cv s.counts).star ((Pr.pts r (refC s.refs x.cv x.lv x.pv hush)).star ((BoolsRow x.lv s.last).star ((PgRow x.pv x.xs gs).star ((Pr.own x.h).star F))))) w:=h.perm (by unfold RefAt;ac_rfl);obtain⟨a,c,e,_,hc⟩:=Row.read h1;obtain⟨b,eb,hd⟩:=hc (by omega);subst eb;clear hc;refine⟨b,c,e,?_,(hd j (by omega)).2,fun v=> ?_⟩
 · rw [(hd j (by omega)).1];simp [hj]
 · have h2:=h1
   rw [e] at h2;have h3:=Row.set h2 j (by simpa using hj) (.int .i64 v)
   have h4:Sat ((IntsRow x.cv (s.counts.set j v)).star ((Pr.pts r (refC s.refs x.cv x.lv x.pv hush)).star ((BoolsRow x.lv s.last).star ((PgRow x.pv x.xs gs).star ((Pr.own x.h).star F))))) (w.setCell ⟨b,j,none⟩ (.int .i64 v)):=by
    unfold IntsRow;rw [List.length_set,List.map_set,e];exact h3
   exact h4.perm (by unfold RefAt;ac_rfl)
theorem ref_wr_last {r:Nat}{s:PoolS}{gs:List PageV}{hush:RTail}{x:RX}{F:Pr}{w:World}(h:Sat ((RefAt r s gs hush x).star F) w){j:Nat}(hj:j<s.last.length):
 ∃b c,x.lv= .slice (some ⟨b,0,none⟩) s.last.length c∧w.cell? ⟨b,j,none⟩=some (.bool (s.last.getD j false))∧w.frozen? ⟨b,j,none⟩=false∧
  ∀v:Bool,Sat ((RefAt r { s with last:=s.last.set j v } gs hush x).star F) (w.setCell ⟨b,j,none⟩ (.bool v)):=by
 have h1:Sat ((BoolsRow x.lv s.last).star ((Pr.pts r (refC s.refs x.cv x.lv x.pv hush)).star ((IntsRow x.cv s.counts).star ((PgRow x.pv x.xs gs).star ((Pr.own x.h).star F))))) w:=h.perm (by unfold RefAt;ac_rfl);obtain⟨a,c,e,_,hc⟩:=Row.read h1;obtain⟨b,eb,hd⟩:=hc (by omega);subst eb;clear hc;refine⟨b,c,e,?_,(hd j (by omega)).2,fun v=> ?_⟩
 · rw [(hd j (by omega)).1];simp [hj]
 · have h2:=h1
   rw [e] at h2;have h3:=Row.set h2 j (by simpa using hj) (.bool v)
   have h4:Sat ((BoolsRow x.lv (s.last.set j v)).star ((Pr.pts r (refC s.refs x.cv x.lv x.pv hush)).star ((IntsRow x.cv s.counts).star ((PgRow x.pv x.xs gs).star ((Pr.own x.h).star F))))) (w.setCell ⟨b,j,none⟩ (.bool v)):=by
    unfold BoolsRow;rw [List.length_set,List.map_set,e];exact h3
   exact h4.perm (by unfold RefAt;ac_rfl)
theorem ref_wr_page {r:Nat}{s:PoolS}{gs:List PageV}{hush:RTail}{x:RX}{F:Pr}{w:World}(hx:x.xs.length=gs.length)(h:Sat ((RefAt r s gs hush x).star F) w){j:Nat}(hj:j<gs.length):
 ∃b c,x.pv= .slice (some ⟨b,0,none⟩) gs.length c∧(∀i,i<5→w.frozen? ⟨b,j*5+i,none⟩=false∧∃v,w.cell? ⟨b,j*5+i,none⟩=some v)∧
  ∀(g:PageV) (vi vd:Value),Sat ((RefAt r s (gs.set j g) hush { x with xs:=x.xs.set j (vi,vd) }).star F) (((((w.setCell ⟨b,j*5,none⟩ (.int .i64 g.kind)).setCell ⟨b,j*5+1,none⟩ (.int .i64 g.level)).setCell ⟨b,j*5+2,none⟩ vi).setCell ⟨b,j*5+3,none⟩ vd).setCell ⟨b,j*5+4,none⟩ (.int .i64 g.next)):=by
 have h1:Sat ((PgRow x.pv x.xs gs).star ((Pr.pts r (refC s.refs x.cv x.lv x.pv hush)).star ((IntsRow x.cv s.counts).star ((BoolsRow x.lv s.last).star ((Pr.own x.h).star F))))) w:=h.perm (by unfold RefAt;ac_rfl);obtain⟨a,c,e,hlen,hc⟩:=Row.read h1;obtain⟨b,eb,hd⟩:=hc (by omega);subst eb;clear hc;refine⟨b,c,e,fun i hi=>⟨(hd (j*5+i) (by omega)).2,?_⟩,fun g vi vd=> ?_⟩
 · have h5:=(hd (j*5+i) (by omega)).1
   rw [List.getElem?_eq_getElem (by omega)] at h5;exact⟨_,h5⟩
 · have h2:=h1
   rw [e] at h2;have h3:=Row.set (Row.set (Row.set (Row.set (Row.set h2 (j*5) (by omega) (.int .i64 g.kind)) (j*5+1) (by simp only [List.length_set];omega) (.int .i64 g.level)) (j*5+2) (by simp only [List.length_set];omega) vi) (j*5+3) (by simp only [List.length_set];omega) vd) (j*5+4) (by simp only [List.length_set];omega) (.int .i64 g.next)
   rw [flat_set5 pgCells (fun _=>rfl) _ _ _ _ _ ((vi,vd),g) rfl (x.xs.zip gs) j (by simp;omega),zip_set_both] at h3
   have h4:Sat ((PgRow x.pv (x.xs.set j (vi,vd)) (gs.set j g)).star ((Pr.pts r (refC s.refs x.cv x.lv x.pv hush)).star ((IntsRow x.cv s.counts).star ((BoolsRow x.lv s.last).star ((Pr.own x.h).star F))))) (((((w.setCell ⟨b,j*5,none⟩ (.int .i64 g.kind)).setCell ⟨b,j*5+1,none⟩ (.int .i64 g.level)).setCell ⟨b,j*5+2,none⟩ vi).setCell ⟨b,j*5+3,none⟩ vd).setCell ⟨b,j*5+4,none⟩ (.int .i64 g.next)):=by
    unfold PgRow;rw [List.length_set,e];exact h3
   exact h4.perm (by unfold RefAt;ac_rfl)
end Go.Proofs.YtpfafhklppondaaGreat.F8
namespace Go.Proofs.YtpfafhklppondaaGreat.G8
open ChangeShapes WideShapes ChangeAt RowKit Sl Cop M2 P3 X3 Y3 G4 Q2 X2 J4 L4 V4 D5 K6 L6 P4 Q6 Y6 M6 G5 Q7 Z4 X7 Z7 C8 F8
def pgsOf(n:Nat)(on:Int→Option PageV):List PageV:=(List.range n).map fun i:Nat=>(on ((i:Int)+1)).getD zeroP
def laidOf(n:Nat)(on:Int→Option PageV):List Bool:=(List.range n).map fun i:Nat=>(on ((i:Int)+1)).isSome
theorem pgsOf_none(n:Nat):pgsOf n (fun _=>none)=List.replicate n zeroP:=by
 unfold pgsOf;refine List.ext_getElem (by simp) fun i h1 h2=> ?_
 simp
abbrev LaidRow(v:Value)(l:List Bool):Pr:=Row 4 1 v l.length (l.map Value.bool)
theorem filled {α:Type}{us cs:List α}(hl:us.length=cs.length)(h:∀i,i<cs.length→us[i]? =cs[i]?):us=cs:=
 List.ext_getElem? fun i=>by
  rcases Nat.lt_or_ge i cs.length with hi | hi
  · exact h i hi
  · rw [List.getElem?_eq_none (by omega),List.getElem?_eq_none hi]
theorem fill_step {α:Type}{us cs:List α}{k:Nat}(hl:us.length=cs.length)(hk:k<cs.length)(h:∀i,i<k→us[i]? =cs[i]?):∀i,i<k+1→(us.set k cs[k])[i]? =cs[i]? :=by
 intro i hi;by_cases he:i=k
 · subst he
   rw [List.getElem?_set_self (by omega),List.getElem?_eq_getElem hk]
 · rw [List.getElem?_set_ne (by omega)]
   exact h i (by omega)
abbrev lawS(refs:Int)(us:List Int)(bs:List Bool):PoolS:= { refs:=refs,counts:=us,last:=bs,acts:= [],floor:=0 }
end Go.Proofs.YtpfafhklppondaaGreat.G8
namespace Go.Proofs.YtpfafhklppondaaGreat.J8
open ChangeShapes WideShapes ChangeAt RowKit Sl Cop M2 P3 X3 G4 Q2 X2 J4 L4 K6 P4 Q6 X7 Z7 C8 F8 E8
def incL(refs:Int)(cs:List Int)(n:Int):Int:=if cntL cs n=0 then 15 else if refs≤cntL cs n then 13 else 0
def RPool.counts(s:PoolS)(cs:List Int):PoolS:= { s with counts:=cs }
theorem rcount_cnt(s:PoolS)(n:Int):s.count n=cntL s.counts n:=by
 unfold PoolS.count cntL PoolS.there;rfl
theorem rok_counts {s:PoolS}{gs:List PageV}{x:RX}(ok:ROk s gs x){cs:List Int}(hl:cs.length=s.counts.length)(h0:∀c∈cs,0≤c):ROk { s with counts:=cs } gs x:=
 ⟨ok.pgs,by show s.last.length=cs.length;rw [hl];exact ok.ll,by show gs.length=cs.length;rw [hl];exact ok.gl,by show cs.length≤65536;rw [hl];exact ok.n2,h0,ok.fit⟩
theorem addC_nn {cs:List Int}{n b:Int}(h0:∀c∈cs,0≤c)(hb:0≤cntL cs n+b):∀c∈addC cs n b,0≤c:=by
 intro c hc;unfold addC at hc;rcases List.mem_or_eq_of_mem_set hc with h | h
 · exact h0 c h
 · rw [h];exact hb
theorem cnt_idx {cs:List Int}{j:Nat}(hj:j<cs.length):cntL cs ((j:Int)+1)=cs.getD j 0:=by
 unfold cntL;rw [if_pos (by omega),show ((j:Int)+1).toNat-1=j by omega]
theorem addC_idx {cs:List Int}{j:Nat}(hj:j<cs.length)(b:Int):addC cs ((j:Int)+1) b=cs.set j (cs.getD j 0+b):=by
 unfold addC;rw [cnt_idx hj,show ((j:Int)+1).toNat-1=j by omega]
end Go.Proofs.YtpfafhklppondaaGreat.J8
namespace Go.Proofs.YtpfafhklppondaaGreat.K8
open ChangeShapes WideShapes ChangeAt RowKit Sl Cop M2 P3 X3 G4 Q2 X2 J4 L4 D5 K6 P4 Q6 Y6 Q7 X7 Z7 C8 F8 E8
theorem wpList_append_slK {P:Program}{F:Pr}{w:World}{ops:Array Oper}{rest:List Oper}{o:Oper}{a:Act}{Q:Exit→Act→World→Prop}(hgd:o.guard=none)(s x:Operand)(t:TypeId)
 (ho:o.op= .call { callee:= .builtin .append,args:= #[s,x],argTypes:= #[t,t] })
 (e:TypeId) (i:TypeInfo) (z:Value) (size bytes:Nat) (ht:P.underlying t=some (.slice e)) (hi:P.info? e=some i) (hz:i.zero=some z)
 (hsize:i.size=size) (hby:i.bytes=bytes) (hzs:z.cells.size=size)
 (v:Value) (n:Nat) (xs:List Value) (hs:a.eval s=v) (hown:Sat ((Row e size v n xs).star F) w)
 (ad:Addr) (m c:Nat) (news:List Value) (hx:a.eval x= .slice (some ad) m c) (hl:news.length=m*size) (hnews:∀j u,news[j]? =some u→w.cell? (ad.add j)=some u) (h1:∀u∈news,u.oneCell'=true)
 (h63:n+m≤maxLen) (hbytes:(n+m)*bytes≤140737488355328)
 (h:∀v' w',Sat ((Row e size v' (n+m) (xs++news)).star F) w'→w.grownBy w' v.ownBlock→∀K:Act→Prop,(∀a',wpList P ops Q rest a' w'→K a')→K (a.put o.dst v')):wpList P ops Q (o :: rest) a w:=
 wpList_append_sl hgd s x t ho e i z size bytes ht hi hz hsize hby hzs v n xs hs hown ad m c news hx hl hnews h1 h63 hbytes fun v' w' h2 h3 _=>h v' w' h2 h3 _ fun _ h=>h
end Go.Proofs.YtpfafhklppondaaGreat.K8
namespace Go.Proofs.YtpfafhklppondaaGreat.L8
open ChangeShapes WideShapes ChangeAt RowKit Sl Cop Q2 X2 J4 L4 P4 Q6 B8
end Go.Proofs.YtpfafhklppondaaGreat.L8
namespace Go.Proofs.YtpfafhklppondaaGreat.M8
open ChangeShapes WideShapes ChangeAt RowKit Sl Cop M2 P3 X3 G4 Q2 X2 J4 L4 V4 D5 K5 P4 Q6 Q7 X7 Z7 B8
structure RLooks(s:PoolS)(gs:List PageV)(look:Int→Option PageV):Prop where
 none:∀n,look n=none→s.count n=0
 some:∀n g,look n=some g→s.count n≠0∧pgAt gs n=g∧Fit g
end Go.Proofs.YtpfafhklppondaaGreat.M8
namespace Go.Proofs.YtpfafhklppondaaGreat.P8
open ChangeShapes WideShapes ChangeAt RowKit Sl Cop M2 P3 X3 G4 Q2 X2 J4 L4 K6 P4 Q6 X7 Z7 C8 F8 E8 J8 B7
end Go.Proofs.YtpfafhklppondaaGreat.P8
namespace Go.Proofs.YtpfafhklppondaaGreat.Q8
open ChangeShapes WideShapes ChangeAt RowKit Sl Cop P3 G4 Q2 X2 D3 J4 L4 P4 Q6 Y6 K8 Y2
def isSl(v:Value):Prop:= ∃a m c,v= .slice a m c
def bothOf(y:Value × Value):List Value:= [y.1,y.2]
theorem row_one {T:Nat}{v:Value}{F:Pr}{w:World}{J:Nat}(h:Sat ((Pr.pts J (.cells #[v] T)).star F) w):Sat ((Row T 1 (.slice (some ⟨J,0,none⟩) 1 1) 1 [v]).star F) w:=
 Row.mk' (sp:= []) (by simp) (by simp) (Nat.le_refl _) (by simp [maxLen]) h
theorem lists_any(ai:Option Addr)(ci:Nat)(ys:List (Value × Value))(its:List ItemV)(hyl:ys.length=its.length)(hn:its.length≤8)(hsl:∀y∈ys,isSl y.1∧isSl y.2)(ad:Option Addr)(md cd:Nat)(k0 l0 nx:Int)(F:Pr)(w:World)
 (hF:Sat ((ItRow (.slice ai its.length ci) ys its).star F) w):
 Calls Tryz.prog 144 #[pageV k0 l0 (.slice ai its.length ci) (.slice ad md cd) nx] w fun e w'=> ∃v,e= .returned v∧Stays w w'∧Sat ((Row 35 1 v (1+2*its.length) (.slice ad md cd :: ys.flatMap bothOf)).star ((ItRow (.slice ai its.length ci) ys its).star F)) w':=by
 have hs1:=(OwnL.in1 hF).alloc (pageC k0 l0 (.slice ai its.length ci) (.slice ad md cd) nx);have hs2:=hs1.alloc (.cells #[.slice ad md cd] 35);rw [show (w.alloc (pageC k0 l0 (.slice ai its.length ci) (.slice ad md cd) nx)).heap.size=w.heap.size+1 by simp] at hs2;have hs3:=OwnL.of1 (row_one hs2.sat)
 have HST:=hQ (((Stays.refl w).alloc (pageC k0 l0 (.slice ai its.length ci) (.slice ad md cd) nx)).alloc (.cells #[.slice ad md cd] 35));have HS3:=hQ hs3;have HSL:=hQ hsl;have HYL:=hQ hyl;have c1:=hs1.facts;simp only [CellsAt,Nat.reduceAdd,and_true] at c1;have hn0:(its.length:Int)≤8:=by omega
 clear hF hs1 hs2 hs3 hsl hyl;go_enter Tryz.func144,Tryz.ntmps144
 go_wp2_with fail
 clear c1;have T1:=HST.out;have T2:=HS3.out;clear HST HS3;generalize (w.alloc (pageC k0 l0 (.slice ai its.length ci) (.slice ad md cd) nx)).alloc (.cells #[.slice ad md cd] 35)=w0 at*;generalize w.heap.size+1=I1 at*;generalize w.heap.size=I0 at*
 go_loopw [3,4] (fun o i wr=> ∃(k m:Nat) (xs:List Value),k≤its.length∧i= .int .i64 k∧Hid (m=1+2*k)∧m≤17∧Hid (xs= .slice ad md cd :: (ys.take k).flatMap bothOf)∧Stays w wr∧
  OwnL [Row 35 1 o m xs,Pr.pts I0 (pageC k0 l0 (.slice ai its.length ci) (.slice ad md cd) nx),ItRow (.slice ai its.length ci) ys its,F] wr) (fun _ i _=>its.length-(intOf i).toNat)
 case atStart=>exact⟨0,1,_,Nat.zero_le _,rfl,hQ rfl,by omega,hQ rfl,T1,T2⟩
 case round=>
  clear T1 T2;obtain⟨k,m,xs,hk,rfl,hm,hm2,hxs,hst,hs⟩:=hrel;obtain⟨al2,cl2,rfl⟩:=Row.shape hs.sat;have c6:=hs.facts;simp only [CellsAt,Nat.reduceAdd,and_true] at c6;rcases Nat.lt_or_ge k its.length with hlt | hge
  · have hky:k<ys.length:=by have:=HYL.out;omega
    have hr0:=hs.pull1 (A1:=ItRow (.slice ai its.length ci) ys its)
    have ha1:∃b,ai=some ⟨b,0,none⟩:=by
     obtain⟨_,_,e,_,hc⟩:=Row.read hr0;cases e;obtain⟨b,e,_⟩:=hc (by omega);exact⟨b,e⟩
    obtain⟨b,rfl⟩:=ha1;obtain⟨⟨r0,r1,r2,r3⟩,_⟩:=itRow_rd hr0 hky hlt;obtain⟨⟨q1,qa,q2,e1⟩,⟨q3,qb,q4,e2⟩⟩:=HSL.out ys[k] (List.getElem_mem hky);rw [e1] at r0;rw [e2] at r1;have zb:=World.block_lt_of_cell? _ _ r0
    have HRD:=hQ (show ∀wx,∀Fx:Pr,Sat ((ItRow (.slice (some ⟨b,0,none⟩) its.length ci) ys its).star Fx) wx→wx.cell? ⟨b,k*4,none⟩=some (.slice q1 qa q2)∧wx.cell? ⟨b,k*4+1,none⟩=some (.slice q3 qb q4) from fun wx Fx hx=>by
     obtain⟨⟨g0,g1,_,_⟩,_⟩:=itRow_rd hx hky hlt
     rw [e1] at g0
     rw [e2] at g1
     exact⟨g0,g1⟩)
    have HTK:=hQ (show Value.slice ad md cd :: (ys.take (k+1)).flatMap bothOf=(Value.slice ad md cd :: (ys.take k).flatMap bothOf)++ [.slice q1 qa q2,.slice q3 qb q4] by
     rw [List.take_succ_eq_append_getElem hky,List.flatMap_append]
     simp only [List.flatMap_cons,List.flatMap_nil,bothOf,e1,e2,List.append_nil,List.cons_append])
    obtain⟨j0,hj,hy0,hy1,hy2⟩:=info_parts infoRows;have A1:=hQ ((hs.alloc (.cells #[.slice q1 qa q2,.slice q3 qb q4] 35)).drop.drew.pull1 (A1:=Row 35 1 (.slice al2 m cl2) m xs))
    have hnew:=hQ (show ∀j u,[Value.slice q1 qa q2,.slice q3 qb q4][j]? =some u→(wr.alloc (.cells #[.slice q1 qa q2,.slice q3 qb q4] 35)).drew.cell? ((⟨wr.heap.size,0,none⟩:Addr).add j)=some u from fresh_cells wr [.slice q1 qa q2,.slice q3 qb q4] 35);have HSTA:=hQ (hst.alloc (.cells #[.slice q1 qa q2,.slice q3 qb q4] 35)).drew;clear hs hr0 hst e1 e2;go_wp2_with fail
    refine wp_region_staged_last (sz:=31) (by kernel_rfl) [0,1,2,3,4,5,6,7,8,9,10,11,12] [(13,[],[0,1,2,3,4,5,7,8,9,10,11]),(14,[],[1,2,3,4,5,7,8,9,10,11])] rfl rfl rfl (by kernel_rfl) (by kernel_rfl) (by kernel_rfl) (by kernel_rfl) ?_;simp only [List.dropLast];refine wpQ_all _ rfl rfl ?_;simp only [pick,pQ];iterate 13 (go_big_quiet_step (fail))
    refine wpQuiet_nil ?_;refine wpRest_act rfl ?_;go_wp2;refine onN_mk ?_;refine wpQ_nil ⟨?_,?_⟩
    · exact cQ
    refine wpRest_act rfl ?_;refine wpList_append_slK rfl _ _ _ rfl 35 j0 (.slice none 0 0) 1 24 Tryz.underlying54 hj hy0 hy1 hy2 rfl _ _ _ rfl A1.out ⟨wr.heap.size,0,none⟩ 2 2 [.slice q1 qa q2,.slice q3 qb q4] rfl rfl hnew.out (by simp [Value.oneCell']) (by simp only [maxLen];omega) (by omega) (fun v7 w7 hs7 hg7 K0 hK0=> ?_);obtain⟨a7,c7,rfl⟩:=Row.shape hs7;go_simp;refine hK0 _ ?_;clear hK0 K0
    have hs8:=OwnL.of1 hs7;have HS8:=hQ hs8;have HST8:=hQ (HSTA.out.of_grown hg7);clear r0 r1 r2 r3 zb;obtain⟨r0,r1⟩:=HRD.out _ _ (hs8.pull1 (A1:=ItRow (.slice (some ⟨b,0,none⟩) its.length ci) ys its));have zb:=World.block_lt_of_cell? _ _ r0;clear c6;have c6:=hs8.facts;simp only [CellsAt,Nat.reduceAdd,and_true] at c6;clear hs7 hs8 hg7 A1 hnew HSTA HRD;refine wpList_nil ?_;refine onN_mk ?_
    refine wpQ_nil ⟨?_,?_⟩
    · exact cQ
    refine wpRest_nil ?_;unfold lastPost;clear c6 r0 r1 zb;go_wp2;go_roundw
    case rel=>exact⟨k+1,m+2,_,by omega,congrArg (Value.int .i64) (by omega),hQ (by have:=hm.out;omega),by have:=hm.out;omega,hQ (by rw [HTK.out, ← hxs.out]),HST8.out,HS8.out.to⟩
    case measure=>simp [intOf];omega
  · have hkl:k=its.length:=by omega
    subst hkl;have HS:=hQ hs;have HSTR:=hQ hst;clear hs hst;go_wp2;go_ret;have hx:=hxs.out;have hmm:=hm.out;rw [List.take_of_length_le (by have:=HYL.out;omega)] at hx;subst hx;rw [show 1+2*its.length=m by omega];exact⟨.slice al2 m cl2,rfl,HSTR.out,(HS.out.lose (Pr.pts I0 (pageC k0 l0 (.slice ai its.length ci) (.slice ad md cd) nx))).end3⟩
end Go.Proofs.YtpfafhklppondaaGreat.Q8
