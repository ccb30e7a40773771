/- The document's vault in memory, and what it tells of a page; the conditions stand as hypotheses. -/
import Derived.Test.YtkfjilnmnbeokaaGreatPutInPlaceM30
import Derived.Test.YtkfjilnmnbeokaaGreatPutInPlaceM13
import Derived.Test.YtkfjilnmnbeokaaGreatPutInPlaceM23
import Derived.BigQuiet
import Derived.Test.YtkfjilnmnbeokaaGreatPutInPlaceM18
import Derived.Test.YtkfjilnmnbeokaaGreatPutInPlaceM01
set_option maxRecDepth 100000
set_option maxHeartbeats 16000000
namespace Go.Proofs.YtkfjilnmnbeokaaGreat.K7
open ChangeShapes WideShapes ChangeAt RowKit Sl Cop D2 D3 J3 V3 G2 J2 X3 Y3 M4 P5 Q5 Z3 Y5 C6 Q4 D7
structure RX where
 cv:Value
 lv:Value
 pv:Value
 xs:List (Value × Value)
 h:Hp
def pgCells(x:(Value × Value) × PageV):List Value:= [.int .i64 x.2.kind,.int .i64 x.2.level,x.1.1,x.1.2,.int .i64 x.2.next]
def PgRow(v:Value)(xs:List (Value × Value))(gs:List PageV):Pr:=Row 74 5 v gs.length ((xs.zip gs).flatMap pgCells)
structure PgsAt(h:Hp)(xs:List (Value × Value))(gs:List PageV):Prop where
 len:xs.length=gs.length
 at':∀i (hx:i<xs.length) (hl:i<gs.length),ItemsIn h xs[i].1 gs[i].items∧Bytes h xs[i].2 gs[i].data
structure RTail where
 av:Value
 fl:Int
 q:Bool
abbrev quietT(b:Bool):RTail:=⟨.slice none 0 0,0,b⟩
abbrev refC(refs:Int)(cv lv pv:Value)(hush:RTail):Obj:= .cells #[.int .i64 refs,cv,lv,pv,hush.av,.int .i64 hush.fl,.bool hush.q] 36
def RefAt(r:Nat)(s:PoolS)(gs:List PageV)(hush:RTail)(x:RX):Pr:=
 (Pr.pts r (refC s.refs x.cv x.lv x.pv hush)).star ((IntsRow x.cv s.counts).star ((BoolsRow x.lv s.last).star ((PgRow x.pv x.xs gs).star (Pr.own x.h))))
structure ROk(s:PoolS)(gs:List PageV)(x:RX):Prop where
 pgs:PgsAt x.h x.xs gs
 ll:s.last.length=s.counts.length
 gl:gs.length=s.counts.length
 n2:s.counts.length≤65536
 c0:∀c∈s.counts,0≤c
 fit:∀g∈gs,Fit g
def RefA(r:Nat)(s:PoolS)(gs:List PageV)(hush:RTail):Pr:=Pr.ex fun x:RX=>(Pr.pure (ROk s gs x)).star (RefAt r s gs hush x)
theorem refA_iff {r:Nat}{s:PoolS}{gs:List PageV}{hush:RTail}{F:Pr}{w:World}:Sat ((RefA r s gs hush).star F) w↔∃x,ROk s gs x∧Sat ((RefAt r s gs hush x).star F) w:=by
 unfold RefA;rw [Sat.ex];constructor
 · rintro⟨x,h⟩
   rw [Pr.star_assoc] at h;obtain⟨h1,h2⟩:=Sat.pure.1 h;exact⟨x,h1,h2⟩
 · rintro⟨x,h1,h2⟩
   refine⟨x,?_⟩;rw [Pr.star_assoc];exact Sat.pure.2 ⟨h1,h2⟩
theorem ref_rd {r:Nat}{s:PoolS}{gs:List PageV}{hush:RTail}{x:RX}{F:Pr}{w:World}(ok:ROk s gs x)(h:Sat ((RefAt r s gs hush x).star F) w):
 ∃ac cc al cl ap cp,(w.cell? ⟨r,1,none⟩=some (.slice ac s.counts.length cc)∧w.cell? ⟨r,2,none⟩=some (.slice al s.counts.length cl)∧w.cell? ⟨r,3,none⟩=some (.slice ap s.counts.length cp)∧w.cell? ⟨r,0,none⟩=some (.int .i64 s.refs))∧r<w.heap.size∧True∧
  ∀j,j<s.counts.length→(∃b,ac=some ⟨b,0,none⟩∧w.cell? ⟨b,j,none⟩=some (.int .i64 (s.counts.getD j 0)))∧(∃b,al=some ⟨b,0,none⟩∧w.cell? ⟨b,j,none⟩=some (.bool (s.last.getD j false)))∧
   ∃b g vi vd,ap=some ⟨b,0,none⟩∧gs[j]? =some g∧PageIn x.h (pageV g.kind g.level vi vd g.next) g∧
    w.cell? ⟨b,j*5,none⟩=some (.int .i64 g.kind)∧w.cell? ⟨b,j*5+1,none⟩=some (.int .i64 g.level)∧w.cell? ⟨b,j*5+2,none⟩=some vi∧w.cell? ⟨b,j*5+3,none⟩=some vd∧w.cell? ⟨b,j*5+4,none⟩=some (.int .i64 g.next):=by
 have h1:Sat ((Pr.pts r (refC s.refs x.cv x.lv x.pv hush)).star ((IntsRow x.cv s.counts).star ((BoolsRow x.lv s.last).star ((PgRow x.pv x.xs gs).star ((Pr.own x.h).star F))))) w:=h.perm (by unfold RefAt;ac_rfl);have hp:=h1.pts_heap;obtain⟨ac,cc,e1,_,r1⟩:=Row.read h1.right;obtain⟨al,cl,e2,_,r2⟩:=Row.read h1.right.right;obtain⟨ap,cp,e3,_,r3⟩:=Row.read h1.right.right.right;rw [ok.ll] at e2
 rw [ok.gl] at e3;refine⟨ac,cc,al,cl,ap,cp,⟨by rw [cell_of_heap hp, ← e1];rfl,by rw [cell_of_heap hp, ← e2];rfl,by rw [cell_of_heap hp, ← e3];rfl,by rw [cell_of_heap hp];rfl⟩,h1.lt,trivial,fun j hj=>⟨?_,?_,?_⟩⟩
 · obtain⟨b,e,hc⟩:=r1 (by omega)
   refine⟨b,e,?_⟩;rw [(hc j (by omega)).1];simp [hj]
 · obtain⟨b,e,hc⟩:=r2 (by have:=ok.ll;omega)
   refine⟨b,e,?_⟩;have hj2:j<s.last.length:=by have:=ok.ll;omega
   rw [(hc j (by omega)).1];simp [hj2]
 · have hj2:j<gs.length:=by have:=ok.gl;omega
   have hj3:j<x.xs.length:=by have:=ok.pgs.len;omega
   obtain⟨b,e,hc⟩:=r3 (by omega);have hz:j<(x.xs.zip gs).length:=by simp;omega
   have at':∀i,i<5→w.cell? ⟨b,j*5+i,none⟩=(pgCells (x.xs[j],gs[j]))[i]? :=by
    intro i hi;rw [(hc (j*5+i) (by omega)).1,flat_at pgCells 5 (fun _=>rfl) (x.xs.zip gs) j i hz hi];simp
   obtain⟨p1,p2⟩:=ok.pgs.at' j hj3 hj2;exact⟨b,gs[j],x.xs[j].1,x.xs[j].2,e,List.getElem?_eq_getElem hj2,⟨_,_,rfl,p1,p2⟩,at' 0 (by omega),at' 1 (by omega),at' 2 (by omega),at' 3 (by omega),at' 4 (by omega)⟩
end Go.Proofs.YtkfjilnmnbeokaaGreat.K7
namespace Go.Proofs.YtkfjilnmnbeokaaGreat.L7
open ChangeShapes WideShapes ChangeAt RowKit Sl Cop D2 D3 J3 V3 G2 J2 X3 Y3 E4 G4 L4 M4 N4 U4 P5 Q5 Z3 Y5 C6 Q4 D7 K7
theorem fit_keys {g:PageV}(h:Fit g):∀y∈g.items,y.key.length≤65536∧y.value.length≤65536:=fun y hy=>by have:=h.k y hy;omega
theorem read_some(v:Nat)(s:VaultS)(n:Int)(hn:1≤n∧n≤65536)(g:PageV)(hfit:Fit g)(F:Pr)(w:World)(hF:Sat ((VaultA v s).star F) w)(h0:s.pool.count n≠0)(hon:s.on n=some g):
 Calls Tryz.prog 21 #[.pointer (some ⟨v,0,none⟩),.int .i64 n] w fun e w'=>
  Stays w w'∧∃pv,e= .returned (.tuple #[pv,.int .i64 0])∧∃h',PageIn h' pv g∧Sat ((Pr.own h').star ((VaultA v s).star F)) w':=by
 obtain⟨x,ok,hF⟩:=vaultA_iff.1 hF;have ho:Only w (w.alloc (pageC 0 0 (.slice none 0 0) (.slice none 0 0) 0)):=(Only.refl w).alloc _
 have h1:Sat ((PoolA x.p s.pool).star ((Pr.pts v (.cells #[.pointer (some ⟨x.p,0,none⟩),.map (some x.mb),x.av,.int .i64 s.floor] 70)).star
  ((((MapA Tryz.prog 3 x.mb x.f).star ((Row 126 2 x.av s.acts.length (actCells x.axs)).star (Pr.own x.h)))).star F))) w:=hF.perm (by unfold VaultAt;ac_rfl)
 have qv:w.cell? ⟨v,0,none⟩=some (.pointer (some ⟨x.p,0,none⟩)):=by rw [cell_of_heap h1.right.pts_heap];rfl
 have qm:w.cell? ⟨v,1,none⟩=some (.map (some x.mb)):=by rw [cell_of_heap h1.right.pts_heap];rfl
 have zv:=h1.right.lt;have C:=hQ (count_A x.p s.pool n _ _ (h1.only ho));have hm:=(h1.only ho).perm (B:=(MapA Tryz.prog 3 x.mb x.f).star ((PoolA x.p s.pool).star ((Pr.pts v (.cells #[.pointer (some ⟨x.p,0,none⟩),.map (some x.mb),x.av,.int .i64 s.floor] 70)).star ((Row 126 2 x.av s.acts.length (actCells x.axs)).star ((Pr.own x.h).star F))))) (by ac_rfl);have hO:=ok.on n;rw [hon] at hO
 obtain⟨pv,hf,hpv⟩:=hO;have hne:(s.pool.count n == 0)=false:=by rw [beq_eq_false_iff_ne];exact h0
 have h2:=(hF.alloc (pageC 0 0 (.slice none 0 0) (.slice none 0 0) 0)).perm (B:=(Pr.own x.h).star ((Pr.pts w.heap.size (pageC 0 0 (.slice none 0 0) (.slice none 0 0) 0)).star ((Pr.pts v (.cells #[.pointer (some ⟨x.p,0,none⟩),.map (some x.mb),x.av,.int .i64 s.floor] 70)).star ((PoolA x.p s.pool).star ((MapA Tryz.prog 3 x.mb x.f).star ((Row 126 2 x.av s.acts.length (actCells x.axs)).star F)))))) (by unfold VaultAt;ac_rfl)
 have D:=hQ (copied_any x.h pv g hpv (by have:=hfit.n;omega) (fit_keys hfit) (by have:=hfit.d;omega) _ _ h2);have HM:=hQ hm;have HO:=hQ ho;have OK:=hQ ok;have HFN:=hQ hf;clear h1 hF ok ho hm hf hpv h2;go_enter Tryz.func21,Tryz.ntmps21
 go_wp2_with fail
 refine C.out.mono ?_;rintro e w1 ⟨rfl,rfl⟩;generalize s.pool.count n=k at*;go_wp2_with (at_lookup;refine wpList_look rfl _ _ _ false rfl Tryz.underlying3 Tryz.underlying67 zeroPage (zero_page _) n hn rfl rfl HM.out ?_;rw [HFN.out])
 refine D.out.mono ?_;rintro e w1 ⟨pv2,h',rfl,hp',h3,hst⟩;obtain⟨pk,pl,ai,mi,ci,ad,md,cd,nx,rfl⟩:=page_shape hp';have h4:=h3.perm (B:=(Pr.pts w.heap.size (pageC 0 0 (.slice none 0 0) (.slice none 0 0) 0)).star ((Pr.own h').star ((VaultAt v s x).star F))) (by unfold VaultAt;ac_rfl);obtain⟨f0,f1,f2,f3,f4,⟨z0,z1,z2,z3,z4⟩,zz⟩:=pts5 h4
 have s6:=((((h4.setCell (i:=0) (.int .i64 pk)).setCell (i:=1) (.int .i64 pl)).setCell (i:=2) (.slice ai mi ci)).setCell (i:=3) (.slice ad md cd)).setCell (i:=4) (.int .i64 nx);have s7:Sat ((Pr.pts w.heap.size (pageC pk pl (.slice ai mi ci) (.slice ad md cd) nx)).star ((Pr.own h').star ((VaultAt v s x).star F))) _:=s6;have S7:=hQ s7;have HST:=hQ (HO.out.st.trans hst);have HP:=hQ hp'
 clear h3 h4 s6 s7 hst hp' C D HM HFN;go_wp2;refine bodyPost_ret (results_cell_row_tmp rfl _ _ w.heap.size _ rfl (run_loadVar_row _ w.heap.size _ _ _ _ _ S7.out.pts_heap Tryz.underlying74 rfl infoPage)) rfl ?_;exact⟨((((HST.out.setCell _ _).setCell _ _).setCell _ _).setCell _ _).setCell _ _,_,rfl,h',HP.out,(vaultA_iff.2 ⟨x,OK.out,S7.out.right.perm (Pr.left_comm _ _ _)⟩).perm (Pr.left_comm _ _ _)⟩
def pgAt(gs:List PageV)(n:Int):PageV:=gs.getD (n.toNat-1) zeroP
end Go.Proofs.YtkfjilnmnbeokaaGreat.L7
namespace Go.Proofs.YtkfjilnmnbeokaaGreat.N7
open ChangeShapes WideShapes ChangeAt RowKit Sl Cop D2 D3 J3 V3 G2 J2 X3 Y3 E4 M4 U4 Z3 Y5 D7 L7
structure Looks(s:VaultS)(look:Int→Option PageV):Prop where
 none:∀n,look n=none→s.pool.count n=0
 some:∀n g,look n=some g→(1≤n∧n≤65536)∧s.pool.count n≠0∧s.on n=some g∧Fit g
theorem chain_end {look:Int→Option PageV}{N k:Nat}{out:List Int}{n:Int}(h:N≤out.length):chainL look N k out n=(out,0):=by
 cases k with
 | zero=>rfl
 | succ k=>unfold chainL;rw [if_pos h]
theorem chain_none {look:Int→Option PageV}{N k:Nat}{out:List Int}{n:Int}(h:out.length<N)(hl:look n=none):chainL look N (k+1) out n=([],15):=by
 unfold chainL;rw [if_neg (by omega),hl]
theorem chain_kind {look:Int→Option PageV}{N k:Nat}{out:List Int}{n:Int}{g:PageV}(h:out.length<N)(hl:look n=some g)(hk:g.kind≠3):chainL look N (k+1) out n=([],15):=by
 unfold chainL;rw [if_neg (by omega),hl];dsimp only;rw [if_pos hk]
theorem chain_form {look:Int→Option PageV}{N k:Nat}{out:List Int}{n:Int}{g:PageV}(h:out.length<N)(hl:look n=some g)(hk:g.kind=3)(hc:¬(g.data.length=min (N-out.length) 480∧((g.next=0)↔(N-out.length≤480)))):chainL look N (k+1) out n=([],5):=by
 unfold chainL;rw [if_neg (by omega),hl];dsimp only;rw [if_neg (by simpa using hk),if_neg hc]
theorem chain_ok {look:Int→Option PageV}{N k:Nat}{out:List Int}{n:Int}{g:PageV}(h:out.length<N)(hl:look n=some g)(hk:g.kind=3)(hc:g.data.length=min (N-out.length) 480∧((g.next=0)↔(N-out.length≤480))):chainL look N (k+1) out n=chainL look N k (out++g.data) g.next:=by
 conv=>lhs;unfold chainL
 rw [if_neg (by omega),hl];dsimp only;rw [if_neg (by simpa using hk),if_pos hc]
def lenV:Value→Nat
 | .slice _ n _=>n
 | _=>0
theorem bload_long(v:Nat)(s:VaultS)(look:Int→Option PageV)(hl:Looks s look)(kv vv:Value)(hkv:IsSl kv)(hvv:IsSl vv)(c:Int)(N:Nat)(hN:32<N∧N≤3840)(F:Pr)(w:World)(hF:Sat ((VaultA v s).star F) w):
 Calls Tryz.prog 67 #[.pointer (some ⟨v,0,none⟩),itemV kv vv c N] w fun e w'=>
  Stays w w'∧∃o,e= .returned (.tuple #[o,.int .i64 (chainL look N N [] c).2])∧Sat ((BytesRow o (chainL look N N [] c).1).star ((VaultA v s).star F)) w':=by
 obtain⟨ak,mk,ck,rfl⟩:=hkv;obtain⟨av,mv,cv,rfl⟩:=hvv;have h1:=hF.alloc (itemC (.slice ak mk ck) (.slice av mv cv) c N);have h2:=row_room 5 (.int .u8 0) N (by simp only [maxLen];omega) h1;rw [show (w.alloc (itemC (.slice ak mk ck) (.slice av mv cv) c N)).heap.size=w.heap.size+1 by simp] at h2;obtain⟨i0,hi,hz0,hz1,hz2⟩:=info_parts infoByte
 have hmk:∀wx:World,(Instr.makeSlice 39 (.int .i64 0) (.int .i64 (N:Int))).run Tryz.prog wx= .ok (.slice (some ⟨wx.heap.size,0,none⟩) 0 N) (wx.alloc (.cells (madeCells #[.int .u8 0] N) 5)):=by
  intro wx;have:=run_makeSlice (P:=Tryz.prog) wx 39 5 i0 (.int .u8 0) Tryz.underlying39 hi hz0 .i64 .i64 0 N (by omega) (by omega) (by rw [hz1];omega) (by rw [hz2];omega) (by omega)
  rw [hz1,Int.toNat_natCast,Nat.mul_one] at this;exact this
 have H2:=hQ h2;obtain⟨R,hR⟩:∃R,R=chainL look N N [] c:=⟨_,rfl⟩;rw [← hR];have HR:=hQ hR;clear h1 h2 hF hR;go_enter Tryz.func67,Tryz.ntmps67
 go_wp2
 go_loopw [6,7] (fun o n wr=> ∃(out:List Int) (c':Int) (k:Nat),n= .int .i64 c'∧Stays w wr∧Hid (N-out.length≤k)∧Hid (out.length≤3840)∧Hid (chainL look N k out c'=R)∧
  Sat ((BytesRow o out).star ((Pr.pts w.heap.size (itemC (.slice ak mk ck) (.slice av mv cv) c N)).star ((VaultA v s).star F))) wr) (fun o _ _=>N-lenV o)
 case atStart=>exact⟨[],c,N,rfl,((Stays.refl w).alloc _).alloc _,hQ (by simp),hQ (by simp),hQ HR.out.symm,H2.out⟩
 case round=>
  obtain⟨out,c',k,rfl,hst,hk,hob,hch,hinv⟩:=hrel;obtain⟨_,_,_,f3,_,zI⟩:=pts4 hinv.right;obtain⟨ao,co,eo,_,_⟩:=Row.read hinv;subst eo;rcases Nat.lt_or_ge out.length N with hlt | hge
  · obtain⟨k,rfl⟩:∃k',k=k'+1:=⟨k-1,by have:=hk.out;omega⟩
    have hob2:(out.length:Int)≤3840:=by have:=hob.out;omega
    have h4:=hinv.perm (B:=(VaultA v s).star ((BytesRow (.slice ao out.length co) out).star ((Pr.pts w.heap.size (itemC (.slice ak mk ck) (.slice av mv cv) c N)).star F))) (by ac_rfl);cases hlk:look c' with
    | none=>
      have HCH:=hQ (show R=([],15) from by rw [← hch.out];exact chain_none hlt hlk);clear hch;have C:=hQ (read_none v s c' _ _ h4 (hl.none c' hlk));have H4:=hQ h4;clear hinv h4;go_wp2_with fail
      refine C.out.mono ?_;rintro e w3 ⟨rfl,ho⟩;have H5:=hQ (H4.out.only ho);have HST:=hQ ((hst.trans ho.st).alloc (pageC 0 0 (.slice none 0 0) (.slice none 0 0) 0));have g3:=ho.cell f3;have zI3:w.heap.size<w3.heap.size:=Nat.lt_of_lt_of_le zI ho.st.size;clear H4 C f3 hst ho;go_wp2;go_ret2;refine⟨HST.out,.slice none 0 0,?_,?_⟩
      · rw [HCH.out];rfl
      · rw [HCH.out]
        have h6:=(H5.out.alloc (pageC 0 0 (.slice none 0 0) (.slice none 0 0) 0)).right;have h7:Sat ((VaultA v s).star F) _:=(h6.perm (B:=(BytesRow (.slice ao out.length co) out).star ((Pr.pts w.heap.size (itemC (.slice ak mk ck) (.slice av mv cv) c N)).star ((VaultA v s).star F))) (by ac_rfl)).right.right;show Sat ((Row 5 1 (.slice none 0 0) 0 []).star _) _
        rw [Row.nil,Pr.emp_star];exact h7
    | some g=>
      obtain⟨hb,hc1,hon,hfit⟩:=hl.some c' g hlk;have C:=hQ (read_some v s c' hb g hfit _ _ h4 hc1 hon);have HFIT:=hQ hfit;have HLK:=hQ hlk;clear hinv h4 hon hc1 hfit hlk;go_wp2_with fail
      refine C.out.mono ?_;rintro e w3 ⟨hst3,pv,rfl,h',hpv,h5⟩;obtain⟨vi,vd,rfl,hi0,hb0⟩:=hpv;obtain⟨ai,ci,rfl,_,_⟩:=items_rd hi0;obtain⟨ad,cd,rfl⟩:=bytes_shape hb0;have h6:Sat ((BytesRow (.slice ao out.length co) out).star ((Pr.pts w.heap.size (itemC (.slice ak mk ck) (.slice av mv cv) c N)).star ((Pr.own h').star ((VaultA v s).star F)))) w3:=h5.perm (by ac_rfl)
      have h7:=h6.alloc (pageC g.kind g.level (.slice ai g.items.length ci) (.slice ad g.data.length cd) g.next)
      have h8:Sat ((BytesRow (.slice ao out.length co) out).star ((Pr.pts w.heap.size (itemC (.slice ak mk ck) (.slice av mv cv) c N)).star ((Pr.own h').star ((Pr.pts w3.heap.size (pageC g.kind g.level (.slice ai g.items.length ci) (.slice ad g.data.length cd) g.next)).star ((VaultA v s).star F))))) (w3.alloc (pageC g.kind g.level (.slice ai g.items.length ci) (.slice ad g.data.length cd) g.next)):=h7.perm (by ac_rfl)
      obtain⟨_,_,_,g3,_,zI3⟩:=pts4 h6.right;have hle':=h8.right.right.own;have H8:=hQ h8;have HLE:=hQ hle';have HB0:=hQ hb0;have HST:=hQ ((hst.trans hst3).alloc (pageC g.kind g.level (.slice ai g.items.length ci) (.slice ad g.data.length cd) g.next));clear h5 h6 h7 h8 hle' hb0 hi0 C hst hst3 f3 zI;by_cases hkd:g.kind=3
      · by_cases hc2:g.data.length=min (N-out.length) 480∧((g.next=0)↔(N-out.length≤480))
        · have HCH:=hQ (show chainL look N k (out++g.data) g.next=R from by rw [← hch.out];exact(chain_ok hlt HLK.out hkd hc2).symm)
          have hkn:(g.kind != 3)=false:=by rw [bne_eq_false_iff_eq];exact hkd
          have hm:min ((N:Int)-(out.length:Int)) 480=(g.data.length:Int):=by have:=hc2.1;omega
          have HDL:=hQ (show 1≤g.data.length∧g.data.length≤480∧out.length+g.data.length≤N by have:=hc2.1;omega);have hsub:((N:Int)-(out.length:Int)≤480)=(N-out.length≤480):=by apply propext;omega
          have hBB:∃B:Bool,(g.next == 0)=B∧decide ((N:Int)-(out.length:Int)≤480)=B:=by
           by_cases hq:N-out.length≤480
           · exact⟨true,by rw [beq_iff_eq];exact hc2.2.2 hq,by rw [decide_eq_true_eq];omega⟩
           · exact⟨false,by rw [beq_eq_false_iff_ne];exact fun h=>hq (hc2.2.1 h),by rw [decide_eq_false_iff_not];omega⟩
          obtain⟨B,hnb,hdb⟩:=hBB;have HN:=hQ (show ∀u∈g.data.map (Value.int .u8),u.oneCell'=true by simp [Value.oneCell']);have hdl:=HDL.out.2.1;have hAb:out.length≤3840:=hob.out;have HKD:=hQ hkd;have HLT:=hQ hlt;clear hc2 hch hsub hkd;cases B
          all_goals
           go_wp2_with (
            at_builtin
            refine wpList_append_row rfl _ _ _ rfl 5 i0 (.int .u8 0) 1 1 Tryz.underlying39 hi hz0 hz1 hz2 rfl _ _ _ rfl H8.out h' HLE.out _ _ _ rfl HB0.out HN.out (by simp only [maxLen];omega) (by omega) ?_
            intro v' w1 hsat hgr _
            have g4:w1.cell? ⟨w3.heap.size,4,none⟩=some (.int .i64 g.next):=(pts5 (hsat.right.right.right)).2.2.2.2.1
            have HSAT:=hQ hsat
            clear hsat)
           all_goals
            refine⟨⟨out++g.data,g.next,k,rfl,HST.out.of_grown hgr,hQ ?_,hQ ?_,HCH,?_⟩,?_⟩
            · have:=hk.out;have:=HDL.out;rw [List.length_append];omega
            · have:=HDL.out;have:=HLT.out;rw [List.length_append];omega
            · have h9:=HSAT.out
              rw [← List.map_append, ← List.length_append] at h9;change Sat ((BytesRow v' (out++g.data)).star _) _ at h9
              have h10:Sat ((Pr.own h').star ((Pr.pts w3.heap.size (pageC g.kind g.level (.slice ai g.items.length ci) (.slice ad g.data.length cd) g.next)).star ((BytesRow v' (out++g.data)).star ((Pr.pts w.heap.size (itemC (.slice ak mk ck) (.slice av mv cv) c N)).star ((VaultA v s).star F))))) w1:=Sat.perm h9 (by ac_rfl);exact h10.right.right
            · obtain⟨a3,c3,e3,_,_⟩:=Row.read HSAT.out
              subst e3;have:=HDL.out
              have:=HLT.out
              simp only [lenV];omega
        · have hkn:(g.kind != 3)=false:=by rw [bne_eq_false_iff_eq];exact hkd
          obtain⟨M,hM⟩:∃M:Nat,M=min (N-out.length) 480:=⟨_,rfl⟩;have hm:min ((N:Int)-(out.length:Int)) 480=(M:Int):=by omega
          have HM:=hQ hM;have hdl:g.data.length≤480:=HFIT.out.d;have hAb:out.length≤3840:=hob.out;have HCH:=hQ (show R=([],5) from by rw [← hch.out];exact chain_form hlt HLK.out hkd hc2);have HC2:=hQ hc2;clear hch hc2 hkd hM
          have fin:∀w',Sat ((VaultA v s).star F) w'→Sat ((BytesRow (.slice none 0 0) R.1).star ((VaultA v s).star F)) w':=by
           intro w' h;rw [HCH.out];show Sat ((Row 5 1 (.slice none 0 0) 0 []).star _) _
           rw [Row.nil,Pr.emp_star];exact h
          have HR2:=hQ (show R.2=5 by rw [HCH.out]);by_cases hD:g.data.length=min (N-out.length) 480
          · have hm2:min ((N:Int)-(out.length:Int)) 480=(g.data.length:Int):=by have:=HM.out;omega
            clear hm
            have hBB:∃B:Bool,(g.next == 0)=B∧decide ((N:Int)-(out.length:Int)≤480)= !B:=by
             have h3:¬((g.next=0)↔(N-out.length≤480)):=fun h=>HC2.out ⟨hD,h⟩
             by_cases hq:g.next=0
             · exact⟨true,by rw [beq_iff_eq];exact hq,by rw [Bool.not_true,decide_eq_false_iff_not];intro h;exact h3 ⟨fun _=>by omega,fun _=>hq⟩⟩
             · exact⟨false,by rw [beq_eq_false_iff_ne];exact hq,by rw [Bool.not_false,decide_eq_true_eq];exact Classical.byContradiction fun h=>h3 ⟨fun h2=>absurd h2 hq,fun h2=>absurd (by omega) h⟩⟩
            obtain⟨B,hnb,hdb⟩:=hBB;have HD:=hQ hD;clear hD;cases B
            all_goals
             simp only [Bool.not_true,Bool.not_false] at hdb;go_wp2
             all_goals
              go_ret2;exact⟨HST.out,.slice none 0 0,(by rw [HR2.out];rfl),fin _ H8.out.right.right.right.right⟩
          · have hDn:¬g.data.length=M:=by have:=HM.out;omega
            have HD:=hQ hD;clear hD;go_wp2
            all_goals
             go_ret2;exact⟨HST.out,.slice none 0 0,(by rw [HR2.out];rfl),fin _ H8.out.right.right.right.right⟩
      · have hkn:(g.kind != 3)=true:=by rw [bne_iff_ne];exact hkd
        have HCH:=hQ (show R=([],15) from by rw [← hch.out];exact chain_kind hlt HLK.out hkd);clear hch;go_wp2;go_ret2;refine⟨HST.out,.slice none 0 0,?_,?_⟩
        · rw [HCH.out];rfl
        · rw [HCH.out]
          show Sat ((Row 5 1 (.slice none 0 0) 0 []).star _) _
          rw [Row.nil,Pr.emp_star];exact H8.out.right.right.right.right
  · have HCH:=hQ (show R=(out,0) from by rw [← hch.out];exact chain_end hge)
    have HINV:=hQ hinv;have hge2:¬((out.length:Int)<(N:Int)):=by omega
    clear hch hinv;go_wp2;go_ret2;refine⟨hst,.slice ao out.length co,?_,?_⟩
    · rw [HCH.out];rfl
    · rw [HCH.out]
      exact(HINV.out.perm (Pr.left_comm _ _ _)).right
end Go.Proofs.YtkfjilnmnbeokaaGreat.N7
namespace Go.Proofs.YtkfjilnmnbeokaaGreat.P7
open ChangeShapes WideShapes ChangeAt RowKit Sl Cop D2 D3 J3 V3 G2 J2 X3 Y3 E4 M4 P5 Q5 Z3 Y5 C6 V5 Q4 D7 K7 L7
theorem infoPageF:(Tryz.prog.info? 74).map (fun i=>(i.zero,i.size,i.bytes))=some (some (.agg #[.int .i64 0,.int .i64 0,.slice none 0 0,.slice none 0 0,.int .i64 0]),5,72):=by kernel_rfl
theorem refsAre_any(r:Int)(w:World):Calls Tryz.prog 33 #[.int .i64 r] w fun e w'=>e= .returned (.bool (decide (2≤r∧r<65536)))∧w=w':=by
 by_cases h1:2≤r
 · go_enter Tryz.func33,Tryz.ntmps33
   go_wp2;go_ret;simp [h1]
 · go_enter Tryz.func33,Tryz.ntmps33
   go_wp2;go_ret;simp;omega
theorem rep_snoc {α:Type}(a:α)(k:Nat):List.replicate k a++ [a]=List.replicate (k+1) a:=by
 rw [List.replicate_succ']
abbrev nilP:Value × Value:=(.slice none 0 0,.slice none 0 0)
theorem zip_rep {α β:Type}(a:α)(b:β)(k:Nat):(List.replicate k a).zip (List.replicate k b)=List.replicate k (a,b):=by
 induction k with
 | zero=>rfl
 | succ k ih=>simp [List.replicate_succ,ih]
theorem pg_snoc(k:Nat):((List.replicate k nilP).zip (List.replicate k zeroP)).flatMap pgCells++ [.int .i64 0,.int .i64 0,.slice none 0 0,.slice none 0 0,.int .i64 0]=((List.replicate (k+1) nilP).zip (List.replicate (k+1) zeroP)).flatMap pgCells:=by
 rw [zip_rep,zip_rep,List.replicate_succ',List.flatMap_append];simp [pgCells]
def NewAt(r:Nat)(refs:Int)(cv lv pv:Value)(a b c:Nat):Pr:=
 (Pr.pts r (refC refs cv lv pv (quietT false))).star ((Row 3 1 cv a (List.replicate a (.int .i64 0))).star ((Row 4 1 lv b (List.replicate b (.bool false))).star (Row 74 5 pv c (((List.replicate c nilP).zip (List.replicate c zeroP)).flatMap pgCells))))
theorem pts7 {b T:Nat}{v0 v1 v2 v3 v4 v5 v6:Value}{F:Pr}{w:World}(h:Sat ((Pr.pts b (.cells #[v0,v1,v2,v3,v4,v5,v6] T)).star F) w):
 w.cell? ⟨b,1,none⟩=some v1∧w.cell? ⟨b,2,none⟩=some v2∧w.cell? ⟨b,3,none⟩=some v3∧(w.frozen? ⟨b,1,none⟩=false∧w.frozen? ⟨b,2,none⟩=false∧w.frozen? ⟨b,3,none⟩=false)∧b<w.heap.size∧w.cell? ⟨b,0,none⟩=some v0:=by
 have h1:=h.pts_heap;exact⟨by rw [cell_of_heap h1];rfl,by rw [cell_of_heap h1];rfl,by rw [cell_of_heap h1];rfl,⟨frozen_of_heap h1 1,frozen_of_heap h1 2,frozen_of_heap h1 3⟩,h.lt,by rw [cell_of_heap h1];rfl⟩
abbrev poolN(refs:Int)(n:Nat):PoolS:= { refs:=refs,counts:=List.replicate n 0,last:=List.replicate n false,acts:= [],floor:=0 }
theorem rnew_bad(pages refs:Int)(h:rangeOk pages refs=false)(w:World):
 Calls Tryz.prog 9 #[.int .i64 pages,.int .i64 refs] w fun e w'=>e= .returned (.tuple #[.pointer none,.int .i64 1])∧w=w':=by
 have hb:¬(1≤pages∧pages≤65536∧2≤refs∧refs<65536):=fun h2=>by rw [rangeOk_iff.2 h2] at h;cases h
 clear h;by_cases h1:pages<1
 · go_enter Tryz.func9,Tryz.ntmps9
   go_wp2;go_ret2;exact⟨rfl,rfl⟩
 · by_cases h2:65536<pages
   · go_enter Tryz.func9,Tryz.ntmps9
     go_wp2;go_ret2;exact⟨rfl,rfl⟩
   · have RA:=hQ (refsAre_any refs w)
     rw [decide_eq_false (show ¬(2≤refs∧refs<65536) by omega)] at RA;go_enter Tryz.func9,Tryz.ntmps9
     go_wp2_with fail
     refine RA.out.mono ?_;rintro e w1 ⟨rfl,rfl⟩;go_wp2;go_ret2;exact⟨rfl,rfl⟩
theorem rnew_any(n:Nat)(refs:Int)(h:rangeOk n refs=true)(F:Pr)(w:World)(hF:Sat F w):
 Calls Tryz.prog 9 #[.int .i64 n,.int .i64 refs] w fun e w'=>Stays w w'∧
  ∃r,e= .returned (.tuple #[.pointer (some ⟨r,0,none⟩),.int .i64 0])∧Sat ((RefA r (poolN refs n) (List.replicate n zeroP) (quietT false)).star F) w':=by
 obtain⟨n1,n2,n3,n4⟩:=rangeOk_iff.1 h;have hn:n≤65536:=by omega
 have RA:=hQ (refsAre_any refs w);rw [decide_eq_true (show 2≤refs∧refs<65536 by omega)] at RA;have h1:=hF.alloc (refC refs (.slice none 0 0) (.slice none 0 0) (.slice none 0 0) (quietT false));have H1:=hQ h1;obtain⟨i0,hi,hz0,hz1,hz2⟩:=info_parts infoInt;obtain⟨j0,hj,hy0,hy1,hy2⟩:=info_parts infoBool;obtain⟨k0,hk,hx0,hx1,hx2⟩:=info_parts infoPageF;clear h1 hF h n3 n4;go_enter Tryz.func9,Tryz.ntmps9
 go_wp2_with fail
 refine RA.out.mono ?_;rintro e w1 ⟨rfl,rfl⟩;go_wp2_with fail
 go_loopw [7] (fun i wr=> ∃(k:Nat) (cv lv pv:Value),k≤n∧i= .int .i64 k∧Stays w wr∧Sat ((NewAt w.heap.size refs cv lv pv k k k).star F) wr) (fun i _=>n-(intOf i).toNat)
 case atStart=>
  refine⟨0,.slice none 0 0,.slice none 0 0,.slice none 0 0,Nat.zero_le _,rfl,(Stays.refl w).alloc _,?_⟩;unfold NewAt;show Sat (((Pr.pts w.heap.size _).star ((Row _ 1 (.slice none 0 0) 0 []).star ((Row _ 1 (.slice none 0 0) 0 []).star (Row _ 5 (.slice none 0 0) 0 [])))).star F) _
  rw [Row.nil,Row.nil,Row.nil,Pr.emp_star,Pr.star_emp,Pr.star_emp];exact H1.out
 case round=>
  obtain⟨k,cv,lv,pv,hkn,rfl,hst,hs⟩:=hrel;rcases Nat.lt_or_ge k n with hlt | hge
  · have e1:Sat ((Row 3 1 cv k (List.replicate k (.int .i64 0))).star ((Pr.pts w.heap.size (refC refs cv lv pv (quietT false))).star ((Row 4 1 lv k (List.replicate k (.bool false))).star ((Row 74 5 pv k (((List.replicate k nilP).zip (List.replicate k zeroP)).flatMap pgCells)).star F)))) wr:=hs.perm (by unfold NewAt;ac_rfl)
    obtain⟨a1,c1,rfl,_,_⟩:=Row.read e1;obtain⟨a2,c2,rfl,_,_⟩:=Row.read e1.right.right;obtain⟨a3,c3,rfl,_,_⟩:=Row.read e1.right.right.right;obtain⟨q1,q2,q3,⟨f1,f2,f3⟩,z,_⟩:=pts7 e1.right;have A1:=hQ (e1.alloc (.cells #[.int .i64 0] 3)).right;have hnew:=hQ (new_cells wr [.int .i64 0] 3 _ rfl);have HST:=hQ hst;clear hs e1 hst
    go_wp2_with (first
     | (at_builtin
        refine wpList_append_sl rfl _ _ _ rfl 3 i0 (.int .i64 0) 1 8 Tryz.underlying31 hi hz0 hz1 hz2 rfl _ _ _ rfl A1.out ⟨wr.heap.size,0,none⟩ 1 1 [.int .i64 0] rfl rfl hnew.out (by simp [Value.oneCell']) (by simp only [maxLen];omega) (by omega) ?_
        intro v4 w4 hs4 hg4 _
        obtain⟨a4,c4,e4,_,_⟩:=Row.read hs4
        subst e4
        obtain⟨q1,q2,q3,⟨f1,f2,f3⟩,z4⟩:=pts7 hs4.right
        have s4:=(hs4.perm (Pr.left_comm _ _ _)).setCell (i:=1) (.slice a4 (k+1) c4)
        have B1:Sat ((Row 4 1 (.slice a2 k c2) k (List.replicate k (.bool false))).star ((Pr.pts w.heap.size (refC refs (.slice a4 (k+1) c4) (.slice a2 k c2) (.slice a3 k c3) (quietT false))).star ((Row 3 1 (.slice a4 (k+1) c4) (k+1) (List.replicate k (.int .i64 0)++ [.int .i64 0])).star ((Row 74 5 (.slice a3 k c3) k (((List.replicate k nilP).zip (List.replicate k zeroP)).flatMap pgCells)).star F)))) (w4.setCell ⟨w.heap.size,1,none⟩ (.slice a4 (k+1) c4)):=s4.perm (by rw [Pr.left_comm];ac_rfl)
        have A2:=hQ (B1.alloc (.cells #[.bool false] 4)).right
        have hnew2:=hQ (new_cells (w4.setCell ⟨w.heap.size,1,none⟩ (.slice a4 (k+1) c4)) [.bool false] 4 w4.heap.size (by simp [World.setCell]))
        have HST4:=hQ (((HST.out.alloc _).of_grown hg4).setCell ⟨w.heap.size,1,none⟩ (.slice a4 (k+1) c4))
        clear hs4 hg4 s4 B1)
     | (at_builtin
        refine wpList_append_sl rfl _ _ _ rfl 4 j0 (.bool false) 1 1 Tryz.underlying32 hj hy0 hy1 hy2 rfl _ _ _ rfl A2.out ⟨w4.heap.size,0,none⟩ 1 1 [.bool false] rfl rfl hnew2.out (by simp [Value.oneCell']) (by simp only [maxLen];omega) (by omega) ?_
        intro v5 w5 hs5 hg5 _
        obtain⟨a5,c5,e5,_,_⟩:=Row.read hs5
        subst e5
        obtain⟨q1,q2,q3,⟨f1,f2,f3⟩,z5⟩:=pts7 hs5.right
        have s5:=(hs5.perm (Pr.left_comm _ _ _)).setCell (i:=2) (.slice a5 (k+1) c5)
        have B2:Sat ((Row 74 5 (.slice a3 k c3) k (((List.replicate k nilP).zip (List.replicate k zeroP)).flatMap pgCells)).star ((Pr.pts w.heap.size (refC refs (.slice a4 (k+1) c4) (.slice a5 (k+1) c5) (.slice a3 k c3) (quietT false))).star ((Row 3 1 (.slice a4 (k+1) c4) (k+1) (List.replicate k (.int .i64 0)++ [.int .i64 0])).star ((Row 4 1 (.slice a5 (k+1) c5) (k+1) (List.replicate k (.bool false)++ [.bool false])).star F)))) (w5.setCell ⟨w.heap.size,2,none⟩ (.slice a5 (k+1) c5)):=(show Sat ((Pr.pts w.heap.size (refC refs (.slice a4 (k+1) c4) (.slice a5 (k+1) c5) (.slice a3 k c3) (quietT false))).star ((Row 4 1 (.slice a5 (k+1) c5) (k+1) (List.replicate k (.bool false)++ [.bool false])).star ((Row 3 1 (.slice a4 (k+1) c4) (k+1) (List.replicate k (.int .i64 0)++ [.int .i64 0])).star ((Row 74 5 (.slice a3 k c3) k (((List.replicate k nilP).zip (List.replicate k zeroP)).flatMap pgCells)).star F)))) _ from s5).perm (by ac_rfl)
        have A3:=hQ (B2.alloc (.cells [.int .i64 0,.int .i64 0,.slice none 0 0,.slice none 0 0,.int .i64 0].toArray 74)).right
        have hnew3:=hQ (new_cells (w5.setCell ⟨w.heap.size,2,none⟩ (.slice a5 (k+1) c5)) [.int .i64 0,.int .i64 0,.slice none 0 0,.slice none 0 0,.int .i64 0] 74 w5.heap.size (by simp [World.setCell]))
        have HST5:=hQ (((HST4.out.alloc (.cells #[.bool false] 4)).of_grown hg5).setCell ⟨w.heap.size,2,none⟩ (.slice a5 (k+1) c5))
        clear hs5 hg5 s5 B2 A2)
     | (at_builtin
        refine wpList_append_sl rfl _ _ _ rfl 74 k0 (.agg #[.int .i64 0,.int .i64 0,.slice none 0 0,.slice none 0 0,.int .i64 0]) 5 72 Tryz.underlying33 hk hx0 hx1 hx2 rfl _ _ _ rfl A3.out ⟨w5.heap.size,0,none⟩ 1 1 [.int .i64 0,.int .i64 0,.slice none 0 0,.slice none 0 0,.int .i64 0] rfl rfl hnew3.out (by simp [Value.oneCell']) (by simp only [maxLen];omega) (by omega) ?_
        intro v6 w6 hs6 hg6 _
        obtain⟨a6,c6,e6,_,_⟩:=Row.read hs6
        subst e6
        obtain⟨q1,q2,q3,⟨f1,f2,f3⟩,z6⟩:=pts7 hs6.right
        have HST6:=hQ ((HST5.out.alloc (.cells [.int .i64 0,.int .i64 0,.slice none 0 0,.slice none 0 0,.int .i64 0].toArray 74)).of_grown hg6)
        have HS6:=hQ hs6
        clear hs6 hg6 A3))
    go_roundw
    case rel=>
     have s7:=(HS6.out.perm (Pr.left_comm _ _ _)).setCell (i:=3) (.slice a6 (k+1) c6);refine⟨k+1,.slice a4 (k+1) c4,.slice a5 (k+1) c5,.slice a6 (k+1) c6,by omega,congrArg (Value.int .i64) (by omega),HST6.out.setCell _ _,?_⟩;unfold NewAt;rw [← rep_snoc, ← rep_snoc, ← pg_snoc]
     exact(show Sat ((Pr.pts w.heap.size (refC refs (.slice a4 (k+1) c4) (.slice a5 (k+1) c5) (.slice a6 (k+1) c6) (quietT false))).star ((Row 74 5 (.slice a6 (k+1) c6) (k+1) (((List.replicate k nilP).zip (List.replicate k zeroP)).flatMap pgCells++ [.int .i64 0,.int .i64 0,.slice none 0 0,.slice none 0 0,.int .i64 0])).star ((Row 3 1 (.slice a4 (k+1) c4) (k+1) (List.replicate k (.int .i64 0)++ [.int .i64 0])).star ((Row 4 1 (.slice a5 (k+1) c5) (k+1) (List.replicate k (.bool false)++ [.bool false])).star F)))) _ from s7).perm (by ac_rfl)
    case measure=>simp [intOf];omega
  · have hkn2:k=n:=by omega
    subst hkn2;have HS:=hQ hs;clear hs;go_wp2;go_ret2;refine⟨hst,w.heap.size,rfl,refA_iff.2 ⟨⟨cv,lv,pv,List.replicate k nilP,Hp.nil⟩,?_,?_⟩⟩
    · refine⟨⟨by simp,fun i hx hl=> ?_⟩,by simp,by simp,by simpa using hn,fun c hc=> ?_,fun g hg=> ?_⟩
      · simp only [List.getElem_replicate]
        exact⟨items_mk (Nat.zero_le _),RowIn.nil _ _⟩
      · rw [List.eq_of_mem_replicate hc];exact Int.le_refl _
      · rw [List.eq_of_mem_replicate hg]
        exact⟨by simp,by simp,fun x hx=>by cases hx⟩
    · refine HS.out.perm ?_
      unfold NewAt RefAt PgRow IntsRow BoolsRow;rw [own_nil,Pr.star_emp];simp only [List.length_replicate,List.map_replicate]
end Go.Proofs.YtkfjilnmnbeokaaGreat.P7
namespace Go.Proofs.YtkfjilnmnbeokaaGreat.Q7
open ChangeShapes WideShapes ChangeAt RowKit Sl Cop D2 D3 J3 V3 G2 J2 X3 Y3 M4 P5 Z3 Y5 C6 D7 K7 L7 P7
end Go.Proofs.YtkfjilnmnbeokaaGreat.Q7
namespace Go.Sl
end Go.Sl
namespace Go.Proofs.YtkfjilnmnbeokaaGreat.T7
open ChangeShapes WideShapes ChangeAt RowKit Sl Cop D2 D3 J3 V3 G2 J2 X3 Y3 E4 M4 P5 Q5 Z3 Y5 C6 V5 Q4 D7 K7 L7 P7
end Go.Proofs.YtkfjilnmnbeokaaGreat.T7
namespace Go.Proofs.YtkfjilnmnbeokaaGreat.U7
open ChangeShapes WideShapes ChangeAt RowKit Sl Cop D2 D3 J3 M3 V3 G2 J2 X3 Y3 E4 M4 P5 Q5 Z3 Y5 C6 V5 Q4 D7 J4 K7 L7 P7 T7
def pgsOf(n:Nat)(on:Int→Option PageV):List PageV:=(List.range n).map fun i:Nat=>(on ((i:Int)+1)).getD zeroP
def laidOf(n:Nat)(on:Int→Option PageV):List Bool:=(List.range n).map fun i:Nat=>(on ((i:Int)+1)).isSome
abbrev LaidRow(v:Value)(l:List Bool):Pr:=Row 4 1 v l.length (l.map Value.bool)
theorem filled {α:Type}{us cs:List α}(hl:us.length=cs.length)(h:∀i,i<cs.length→us[i]? =cs[i]?):us=cs:=
 List.ext_getElem? fun i=>by
  rcases Nat.lt_or_ge i cs.length with hi | hi
  · exact h i hi
  · rw [List.getElem?_eq_none (by omega),List.getElem?_eq_none hi]
theorem fill_step {α:Type}{us cs:List α}{k:Nat}(hl:us.length=cs.length)(hk:k<cs.length)(h:∀i,i<k→us[i]? =cs[i]?):∀i,i<k+1→(us.set k cs[k])[i]? =cs[i]? :=by
 intro i hi;by_cases he:i=k
 · subst he
   rw [List.getElem?_set_self (by omega),List.getElem?_eq_getElem hk]
 · rw [List.getElem?_set_ne (by omega)]
   exact h i (by omega)
abbrev lawS(refs:Int)(us:List Int)(bs:List Bool):PoolS:= { refs:=refs,counts:=us,last:=bs,acts:= [],floor:=0 }
end Go.Proofs.YtkfjilnmnbeokaaGreat.U7
namespace Go.Proofs.YtkfjilnmnbeokaaGreat.V7
open ChangeShapes WideShapes ChangeAt RowKit Sl Cop D2 D3 J3 V3 G2 J2 X3 Y3 P5 Z3 Y5 K7 L7 P7 T7 Q7
def incL(refs:Int)(cs:List Int)(n:Int):Int:=if cntL cs n=0 then 15 else if refs≤cntL cs n then 13 else 0
def RPool.counts(s:PoolS)(cs:List Int):PoolS:= { s with counts:=cs }
theorem addC_nn {cs:List Int}{n b:Int}(h0:∀c∈cs,0≤c)(hb:0≤cntL cs n+b):∀c∈addC cs n b,0≤c:=by
 intro c hc;unfold addC at hc;rcases List.mem_or_eq_of_mem_set hc with h | h
 · exact h0 c h
 · rw [h];exact hb
theorem cnt_idx {cs:List Int}{j:Nat}(hj:j<cs.length):cntL cs ((j:Int)+1)=cs.getD j 0:=by
 unfold cntL;rw [if_pos (by omega),show ((j:Int)+1).toNat-1=j by omega]
end Go.Proofs.YtkfjilnmnbeokaaGreat.V7
namespace Go.Proofs.YtkfjilnmnbeokaaGreat.W7
open ChangeShapes WideShapes ChangeAt RowKit Sl Cop D2 D3 J3 V3 G2 J2 X3 Y3 M4 P5 Z3 Y5 C6 D7 K7 L7 P7 T7 Q7
end Go.Proofs.YtkfjilnmnbeokaaGreat.W7
namespace Go.Proofs.YtkfjilnmnbeokaaGreat.X7
open ChangeShapes WideShapes ChangeAt RowKit Sl Cop G2 J2 X3 Y3 Z3 Y5 N7
theorem bload_bad(v:Nat)(x:ItemV)(ak av:Option Addr)(ck cv:Nat)(hb:x.size<0∨3840<x.size∨(x.size≤32∧(x.value.length:Int)≠x.size))(w:World):
 Calls Tryz.prog 67 #[.pointer (some ⟨v,0,none⟩),itemV (.slice ak x.key.length ck) (.slice av x.value.length cv) x.child x.size] w fun e w'=>e= .returned (.tuple #[.slice none 0 0,.int .i64 8])∧Only w w':=by
 by_cases h1:x.size<0
 · go_enter Tryz.func67,Tryz.ntmps67
   go_wp2;go_ret2;exact⟨rfl,(Only.refl w).alloc _⟩
 · by_cases h2:3840<x.size
   · go_enter Tryz.func67,Tryz.ntmps67
     go_wp2;go_ret2;exact⟨rfl,(Only.refl w).alloc _⟩
   · have h3:x.size≤32:=by omega
     have h4:((x.value.length:Int) != x.size)=true:=by rw [bne_iff_ne];omega
     go_enter Tryz.func67,Tryz.ntmps67
     go_wp2
     all_goals
      go_ret2;exact⟨rfl,(Only.refl w).alloc _⟩
theorem bload_short(v:Nat)(x:ItemV)(ak av:Option Addr)(ck cv:Nat)(h:Hp)(hv:Bytes h (.slice av x.value.length cv) x.value)(hs:0≤x.size∧x.size≤32∧(x.value.length:Int)=x.size)(F:Pr)(w:World)(hF:Sat ((Pr.own h).star F) w):
 Calls Tryz.prog 67 #[.pointer (some ⟨v,0,none⟩),itemV (.slice ak x.key.length ck) (.slice av x.value.length cv) x.child x.size] w fun e w'=>
  Stays w w'∧∃o,e= .returned (.tuple #[o,.int .i64 0])∧Sat ((BytesRow o x.value).star ((Pr.own h).star F)) w':=by
 obtain⟨h1,h2,h3⟩:=hs;have h0:=hF.alloc (itemC (.slice ak x.key.length ck) (.slice av x.value.length cv) x.child x.size);have C:=hQ (bclone_any h _ x.value _ _ h0 h0.right.own hv (by omega));have hne:((x.value.length:Int) != x.size)=false:=by rw [bne_eq_false_iff_eq];exact h3
 have HST:=hQ ((Stays.refl w).alloc (itemC (.slice ak x.key.length ck) (.slice av x.value.length cv) x.child x.size));have H3:=hQ h3;have h4:¬3840<x.size:=by omega
 have h5:¬x.size<0:=by omega
 clear hF h0 hv h3 h1;go_enter Tryz.func67,Tryz.ntmps67
 go_wp2_with fail
 refine C.out.mono ?_;rintro e w1 ⟨o,rfl,hs1,st1⟩;have S1:=hQ hs1;obtain⟨ao,co,rfl,_,_⟩:=Row.read hs1;clear hs1;go_wp2;go_ret2;exact⟨HST.out.trans st1,_,rfl,(S1.out.perm (Pr.left_comm _ _ _)).right⟩
theorem bload_any(v:Nat)(s:VaultS)(look:Int→Option PageV)(hl:Looks s look)(x:ItemV)(h:Hp)(iv:Value)(hi:ItemIn h iv x)(F:Pr)(w:World)(hF:Sat ((VaultA v s).star ((Pr.own h).star F)) w):
 Calls Tryz.prog 67 #[.pointer (some ⟨v,0,none⟩),iv] w fun e w'=>
  Stays w w'∧∃o,e= .returned (.tuple #[o,.int .i64 (valueL look x.size x.child x.value).2])∧Sat ((BytesRow o (valueL look x.size x.child x.value).1).star ((VaultA v s).star ((Pr.own h).star F))) w':=by
 obtain⟨kv,vv,rfl,hk,hvv⟩:=hi;obtain⟨ak,ck,rfl⟩:=bytes_shape hk;obtain⟨av,cv,rfl⟩:=bytes_shape hvv;unfold valueL;by_cases hb:x.size<0∨3840<x.size∨(x.size≤32∧(x.value.length:Int)≠x.size)
 · rw [if_pos hb]
   refine(bload_bad v x ak av ck cv hb w).mono ?_;rintro e w' ⟨rfl,ho⟩;refine⟨ho.st,_,rfl,?_⟩;show Sat ((Row 5 1 (.slice none 0 0) 0 []).star _) _
   rw [Row.nil,Pr.emp_star];exact hF.only ho
 · rw [if_neg hb]
   by_cases h32:x.size≤32
   · rw [if_pos h32]
     refine(bload_short v x ak av ck cv h hvv (by omega) _ w (hF.perm (Pr.left_comm _ _ _))).mono ?_;rintro e w' ⟨st,o,rfl,h1⟩;exact⟨st,o,rfl,h1.perm (by ac_rfl)⟩
   · rw [if_neg h32]
     have e1:x.size=((x.size.toNat:Nat):Int):=by omega
     have:=bload_long v s look hl (.slice ak x.key.length ck) (.slice av x.value.length cv) ⟨_,_,_,rfl⟩ ⟨_,_,_,rfl⟩ x.child x.size.toNat (by omega) _ w hF
     rw [← e1] at this;exact this
end Go.Proofs.YtkfjilnmnbeokaaGreat.X7
namespace Go.Proofs.YtkfjilnmnbeokaaGreat.Y7
open ChangeShapes WideShapes ChangeAt RowKit Sl Cop D2 D3 J3 V3 G2 J2 X3 Y3 E4 M4 U4 Z3 Y5 D7 K7 L7 N7
structure RLooks(s:PoolS)(gs:List PageV)(look:Int→Option PageV):Prop where
 none:∀n,look n=none→s.count n=0
 some:∀n g,look n=some g→s.count n≠0∧pgAt gs n=g∧Fit g
end Go.Proofs.YtkfjilnmnbeokaaGreat.Y7
namespace Go.Proofs.YtkfjilnmnbeokaaGreat.Z7
open ChangeShapes WideShapes ChangeAt RowKit Sl Cop D2 D3 J3 V3 G2 J2 X3 Y3 P5 Z3 Y5 K7 L7 P7 T7 Q7 V7 M6
end Go.Proofs.YtkfjilnmnbeokaaGreat.Z7
namespace Go.Proofs.YtkfjilnmnbeokaaGreat.B8
open ChangeShapes WideShapes ChangeAt RowKit Sl Cop G2 J2 X3 Y3 Z3 Y5 Q5 K7 L7 N7 Y7
end Go.Proofs.YtkfjilnmnbeokaaGreat.B8
namespace Go.Proofs.YtkfjilnmnbeokaaGreat.C8
open ChangeShapes WideShapes ChangeAt RowKit Sl Cop D2 D3 J3 V3 G2 J2 X3 Y3 Y4 P5 Z3 Y5 K7 L7 P7 T7 Q7 V7 M6 Z7 N7 D6
def countsW(r n:Nat)(w:World):List Int:=(List.range n).map fun j=>match w.cell? ⟨r,1,none⟩ with
 | some (.slice (some a) _ _)=>(match w.cell? ⟨a.block,j,none⟩ with | some (.int _ c)=>c | _=>0)
 | _=>0
end Go.Proofs.YtkfjilnmnbeokaaGreat.C8
