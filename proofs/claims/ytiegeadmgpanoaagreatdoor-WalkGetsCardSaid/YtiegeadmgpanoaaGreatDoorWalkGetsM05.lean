/- The vault's Load; the conditions stand as hypotheses. -/
import Derived.Test.YtiegeadmgpanoaaGreatDoorWalkChecksM13
import Derived.Test.YtiegeadmgpanoaaGreatDoorWalkGetsM02
import Derived.Test.YtiegeadmgpanoaaGreatDoorWalkChecksM14
import Derived.Test.YtiegeadmgpanoaaGreatDoorWalkGetsM04
import Derived.Test.YtiegeadmgpanoaaGreatDoorWalkChecksM21
import Derived.Test.YtiegeadmgpanoaaGreatDoorWalkGetsM03
import Derived.Test.YtiegeadmgpanoaaGreatDoorWalkChecksM15
import Derived.Test.YtiegeadmgpanoaaGreatDoorWalkChecksM03
import Derived.Test.YtiegeadmgpanoaaGreatDoorWalkGetsM01
import Derived.Test.YtiegeadmgpanoaaGreatDoorWalkChecksM12
import Derived.Test.YtiegeadmgpanoaaGreatDoorWalkChecksM23
import Derived.Test.YtiegeadmgpanoaaGreatDoorWalkChecksM22
import Derived.Test.YtiegeadmgpanoaaGreatDoorWalkChecksM05
import Derived.Test.YtiegeadmgpanoaaGreatDoorWalkChecksM24
import Derived.Test.YtiegeadmgpanoaaGreatDoorWalkChecksM25
import Derived.Deep.CutRange
import Derived.Test.YtiegeadmgpanoaaGreatDoorWalkChecksM16
import Derived.Test.YtiegeadmgpanoaaGreatDoorWalkChecksM11
import Derived.BigQuiet
import Derived.Deep.QuietTactic
import Derived.Lib.SmallJoins
import Derived.Test.YtiegeadmgpanoaaGreatDoorWalkChecksM17
import Derived.Test.YtiegeadmgpanoaaGreatDoorWalkChecksM27
import Derived.Test.YtiegeadmgpanoaaGreatDoorWalkChecksM19
import Derived.Test.YtiegeadmgpanoaaGreatDoorWalkChecksM26
import Derived.Test.YtiegeadmgpanoaaGreatDoorWalkChecksM01
set_option maxRecDepth 100000
set_option maxHeartbeats 16000000











namespace Go.Proofs.YtiegeadmgpanoaaGreatDoor.U6
open ChangeShapes WideShapes ChangeAt RowKit Sl Cop F3 P3 G2 J2 N2 Q3 V3 M4 K5 X3 P6
theorem spareL_len(l:List Int):(spareL l).length=l.length+64:=by simp [spareL]
theorem spareL_low {l:List Int}{k:Nat}(h:k<l.length):(spareL l)[k]'(by rw [spareL_len];omega)=l.getD k 0:=by
 unfold spareL;rw [List.getElem_append_left h];simp [h]
theorem spareL_high {l:List Int}{k:Nat}(h:l.length≤k)(h2:k<l.length+64):(spareL l)[k]'(by rw [spareL_len];omega)=markB k:=by
 unfold spareL;rw [List.getElem_append_right h];simp only [List.getElem_map,List.getElem_range];rw [show l.length+(k-l.length)=k by omega]
theorem row_made1 {F:Pr}{w:World}(T:Nat)(z:Value)(n:Nat)(hn:n≤maxLen)(h:Sat F w):
 Sat ((Row T 1 (.slice (some ⟨w.heap.size,0,none⟩) n n) n (List.replicate n z)).star F) (w.alloc (.cells (madeCells #[z] n) T)):=row_made T z n hn h
theorem spare_any(h:Hp)(v:Value)(l:List Int)(F:Pr)(w:World)(hF:Sat ((Pr.own h).star F) w)(hx:Bytes h v l)(hn:l.length≤140737488351232):
 Calls Tryz.prog 13 #[v] w fun e w'=> ∃b,e= .returned (.slice (some ⟨b,0,none⟩) l.length (l.length+64))∧Sat ((WholeRow b l).star ((Pr.own h).star F)) w'∧Stays w w':=by
 obtain⟨a,c,rfl,r1⟩:=bytes_rd hx;obtain⟨i0,hi,hz0,hz1,hz2⟩:=info_parts infoByte
 have hmk:∀wx:World,(Instr.makeSlice 42 (.int .i64 ((l.length:Int)+64)) (.int .i64 ((l.length:Int)+64))).run Tryz.prog wx= .ok (.slice (some ⟨wx.heap.size,0,none⟩) (l.length+64) (l.length+64)) (wx.alloc (.cells (madeCells #[.int .u8 0] (l.length+64)) 5)):=by
  intro wx;have:=run_make (P:=Tryz.prog) wx 42 5 i0 (.int .u8 0) Tryz.underlying42 hi hz0 .i64 .i64 ((l.length:Int)+64) ((l.length:Int)+64) (by omega) (by omega) (by rw [hz2];omega) (by omega)
  rw [hz1,show ((l.length:Int)+64).toNat=l.length+64 by omega,Nat.mul_one] at this;exact this
 have h2:=hQ (row_made1 5 (.int .u8 0) (l.length+64) (by simp only [maxLen];omega) hF);have R1:=hQ r1;have hn0:(l.length:Int)≤140737488351232:=by omega
 clear hF hx r1;go_enter Tryz.func13,Tryz.ntmps13
 go_wp2;go_loopw [4] (fun i wr=> ∃(k:Nat) (zs:List Int),k≤l.length+64∧i= .int .i64 k∧Stays w wr∧zs.length=l.length+64∧Hid (∀i,i<k→zs[i]? =(spareL l)[i]?)∧Sat ((Row 5 1 (.slice (some ⟨w.heap.size,0,none⟩) (l.length+64) (l.length+64)) (l.length+64) (zs.map (Value.int .u8))).star ((Pr.own h).star F)) wr) (fun i _=>l.length+64-(intOf i).toNat)
 case atStart=>
  refine⟨0,List.replicate (l.length+64) 0,Nat.zero_le _,rfl,(Stays.refl w).alloc _,by simp,hQ (fun i hi=>absurd hi (by omega)),?_⟩;rw [List.map_replicate];exact h2.out
 case round=>
  obtain⟨k,zs,hk,rfl,hst,hzl,hfill,hs⟩:=hrel;have HZL:=hQ hzl;clear hzl;rcases Nat.lt_or_ge k (l.length+64) with hlt | hge
  · obtain⟨_,_,e,_,hc⟩:=Row.read hs
    cases e;obtain⟨b,eb,hd⟩:=hc (by omega);cases eb
    have k0:∃u,wr.cell? ⟨w.heap.size,k,none⟩=some u:=by
     have:=(hd k (by omega)).1
     rw [List.getElem?_eq_getElem (by rw [List.length_map,HZL.out];omega)] at this;exact⟨_,this⟩
    obtain⟨u,k0⟩:=k0;have kf:=(hd k (by omega)).2;have kz:=World.block_lt_of_cell? _ _ k0;clear hc hd;have HS:=hQ hs;have HSTK:=hQ hst;clear hst;rcases Nat.lt_or_ge k l.length with hl1 | hl1
    · obtain⟨b,off,rfl,c1⟩:=R1.out k hl1
      have q1:=c1 wr hs.right.own;have HLO:=hQ (spareL_low hl1);clear c1 hs;generalize l.getD k 0=x at*;go_wp2;refine⟨⟨k+1,zs.set k (x),by omega,congrArg (Value.int .i64) (by omega),HSTK.out.setCell _ _,by rw [List.length_set];exact HZL.out,hQ ?_,?_⟩,by simp [intOf];omega⟩
      · have e:x=(spareL l)[k]'(by rw [spareL_len];omega):=HLO.out.symm
        rw [e];exact fill_step (by rw [spareL_len];exact HZL.out) (by rw [spareL_len];exact hlt) hfill.out
      · rw [List.map_set]
        exact Row.set HS.out k (by rw [List.length_map,HZL.out];exact hlt) _
    · have HHI:=hQ (spareL_high hl1 hlt)
      clear hs;go_wp2;refine⟨⟨k+1,zs.set k (bits .xor .i64 165 (k:Int) % 256),by omega,congrArg (Value.int .i64) (by omega),HSTK.out.setCell _ _,by rw [List.length_set];exact HZL.out,hQ ?_,?_⟩,by simp [intOf];omega⟩
      · have e:bits .xor .i64 165 (k:Int) % 256=(spareL l)[k]'(by rw [spareL_len];omega):=HHI.out.symm
        rw [e];exact fill_step (by rw [spareL_len];exact HZL.out) (by rw [spareL_len];exact hlt) hfill.out
      · rw [List.map_set]
        exact Row.set HS.out k (by rw [List.length_map,HZL.out];exact hlt) _
  · have hkl:k=l.length+64:=by omega
    subst hkl;have e1:zs=spareL l:=filled (by rw [spareL_len];exact HZL.out) (by intro i hi;rw [spareL_len] at hi;exact hfill.out i hi);subst e1;have HS:=hQ hs;have HSTK:=hQ hst;clear hs hst hfill HZL;go_wp2;go_ret;exact⟨w.heap.size,rfl,HS.out,HSTK.out⟩
end Go.Proofs.YtiegeadmgpanoaaGreatDoor.U6



namespace Go.Proofs.YtiegeadmgpanoaaGreatDoor.Y6
open ChangeShapes WideShapes ChangeAt RowKit Sl Cop F3 P3 G2 J2 N2 Q3 V3 X3 E4 U6
theorem whole_bytes {b:Nat}{l:List Int}{hx:Hp}(h:WholeRow b l hx):Bytes hx (.slice (some ⟨b,0,none⟩) l.length (l.length+64)) l:=by
 obtain⟨_,a,c,e,h1,h2,h3⟩:=Row.rowIn h;cases e;refine⟨by simp,some ⟨b,0,none⟩,l.length+64,rfl,by omega,h2,fun _=>⟨b,0,rfl,fun i hi=> ?_⟩⟩;obtain⟨b',off,eb,hc⟩:=h3 (by omega);cases eb;rw [hc i (by omega)];have hi2:i<l.length:=by omega
 simp [spareL,List.getElem?_append_left,hi2]
theorem whole_at {b:Nat}{l:List Int}{F:Pr}{w:World}(h:Sat ((WholeRow b l).star F) w){k:Nat}(h1:l.length≤k)(h2:k<l.length+64):w.cell? ⟨b,k,none⟩=some (.int .u8 (markB k)):=by
 obtain⟨_,_,e,_,hc⟩:=Row.read h;cases e;obtain⟨b',eb,hd⟩:=hc (by omega);cases eb;rw [(hd k (by omega)).1,List.getElem?_map,List.getElem?_eq_getElem (by rw [spareL_len];exact h2),spareL_high h1 h2];rfl
theorem kept_any(b:Nat)(l:List Int)(h:Hp)(v:Value)(hx:Bytes h v l)(hn:l.length≤140737488351232)(F:Pr)(w:World)(hF:Sat ((WholeRow b l).star ((Pr.own h).star F)) w):
 Calls Tryz.prog 25 #[.slice (some ⟨b,0,none⟩) l.length (l.length+64),v] w fun e w'=>e= .returned (.bool true)∧Only w w':=by
 obtain⟨a,ha,h2⟩:=hF.toOwn;have EQ:=hQ (eq_same a h _ v l (whole_bytes ha) hx (by omega) w h2.own h2.right.own);obtain⟨av,cv,rfl⟩:=bytes_shape hx;have HF:=hQ hF;have hn0:(l.length:Int)≤140737488351232:=by omega
 clear hF ha h2 hx;go_enter Tryz.func25,Tryz.ntmps25
 go_wp2_with fail
 refine EQ.out.mono ?_;rintro e w1 ⟨rfl,ho1⟩;go_wp2_with fail
 go_loopw [6] (fun i wr=> ∃k:Nat,l.length≤k∧k≤l.length+64∧i= .int .i64 k∧Only w wr) (fun i _=>l.length+64-(intOf i).toNat)
 case atStart=>exact⟨l.length,Nat.le_refl _,by omega,rfl,ho1⟩
 case round=>
  obtain⟨k,hk1,hk2,rfl,ho⟩:=hrel;rcases Nat.lt_or_ge k (l.length+64) with hlt | hge
  · have q0:=whole_at (HF.out.only ho) hk1 hlt
    unfold markB at q0;go_wp2;go_roundw
    case rel=>exact⟨k+1,by omega,by omega,congrArg (Value.int .i64) (by omega),ho⟩
    case measure=>simp [intOf];omega
  · have hkl:k=l.length+64:=by omega
    subst hkl;go_wp2;go_ret;exact⟨rfl,ho⟩
end Go.Proofs.YtiegeadmgpanoaaGreatDoor.Y6


namespace Go.Proofs.YtiegeadmgpanoaaGreatDoor.D7
open ChangeShapes WideShapes ChangeAt RowKit Sl Cop G2 J2 Q3 V3 X3 M5 K5 G6 J6 L6 T6
theorem rbload_bad(v:Nat)(x:ItemV)(ak av:Option Addr)(ck cv:Nat)(hb:x.size<0∨3840<x.size∨(x.size≤32∧(x.value.length:Int)≠x.size))(w:World):
 Calls Tryz.prog 91 #[.pointer (some ⟨v,0,none⟩),itemV (.slice ak x.key.length ck) (.slice av x.value.length cv) x.child x.size] w fun e w'=>e= .returned (.tuple #[.slice none 0 0,.int .i64 8])∧Only w w':=by
 by_cases h1:x.size<0
 · go_enter Tryz.func91,Tryz.ntmps91
   go_wp2;go_ret2;exact⟨rfl,(Only.refl w).alloc _⟩
 · by_cases h2:3840<x.size
   · go_enter Tryz.func91,Tryz.ntmps91
     go_wp2;go_ret2;exact⟨rfl,(Only.refl w).alloc _⟩
   · have h3:x.size≤32:=by omega
     have h4:((x.value.length:Int) != x.size)=true:=by rw [bne_iff_ne];omega
     go_enter Tryz.func91,Tryz.ntmps91
     go_wp2
     all_goals
      go_ret2;exact⟨rfl,(Only.refl w).alloc _⟩
theorem rbload_short(v:Nat)(x:ItemV)(ak av:Option Addr)(ck cv:Nat)(h:Hp)(hv:Bytes h (.slice av x.value.length cv) x.value)(hs:0≤x.size∧x.size≤32∧(x.value.length:Int)=x.size)(F:Pr)(w:World)(hF:Sat ((Pr.own h).star F) w):
 Calls Tryz.prog 91 #[.pointer (some ⟨v,0,none⟩),itemV (.slice ak x.key.length ck) (.slice av x.value.length cv) x.child x.size] w fun e w'=>
  Stays w w'∧∃o,e= .returned (.tuple #[o,.int .i64 0])∧Sat ((BytesRow o x.value).star ((Pr.own h).star F)) w':=by
 obtain⟨h1,h2,h3⟩:=hs;have h0:=hF.alloc (itemC (.slice ak x.key.length ck) (.slice av x.value.length cv) x.child x.size);have C:=hQ (copybytes_any h _ x.value _ _ (h0.perm (Pr.left_comm _ _ _)) hv (by omega));have hne:((x.value.length:Int) != x.size)=false:=by rw [bne_eq_false_iff_eq];exact h3
 have HST:=hQ ((Stays.refl w).alloc (itemC (.slice ak x.key.length ck) (.slice av x.value.length cv) x.child x.size));have H3:=hQ h3;have h4:¬3840<x.size:=by omega
 have h5:¬x.size<0:=by omega
 clear hF h0 hv h3 h1;go_enter Tryz.func91,Tryz.ntmps91
 go_wp2_with fail
 refine C.out.mono ?_;rintro e w1 ⟨o,rfl,hs1,st1⟩;have S1:=hQ hs1;obtain⟨ao,co,rfl,_,_⟩:=Row.read hs1;clear hs1;go_wp2;go_ret2;exact⟨HST.out.trans st1,_,rfl,(S1.out.perm (B:=(Pr.pts w.heap.size (itemC (.slice ak x.key.length ck) (.slice av x.value.length cv) x.child x.size)).star ((BytesRow (.slice ao x.value.length co) x.value).star ((Pr.own h).star F))) (by ac_rfl)).right⟩
end Go.Proofs.YtiegeadmgpanoaaGreatDoor.D7


namespace Go.Proofs.YtiegeadmgpanoaaGreatDoor.L8
open ChangeShapes WideShapes ChangeAt RowKit Sl Cop D2 F3 K3 P3 G2 J2 Q3 V3 C4 D4 F4 G4 K4 M4 G5 K5 X3 M5 P5 G6 J6 F6 L6 T6 D7
theorem rread_x(r:Nat)(s:PoolS)(gs:List PageV)(hush:RTail)(x:RX)(ok:ROk s gs x)(n:Int)(F:Pr)(w:World)(h:Sat ((RefAt r s gs hush x).star F) w)(h0:s.count n≠0):
 Calls Tryz.prog 46 #[.pointer (some ⟨r,0,none⟩),.int .i64 n] w fun e w'=>
  Stays w w'∧∃pv,e= .returned (.tuple #[pv,.int .i64 0])∧∃h',PageIn h' pv (pgAt gs n)∧Sat ((Pr.own h').star ((RefAt r s gs hush x).star F)) w':=by
 have ht:s.there n:=by
  by_cases ht:s.there n
  · exact ht
  · exact absurd (by unfold PoolS.count;rw [if_neg ht]) h0
 have hF:=refA_iff.2 ⟨x,ok,h⟩;have ho:Only w (w.alloc (pageC 0 0 (.slice none 0 0) (.slice none 0 0) 0)):=(Only.refl w).alloc _
 have hpos:decide (0<s.count n)=true:=by
  rw [decide_eq_true_eq];obtain⟨j,rfl,hj⟩:=there_idx ht;rw [count_idx hj] at h0 ⊢;have:=ok.c0 s.counts[j] (List.getElem_mem hj)
  simp [hj] at h0 ⊢
  omega
 have C:=hQ (rthere_any r s gs hush n _ _ (hF.only ho));rw [hpos] at C;obtain⟨j,rfl,hj⟩:=there_idx ht;obtain⟨ac,cc,al,cl,ap,cp,⟨q1,q2,q3,_⟩,z,_,rd⟩:=ref_rd ok h;obtain⟨_,_,b,g,vi,vd,rfl,hg,hpg,c0,c1,c2,c3,c4⟩:=rd j hj;have zb:=World.block_lt_of_cell? _ _ c0;have hn2:=ok.n2;have hgm:g∈gs:=List.mem_of_getElem? hg;have hfit:=ok.fit g hgm
 have epg:pgAt gs ((j:Int)+1)=g:=by unfold pgAt;rw [show ((j:Int)+1).toNat-1=j by omega,List.getD_eq_getElem?_getD,hg];rfl
 rw [epg];obtain⟨_,_,epv,hit,hby⟩:=id hpg;simp only [pageV,Value.agg.injEq,Array.mk.injEq,List.cons.injEq,and_true,true_and] at epv;obtain⟨rfl,rfl⟩:=epv;obtain⟨a1,d1,rfl,_,_⟩:=items_rd hit;obtain⟨a2,d2,rfl⟩:=bytes_shape hby
 have h2:=(h.alloc (pageC 0 0 (.slice none 0 0) (.slice none 0 0) 0)).perm (B:=(Pr.own x.h).star ((Pr.pts w.heap.size (pageC 0 0 (.slice none 0 0) (.slice none 0 0) 0)).star ((Pr.pts r (refC s.refs x.cv x.lv x.pv hush)).star ((IntsRow x.cv s.counts).star ((BoolsRow x.lv s.last).star ((PgRow x.pv x.xs gs).star F)))))) (by unfold RefAt;ac_rfl)
 have D:=hQ (copypage_any x.h _ g hpg (by have:=hfit.n;omega) (fun y hy=>by have:=fit_keys hfit y hy;omega) (by have:=hfit.d;omega) _ _ h2);have HO:=hQ ho;have OK:=hQ ok;clear rd h hF h2 hit hby hpg ok ho ht h0 hpos hg hgm hfit epg;go_enter Tryz.func46,Tryz.ntmps46
 go_wp2_with fail
 refine C.out.mono ?_;rintro e w1 ⟨rfl,rfl⟩;go_wp2_with fail
 refine D.out.mono ?_;rintro e w1 ⟨pv2,h',rfl,hp',h3,hst⟩;obtain⟨pk,pl,ai,mi,ci,ad,md,cd,nx,rfl⟩:=page_shape hp';have h4:=h3.perm (B:=(Pr.pts w.heap.size (pageC 0 0 (.slice none 0 0) (.slice none 0 0) 0)).star ((Pr.own h').star ((RefAt r s gs hush x).star F))) (by unfold RefAt;ac_rfl);obtain⟨f0,f1,f2,f3,f4,⟨z0,z1,z2,z3,z4⟩,zz⟩:=pts5 h4
 have s6:=((((h4.setCell (i:=0) (.int .i64 pk)).setCell (i:=1) (.int .i64 pl)).setCell (i:=2) (.slice ai mi ci)).setCell (i:=3) (.slice ad md cd)).setCell (i:=4) (.int .i64 nx);have s7:Sat ((Pr.pts w.heap.size (pageC pk pl (.slice ai mi ci) (.slice ad md cd) nx)).star ((Pr.own h').star ((RefAt r s gs hush x).star F))) _:=s6;have S7:=hQ s7;have HST:=hQ (HO.out.st.trans hst);have HP:=hQ hp'
 clear h3 h4 s6 s7 hst hp' C D;go_wp2;refine bodyPost_ret (results_cell_row_tmp rfl _ _ w.heap.size _ rfl (run_loadVar_row _ w.heap.size _ _ _ _ _ S7.out.pts_heap Tryz.underlying83 rfl infoPage)) rfl ?_;exact⟨((((HST.out.setCell _ _).setCell _ _).setCell _ _).setCell _ _).setCell _ _,_,rfl,h',HP.out,S7.out.right⟩
theorem rbload_long_x(v:Nat)(s:PoolS)(gs:List PageV)(hush:RTail)(x0:RX)(ok0:ROk s gs x0)(look:Int→Option PageV)(hl:RLooks s gs look)(kv vv:Value)(hkv:IsSl kv)(hvv:IsSl vv)(c:Int)(N:Nat)(hN:32<N∧N≤3840)(F:Pr)(w:World)(hF:Sat ((RefAt v s gs hush x0).star F) w):
 Calls Tryz.prog 91 #[.pointer (some ⟨v,0,none⟩),itemV kv vv c N] w fun e w'=>
  Stays w w'∧∃o,e= .returned (.tuple #[o,.int .i64 (chainL look N N [] c).2])∧Sat ((BytesRow o (chainL look N N [] c).1).star ((RefAt v s gs hush x0).star F)) w':=by
 obtain⟨ak,mk,ck,rfl⟩:=hkv;obtain⟨av,mv,cv,rfl⟩:=hvv;have h1:=hF.alloc (itemC (.slice ak mk ck) (.slice av mv cv) c N)
 have h2:Sat ((Row 5 1 (.slice (some ⟨w.heap.size+1,0,none⟩) 0 0) 0 []).star ((Pr.pts w.heap.size (itemC (.slice ak mk ck) (.slice av mv cv) c N)).star ((RefAt v s gs hush x0).star F))) ((w.alloc (itemC (.slice ak mk ck) (.slice av mv cv) c N)).alloc (.cells #[] 5)):=by
  have h3:=h1.alloc (.cells #[] 5);rw [show (w.alloc (itemC (.slice ak mk ck) (.slice av mv cv) c N)).heap.size=w.heap.size+1 by simp] at h3;exact Row.mk' (xs:= []) (sp:= []) (by simp) (by simp) (Nat.le_refl _) (by simp) (by simpa using h3)
 obtain⟨i0,hi,hz0,hz1,hz2⟩:=info_parts infoByte;have H2:=hQ h2;obtain⟨R,hR⟩:∃R,R=chainL look N N [] c:=⟨_,rfl⟩;rw [← hR];have HR:=hQ hR;clear h1 h2 hF hR;go_enter Tryz.func91,Tryz.ntmps91
 go_wp2
 go_loopw [6,7] (fun o n wr=> ∃(out:List Int) (c':Int) (k:Nat),n= .int .i64 c'∧Stays w wr∧Hid (N-out.length≤k)∧Hid (out.length≤3840)∧Hid (chainL look N k out c'=R)∧
  Sat ((BytesRow o out).star ((Pr.pts w.heap.size (itemC (.slice ak mk ck) (.slice av mv cv) c N)).star ((RefAt v s gs hush x0).star F))) wr) (fun o _ _=>N-lenV o)
 case atStart=>exact⟨[],c,N,rfl,((Stays.refl w).alloc _).alloc _,hQ (by simp),hQ (by simp),hQ HR.out.symm,H2.out⟩
 case round=>
  obtain⟨out,c',k,rfl,hst,hk,hob,hch,hinv⟩:=hrel;obtain⟨_,_,_,f3,_,zI⟩:=pts4 hinv.right;obtain⟨ao,co,eo,_,_⟩:=Row.read hinv;subst eo;rcases Nat.lt_or_ge out.length N with hlt | hge
  · obtain⟨k,rfl⟩:∃k',k=k'+1:=⟨k-1,by have:=hk.out;omega⟩
    have hob2:(out.length:Int)≤3840:=by have:=hob.out;omega
    have h4:=hinv.perm (B:=(RefAt v s gs hush x0).star ((BytesRow (.slice ao out.length co) out).star ((Pr.pts w.heap.size (itemC (.slice ak mk ck) (.slice av mv cv) c N)).star F))) (by ac_rfl);cases hlk:look c' with
    | none=>
      have HCH:=hQ (show R=([],15) from by rw [← hch.out];exact chain_none hlt hlk);clear hch;have C:=hQ (rread_none v s gs hush c' _ _ (refA_iff.2 ⟨x0,ok0,h4⟩) (hl.none c' hlk));have H4:=hQ h4;clear hinv h4;go_wp2_with fail
      refine C.out.mono ?_;rintro e w3 ⟨rfl,ho⟩;have H5:=hQ (H4.out.only ho);have HST:=hQ ((hst.trans ho.st).alloc (pageC 0 0 (.slice none 0 0) (.slice none 0 0) 0));have g3:=ho.cell f3;have zI3:w.heap.size<w3.heap.size:=Nat.lt_of_lt_of_le zI ho.st.size;clear H4 C f3 hst ho;go_wp2;go_ret2;refine⟨HST.out,.slice none 0 0,?_,?_⟩
      · rw [HCH.out];rfl
      · rw [HCH.out]
        have h6:=(H5.out.alloc (pageC 0 0 (.slice none 0 0) (.slice none 0 0) 0)).right;have h7:Sat ((RefAt v s gs hush x0).star F) _:=(h6.perm (B:=(BytesRow (.slice ao out.length co) out).star ((Pr.pts w.heap.size (itemC (.slice ak mk ck) (.slice av mv cv) c N)).star ((RefAt v s gs hush x0).star F))) (by ac_rfl)).right.right;show Sat ((Row 5 1 (.slice none 0 0) 0 []).star _) _
        rw [Row.nil,Pr.emp_star];exact h7
    | some g=>
      obtain⟨hc1,hon,hfit⟩:=hl.some c' g hlk;have C:=hQ (rread_x v s gs hush x0 ok0 c' _ _ h4 hc1);rw [hon] at C;have HFIT:=hQ hfit;have HLK:=hQ hlk;clear hinv h4 hon hc1 hfit hlk;go_wp2_with fail
      refine C.out.mono ?_;rintro e w3 ⟨hst3,pv,rfl,h',hpv,h5⟩;obtain⟨vi,vd,rfl,hi0,hb0⟩:=hpv;obtain⟨ai,ci,rfl,_,_⟩:=items_rd hi0;obtain⟨ad,cd,rfl⟩:=bytes_shape hb0;have h6:Sat ((BytesRow (.slice ao out.length co) out).star ((Pr.pts w.heap.size (itemC (.slice ak mk ck) (.slice av mv cv) c N)).star ((Pr.own h').star ((RefAt v s gs hush x0).star F)))) w3:=h5.perm (by ac_rfl)
      have h7:=h6.alloc (pageC g.kind g.level (.slice ai g.items.length ci) (.slice ad g.data.length cd) g.next)
      have h8:Sat ((BytesRow (.slice ao out.length co) out).star ((Pr.pts w.heap.size (itemC (.slice ak mk ck) (.slice av mv cv) c N)).star ((Pr.own h').star ((Pr.pts w3.heap.size (pageC g.kind g.level (.slice ai g.items.length ci) (.slice ad g.data.length cd) g.next)).star ((RefAt v s gs hush x0).star F))))) (w3.alloc (pageC g.kind g.level (.slice ai g.items.length ci) (.slice ad g.data.length cd) g.next)):=h7.perm (by ac_rfl)
      obtain⟨_,_,_,g3,_,zI3⟩:=pts4 h6.right;have hle':=h8.right.right.own;have H8:=hQ h8;have HLE:=hQ hle';have HB0:=hQ hb0;have HST:=hQ ((hst.trans hst3).alloc (pageC g.kind g.level (.slice ai g.items.length ci) (.slice ad g.data.length cd) g.next));clear h5 h6 h7 h8 hle' hb0 hi0 C hst hst3 f3 zI;by_cases hkd:g.kind=3
      · by_cases hc2:g.data.length=min (N-out.length) 480∧((g.next=0)↔(N-out.length≤480))
        · have HCH:=hQ (show chainL look N k (out++g.data) g.next=R from by rw [← hch.out];exact(chain_ok hlt HLK.out hkd hc2).symm)
          have hkn:(g.kind != 3)=false:=by rw [bne_eq_false_iff_eq];exact hkd
          have HDL:=hQ (show 1≤g.data.length∧g.data.length≤480∧out.length+g.data.length≤N by have:=hc2.1;omega)
          have hBB:(Hid (N-out.length≤480)∧(N:Int)-(out.length:Int)=(g.data.length:Int)∧(g.next == 0)=true∧((out.length:Int)+(g.data.length:Int) == (N:Int))=true)∨((480:Int)<(N:Int)-(out.length:Int)∧((g.data.length:Int) != 480)=false∧(g.next == 0)=false∧((out.length:Int)+480 == (N:Int))=false):=by
           by_cases hq:N-out.length≤480
           · exact .inl ⟨hQ hq,by have:=hc2.1;omega,by rw [beq_iff_eq];exact hc2.2.2 hq,by rw [beq_iff_eq];have:=hc2.1;omega⟩
           · exact .inr ⟨by omega,by rw [bne_eq_false_iff_eq];have:=hc2.1;omega,by rw [beq_eq_false_iff_ne];exact fun h=>hq (hc2.2.1 h),by rw [beq_eq_false_iff_ne];omega⟩
          have HN:=hQ (show ∀u∈g.data.map (Value.int .u8),u.oneCell'=true by simp [Value.oneCell']);have hdl:=HDL.out.2.1;have hAb:out.length≤3840:=hob.out;have HKD:=hQ hkd;have HLT:=hQ hlt;clear hc2 hch hkd;rcases hBB with⟨_,hw1,hw2,hw3⟩ | ⟨hw1,hw4,hw2,hw3⟩
          all_goals
           go_wp2_with (
            at_builtin
            refine wpList_append_row rfl _ _ _ rfl 5 i0 (.int .u8 0) 1 1 Tryz.underlying42 hi hz0 hz1 hz2 rfl _ _ _ rfl H8.out h' HLE.out _ _ _ rfl HB0.out HN.out (by simp only [maxLen];omega) (by omega) ?_
            intro v' w1 hsat hgr _
            have g4:w1.cell? ⟨w3.heap.size,4,none⟩=some (.int .i64 g.next):=(pts5 (hsat.right.right.right)).2.2.2.2.1
            have HSAT:=hQ hsat
            clear hsat)
           all_goals
            refine⟨⟨out++g.data,g.next,k,rfl,HST.out.of_grown hgr,hQ ?_,hQ ?_,HCH,?_⟩,?_⟩
            · have:=hk.out;have:=HDL.out;rw [List.length_append];omega
            · have:=HDL.out;have:=HLT.out;rw [List.length_append];omega
            · have h9:=HSAT.out
              rw [← List.map_append, ← List.length_append] at h9;change Sat ((BytesRow v' (out++g.data)).star _) _ at h9
              have h10:Sat ((Pr.own h').star ((Pr.pts w3.heap.size (pageC g.kind g.level (.slice ai g.items.length ci) (.slice ad g.data.length cd) g.next)).star ((BytesRow v' (out++g.data)).star ((Pr.pts w.heap.size (itemC (.slice ak mk ck) (.slice av mv cv) c N)).star ((RefAt v s gs hush x0).star F))))) w1:=Sat.perm h9 (by ac_rfl);exact h10.right.right
            · obtain⟨a3,c3,e3,_,_⟩:=Row.read HSAT.out
              subst e3;have:=HDL.out
              have:=HLT.out
              simp only [lenV];omega
        · have hkn:(g.kind != 3)=false:=by rw [bne_eq_false_iff_eq];exact hkd
          have hdl:g.data.length≤480:=HFIT.out.d;have hAb:out.length≤3840:=hob.out;have HCH:=hQ (show R=([],5) from by rw [← hch.out];exact chain_form hlt HLK.out hkd hc2);have HC2:=hQ hc2;clear hch hc2 hkd
          have fin:∀w',Sat ((RefAt v s gs hush x0).star F) w'→Sat ((BytesRow (.slice none 0 0) R.1).star ((RefAt v s gs hush x0).star F)) w':=by
           intro w' h;rw [HCH.out];show Sat ((Row 5 1 (.slice none 0 0) 0 []).star _) _
           rw [Row.nil,Pr.emp_star];exact h
          have HR2:=hQ (show R.2=5 by rw [HCH.out]);have HNX:=hQ (show g.data.length=min (N-out.length) 480→¬((g.next=0)↔(N-out.length≤480)) from fun h1 h2=>HC2.out ⟨h1,h2⟩);by_cases hq:N-out.length≤480
          · by_cases hD:g.data.length=N-out.length
            · have hw1:(N:Int)-(out.length:Int)=(g.data.length:Int):=by omega
              have hw2:(g.next == 0)=false:=by rw [beq_eq_false_iff_ne];exact fun h=>HNX.out (by omega) ⟨fun _=>hq,fun _=>h⟩
              have hw3:((out.length:Int)+(g.data.length:Int) == (N:Int))=true:=by rw [beq_iff_eq];omega
              have HD:=hQ hD;clear hD hq;go_wp2
              all_goals
               go_ret2;exact⟨HST.out,.slice none 0 0,(by rw [HR2.out];rfl),fin _ H8.out.right.right.right.right⟩
            · have hDn:((g.data.length:Int) != (N:Int)-(out.length:Int))=true:=by rw [bne_iff_ne];omega
              have hq1:(N:Int)-(out.length:Int)≤480:=by omega
              have HD:=hQ hD;clear hD hq;go_wp2
              all_goals
               go_ret2;exact⟨HST.out,.slice none 0 0,(by rw [HR2.out];rfl),fin _ H8.out.right.right.right.right⟩
          · have hq1:(480:Int)<(N:Int)-(out.length:Int):=by omega
            by_cases hD:g.data.length=480
            · have hw4:((g.data.length:Int) != 480)=false:=by rw [bne_eq_false_iff_eq];omega
              have hw2:(g.next == 0)=true:=by
               rw [beq_iff_eq];exact Decidable.byContradiction fun h=>HNX.out (by omega) ⟨fun h2=>absurd h2 h,fun h2=>absurd h2 hq⟩
              have hw3:((out.length:Int)+480 == (N:Int))=false:=by rw [beq_eq_false_iff_ne];omega
              have HD:=hQ hD;clear hD hq;go_wp2
              all_goals
               go_ret2;exact⟨HST.out,.slice none 0 0,(by rw [HR2.out];rfl),fin _ H8.out.right.right.right.right⟩
            · have hDn:((g.data.length:Int) != 480)=true:=by rw [bne_iff_ne];omega
              have HD:=hQ hD;clear hD hq;go_wp2
              all_goals
               go_ret2;exact⟨HST.out,.slice none 0 0,(by rw [HR2.out];rfl),fin _ H8.out.right.right.right.right⟩
      · have hkn:(g.kind != 3)=true:=by rw [bne_iff_ne];exact hkd
        have HCH:=hQ (show R=([],15) from by rw [← hch.out];exact chain_kind hlt HLK.out hkd);clear hch;go_wp2;go_ret2;refine⟨HST.out,.slice none 0 0,?_,?_⟩
        · rw [HCH.out];rfl
        · rw [HCH.out]
          show Sat ((Row 5 1 (.slice none 0 0) 0 []).star _) _
          rw [Row.nil,Pr.emp_star];exact H8.out.right.right.right.right
  · have HCH:=hQ (show R=(out,0) from by rw [← hch.out];exact chain_end hge)
    have HINV:=hQ hinv;have hge2:¬((out.length:Int)<(N:Int)):=by omega
    clear hch hinv;go_wp2;go_ret2;refine⟨hst,.slice ao out.length co,?_,?_⟩
    · rw [HCH.out];rfl
    · rw [HCH.out]
      exact(HINV.out.perm (Pr.left_comm _ _ _)).right
theorem rbload_at(v:Nat)(s:PoolS)(gs:List PageV)(hush:RTail)(x0:RX)(ok0:ROk s gs x0)(look:Int→Option PageV)(hl:RLooks s gs look)(x:ItemV)(iv:Value)(hi:ItemIn x0.h iv x)(F:Pr)(w:World)(hF:Sat ((RefAt v s gs hush x0).star F) w):
 Calls Tryz.prog 91 #[.pointer (some ⟨v,0,none⟩),iv] w fun e w'=>
  Stays w w'∧∃o,e= .returned (.tuple #[o,.int .i64 (valueL look x.size x.child x.value).2])∧Sat ((BytesRow o (valueL look x.size x.child x.value).1).star ((RefAt v s gs hush x0).star F)) w':=by
 obtain⟨kv,vv,rfl,hk,hvv⟩:=hi;obtain⟨ak,ck,rfl⟩:=bytes_shape hk;obtain⟨av,cv,rfl⟩:=bytes_shape hvv;unfold valueL;by_cases hb:x.size<0∨3840<x.size∨(x.size≤32∧(x.value.length:Int)≠x.size)
 · rw [if_pos hb]
   refine(rbload_bad v x ak av ck cv hb w).mono ?_;rintro e w' ⟨rfl,ho⟩;refine⟨ho.st,_,rfl,?_⟩;show Sat ((Row 5 1 (.slice none 0 0) 0 []).star _) _
   rw [Row.nil,Pr.emp_star];exact hF.only ho
 · rw [if_neg hb]
   by_cases h32:x.size≤32
   · rw [if_pos h32]
     have h1:Sat ((Pr.own x0.h).star ((Pr.pts v (refC s.refs x0.cv x0.lv x0.pv hush)).star ((IntsRow x0.cv s.counts).star ((BoolsRow x0.lv s.last).star ((PgRow x0.pv x0.xs gs).star F))))) w:=hF.perm (by unfold RefAt;ac_rfl);refine(rbload_short v x ak av ck cv x0.h hvv (by omega) _ w h1).mono ?_;rintro e w' ⟨st,o,rfl,h1⟩;exact⟨st,o,rfl,h1.perm (by unfold RefAt;ac_rfl)⟩
   · rw [if_neg h32]
     have e1:x.size=((x.size.toNat:Nat):Int):=by omega
     have:=rbload_long_x v s gs hush x0 ok0 look hl (.slice ak x.key.length ck) (.slice av x.value.length cv) ⟨_,_,_,rfl⟩ ⟨_,_,_,rfl⟩ x.child x.size.toNat (by omega) _ w hF
     rw [← e1] at this;exact this
end Go.Proofs.YtiegeadmgpanoaaGreatDoor.L8
namespace Go.Proofs.YtiegeadmgpanoaaGreatDoor.F7
open ChangeShapes WideShapes ChangeAt RowKit Sl Cop F3 P3 G2 J2 N2 Q3 V3 X3 M5 G6 Q6 U6 Y6 Z6 L6 S6 T6 D7
theorem chain_len {look:Int→Option PageV}{N:Nat}:∀(k:Nat) (out:List Int) (n:Int),out.length≤N→(chainL look N k out n).1.length≤N
 | 0,out,n,h=>by unfold chainL;exact h
 | k+1,out,n,h=>by
   unfold chainL;split
   · exact h
   · split
     · simp
     · split
       · simp
       · split
         · rename_i hc
           exact chain_len k _ _ (by have:=hc.1;rw [List.length_append];omega)
         · simp
theorem value_len(look:Int→Option PageV)(size child:Int)(value:List Int):(valueL look size child value).1.length≤3840:=by
 unfold valueL;split
 · simp
 · rename_i hb
   split
   · dsimp only;omega
   · exact Nat.le_trans (chain_len _ _ _ (by simp)) (by omega)
end Go.Proofs.YtiegeadmgpanoaaGreatDoor.F7









