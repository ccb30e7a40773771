/- The program's Load of any item's value over any vault; the conditions stand as hypotheses. -/
import Derived.Test.YtiegeadmgpanoaaGreatDoorWalkChecksM21
import Derived.Test.YtiegeadmgpanoaaGreatDoorWalkChecksM01
set_option maxRecDepth 100000
set_option maxHeartbeats 16000000
namespace Go.Proofs.YtiegeadmgpanoaaGreatDoor.L6
open ChangeShapes WideShapes ChangeAt RowKit Sl Cop D2 F3 K3 P3 G2 J2 Q3 V3 C4 G4 M4 X3 M5 F6 J6
structure Looks(s:VaultS)(look:Int→Option PageV):Prop where
 none:∀n,look n=none→s.pool.count n=0
 some:∀n g,look n=some g→(1≤n∧n≤65536)∧s.pool.count n≠0∧s.on n=some g∧Fit g
theorem chain_end {look:Int→Option PageV}{N k:Nat}{out:List Int}{n:Int}(h:N≤out.length):chainL look N k out n=(out,0):=by
 cases k with
 | zero=>rfl
 | succ k=>unfold chainL;rw [if_pos h]
theorem chain_none {look:Int→Option PageV}{N k:Nat}{out:List Int}{n:Int}(h:out.length<N)(hl:look n=none):chainL look N (k+1) out n=([],15):=by
 unfold chainL;rw [if_neg (by omega),hl]
theorem chain_kind {look:Int→Option PageV}{N k:Nat}{out:List Int}{n:Int}{g:PageV}(h:out.length<N)(hl:look n=some g)(hk:g.kind≠3):chainL look N (k+1) out n=([],15):=by
 unfold chainL;rw [if_neg (by omega),hl];dsimp only;rw [if_pos hk]
theorem chain_form {look:Int→Option PageV}{N k:Nat}{out:List Int}{n:Int}{g:PageV}(h:out.length<N)(hl:look n=some g)(hk:g.kind=3)(hc:¬(g.data.length=min (N-out.length) 480∧((g.next=0)↔(N-out.length≤480)))):chainL look N (k+1) out n=([],5):=by
 unfold chainL;rw [if_neg (by omega),hl];dsimp only;rw [if_neg (by simpa using hk),if_neg hc]
theorem chain_ok {look:Int→Option PageV}{N k:Nat}{out:List Int}{n:Int}{g:PageV}(h:out.length<N)(hl:look n=some g)(hk:g.kind=3)(hc:g.data.length=min (N-out.length) 480∧((g.next=0)↔(N-out.length≤480))):chainL look N (k+1) out n=chainL look N k (out++g.data) g.next:=by
 conv=>lhs;unfold chainL
 rw [if_neg (by omega),hl];dsimp only;rw [if_neg (by simpa using hk),if_pos hc]
def lenV:Value→Nat
 | .slice _ n _=>n
 | _=>0
theorem bload_long(v:Nat)(s:VaultS)(look:Int→Option PageV)(hl:Looks s look)(kv vv:Value)(hkv:IsSl kv)(hvv:IsSl vv)(c:Int)(N:Nat)(hN:32<N∧N≤3840)(F:Pr)(w:World)(hF:Sat ((VaultA v s).star F) w):
 Calls Tryz.prog 50 #[.pointer (some ⟨v,0,none⟩),itemV kv vv c N] w fun e w'=>
  Stays w w'∧∃o,e= .returned (.tuple #[o,.int .i64 (chainL look N N [] c).2])∧Sat ((BytesRow o (chainL look N N [] c).1).star ((VaultA v s).star F)) w':=by
 obtain⟨ak,mk,ck,rfl⟩:=hkv;obtain⟨av,mv,cv,rfl⟩:=hvv;have h1:=hF.alloc (itemC (.slice ak mk ck) (.slice av mv cv) c N);have h2:=row_room 5 (.int .u8 0) N (by simp only [maxLen];omega) h1;rw [show (w.alloc (itemC (.slice ak mk ck) (.slice av mv cv) c N)).heap.size=w.heap.size+1 by simp] at h2;obtain⟨i0,hi,hz0,hz1,hz2⟩:=info_parts infoByte
 have hmk:∀wx:World,(Instr.makeSlice 42 (.int .i64 0) (.int .i64 (N:Int))).run Tryz.prog wx= .ok (.slice (some ⟨wx.heap.size,0,none⟩) 0 N) (wx.alloc (.cells (madeCells #[.int .u8 0] N) 5)):=by
  intro wx;have:=run_makeSlice (P:=Tryz.prog) wx 42 5 i0 (.int .u8 0) Tryz.underlying42 hi hz0 .i64 .i64 0 N (by omega) (by omega) (by rw [hz1];omega) (by rw [hz2];omega) (by omega)
  rw [hz1,Int.toNat_natCast,Nat.mul_one] at this;exact this
 have H2:=hQ h2;obtain⟨R,hR⟩:∃R,R=chainL look N N [] c:=⟨_,rfl⟩;rw [← hR];have HR:=hQ hR;clear h1 h2 hF hR;go_enter Tryz.func50,Tryz.ntmps50
 go_wp2
 go_loopw [6,7] (fun o n wr=> ∃(out:List Int) (c':Int) (k:Nat),n= .int .i64 c'∧Stays w wr∧Hid (N-out.length≤k)∧Hid (out.length≤3840)∧Hid (chainL look N k out c'=R)∧
  Sat ((BytesRow o out).star ((Pr.pts w.heap.size (itemC (.slice ak mk ck) (.slice av mv cv) c N)).star ((VaultA v s).star F))) wr) (fun o _ _=>N-lenV o)
 case atStart=>exact⟨[],c,N,rfl,((Stays.refl w).alloc _).alloc _,hQ (by simp),hQ (by simp),hQ HR.out.symm,H2.out⟩
 case round=>
  obtain⟨out,c',k,rfl,hst,hk,hob,hch,hinv⟩:=hrel;obtain⟨_,_,_,f3,_,zI⟩:=pts4 hinv.right;obtain⟨ao,co,eo,_,_⟩:=Row.read hinv;subst eo;rcases Nat.lt_or_ge out.length N with hlt | hge
  · obtain⟨k,rfl⟩:∃k',k=k'+1:=⟨k-1,by have:=hk.out;omega⟩
    have hob2:(out.length:Int)≤3840:=by have:=hob.out;omega
    have h4:=hinv.perm (B:=(VaultA v s).star ((BytesRow (.slice ao out.length co) out).star ((Pr.pts w.heap.size (itemC (.slice ak mk ck) (.slice av mv cv) c N)).star F))) (by ac_rfl);cases hlk:look c' with
    | none=>
      have HCH:=hQ (show R=([],15) from by rw [← hch.out];exact chain_none hlt hlk);clear hch;have C:=hQ (read_none v s c' _ _ h4 (hl.none c' hlk));have H4:=hQ h4;clear hinv h4;go_wp2_with fail
      refine C.out.mono ?_;rintro e w3 ⟨rfl,ho⟩;have H5:=hQ (H4.out.only ho);have HST:=hQ ((hst.trans ho.st).alloc (pageC 0 0 (.slice none 0 0) (.slice none 0 0) 0));have g3:=ho.cell f3;have zI3:w.heap.size<w3.heap.size:=Nat.lt_of_lt_of_le zI ho.st.size;clear H4 C f3 hst ho;go_wp2;go_ret2;refine⟨HST.out,.slice none 0 0,?_,?_⟩
      · rw [HCH.out];rfl
      · rw [HCH.out]
        have h6:=(H5.out.alloc (pageC 0 0 (.slice none 0 0) (.slice none 0 0) 0)).right;have h7:Sat ((VaultA v s).star F) _:=(h6.perm (B:=(BytesRow (.slice ao out.length co) out).star ((Pr.pts w.heap.size (itemC (.slice ak mk ck) (.slice av mv cv) c N)).star ((VaultA v s).star F))) (by ac_rfl)).right.right;show Sat ((Row 5 1 (.slice none 0 0) 0 []).star _) _
        rw [Row.nil,Pr.emp_star];exact h7
    | some g=>
      obtain⟨hb,hc1,hon,hfit⟩:=hl.some c' g hlk;have C:=hQ (read_some v s c' hb g hfit _ _ h4 hc1 hon);have HFIT:=hQ hfit;have HLK:=hQ hlk;clear hinv h4 hon hc1 hfit hlk;go_wp2_with fail
      refine C.out.mono ?_;rintro e w3 ⟨hst3,pv,rfl,h',hpv,h5⟩;obtain⟨vi,vd,rfl,hi0,hb0⟩:=hpv;obtain⟨ai,ci,rfl,_,_⟩:=items_rd hi0;obtain⟨ad,cd,rfl⟩:=bytes_shape hb0;have h6:Sat ((BytesRow (.slice ao out.length co) out).star ((Pr.pts w.heap.size (itemC (.slice ak mk ck) (.slice av mv cv) c N)).star ((Pr.own h').star ((VaultA v s).star F)))) w3:=h5.perm (by ac_rfl)
      have h7:=h6.alloc (pageC g.kind g.level (.slice ai g.items.length ci) (.slice ad g.data.length cd) g.next)
      have h8:Sat ((BytesRow (.slice ao out.length co) out).star ((Pr.pts w.heap.size (itemC (.slice ak mk ck) (.slice av mv cv) c N)).star ((Pr.own h').star ((Pr.pts w3.heap.size (pageC g.kind g.level (.slice ai g.items.length ci) (.slice ad g.data.length cd) g.next)).star ((VaultA v s).star F))))) (w3.alloc (pageC g.kind g.level (.slice ai g.items.length ci) (.slice ad g.data.length cd) g.next)):=h7.perm (by ac_rfl)
      obtain⟨_,_,_,g3,_,zI3⟩:=pts4 h6.right;have hle':=h8.right.right.own;have H8:=hQ h8;have HLE:=hQ hle';have HB0:=hQ hb0;have HST:=hQ ((hst.trans hst3).alloc (pageC g.kind g.level (.slice ai g.items.length ci) (.slice ad g.data.length cd) g.next));clear h5 h6 h7 h8 hle' hb0 hi0 C hst hst3 f3 zI;by_cases hkd:g.kind=3
      · by_cases hc2:g.data.length=min (N-out.length) 480∧((g.next=0)↔(N-out.length≤480))
        · have HCH:=hQ (show chainL look N k (out++g.data) g.next=R from by rw [← hch.out];exact(chain_ok hlt HLK.out hkd hc2).symm)
          have hkn:(g.kind != 3)=false:=by rw [bne_eq_false_iff_eq];exact hkd
          have hm:min ((N:Int)-(out.length:Int)) 480=(g.data.length:Int):=by have:=hc2.1;omega
          have HDL:=hQ (show 1≤g.data.length∧g.data.length≤480∧out.length+g.data.length≤N by have:=hc2.1;omega);have hsub:((N:Int)-(out.length:Int)≤480)=(N-out.length≤480):=by apply propext;omega
          have hBB:∃B:Bool,(g.next == 0)=B∧decide ((N:Int)-(out.length:Int)≤480)=B:=by
           by_cases hq:N-out.length≤480
           · exact⟨true,by rw [beq_iff_eq];exact hc2.2.2 hq,by rw [decide_eq_true_eq];omega⟩
           · exact⟨false,by rw [beq_eq_false_iff_ne];exact fun h=>hq (hc2.2.1 h),by rw [decide_eq_false_iff_not];omega⟩
          obtain⟨B,hnb,hdb⟩:=hBB;have HN:=hQ (show ∀u∈g.data.map (Value.int .u8),u.oneCell'=true by simp [Value.oneCell']);have hdl:=HDL.out.2.1;have hAb:out.length≤3840:=hob.out;have HKD:=hQ hkd;have HLT:=hQ hlt;clear hc2 hch hsub hkd;cases B
          all_goals
           go_wp2_with (
            at_builtin
            refine wpList_append_row rfl _ _ _ rfl 5 i0 (.int .u8 0) 1 1 Tryz.underlying42 hi hz0 hz1 hz2 rfl _ _ _ rfl H8.out h' HLE.out _ _ _ rfl HB0.out HN.out (by simp only [maxLen];omega) (by omega) ?_
            intro v' w1 hsat hgr _
            have g4:w1.cell? ⟨w3.heap.size,4,none⟩=some (.int .i64 g.next):=(pts5 (hsat.right.right.right)).2.2.2.2.1
            have HSAT:=hQ hsat
            clear hsat)
           all_goals
            refine⟨⟨out++g.data,g.next,k,rfl,HST.out.of_grown hgr,hQ ?_,hQ ?_,HCH,?_⟩,?_⟩
            · have:=hk.out;have:=HDL.out;rw [List.length_append];omega
            · have:=HDL.out;have:=HLT.out;rw [List.length_append];omega
            · have h9:=HSAT.out
              rw [← List.map_append, ← List.length_append] at h9;change Sat ((BytesRow v' (out++g.data)).star _) _ at h9
              have h10:Sat ((Pr.own h').star ((Pr.pts w3.heap.size (pageC g.kind g.level (.slice ai g.items.length ci) (.slice ad g.data.length cd) g.next)).star ((BytesRow v' (out++g.data)).star ((Pr.pts w.heap.size (itemC (.slice ak mk ck) (.slice av mv cv) c N)).star ((VaultA v s).star F))))) w1:=Sat.perm h9 (by ac_rfl);exact h10.right.right
            · obtain⟨a3,c3,e3,_,_⟩:=Row.read HSAT.out
              subst e3;have:=HDL.out
              have:=HLT.out
              simp only [lenV];omega
        · have hkn:(g.kind != 3)=false:=by rw [bne_eq_false_iff_eq];exact hkd
          obtain⟨M,hM⟩:∃M:Nat,M=min (N-out.length) 480:=⟨_,rfl⟩;have hm:min ((N:Int)-(out.length:Int)) 480=(M:Int):=by omega
          have HM:=hQ hM;have hdl:g.data.length≤480:=HFIT.out.d;have hAb:out.length≤3840:=hob.out;have HCH:=hQ (show R=([],5) from by rw [← hch.out];exact chain_form hlt HLK.out hkd hc2);have HC2:=hQ hc2;clear hch hc2 hkd hM
          have fin:∀w',Sat ((VaultA v s).star F) w'→Sat ((BytesRow (.slice none 0 0) R.1).star ((VaultA v s).star F)) w':=by
           intro w' h;rw [HCH.out];show Sat ((Row 5 1 (.slice none 0 0) 0 []).star _) _
           rw [Row.nil,Pr.emp_star];exact h
          have HR2:=hQ (show R.2=5 by rw [HCH.out]);by_cases hD:g.data.length=min (N-out.length) 480
          · have hm2:min ((N:Int)-(out.length:Int)) 480=(g.data.length:Int):=by have:=HM.out;omega
            clear hm
            have hBB:∃B:Bool,(g.next == 0)=B∧decide ((N:Int)-(out.length:Int)≤480)= !B:=by
             have h3:¬((g.next=0)↔(N-out.length≤480)):=fun h=>HC2.out ⟨hD,h⟩
             by_cases hq:g.next=0
             · exact⟨true,by rw [beq_iff_eq];exact hq,by rw [Bool.not_true,decide_eq_false_iff_not];intro h;exact h3 ⟨fun _=>by omega,fun _=>hq⟩⟩
             · exact⟨false,by rw [beq_eq_false_iff_ne];exact hq,by rw [Bool.not_false,decide_eq_true_eq];exact Classical.byContradiction fun h=>h3 ⟨fun h2=>absurd h2 hq,fun h2=>absurd (by omega) h⟩⟩
            obtain⟨B,hnb,hdb⟩:=hBB;have HD:=hQ hD;clear hD;cases B
            all_goals
             simp only [Bool.not_true,Bool.not_false] at hdb;go_wp2
             all_goals
              go_ret2;exact⟨HST.out,.slice none 0 0,(by rw [HR2.out];rfl),fin _ H8.out.right.right.right.right⟩
          · have hDn:¬g.data.length=M:=by have:=HM.out;omega
            have HD:=hQ hD;clear hD;go_wp2
            all_goals
             go_ret2;exact⟨HST.out,.slice none 0 0,(by rw [HR2.out];rfl),fin _ H8.out.right.right.right.right⟩
      · have hkn:(g.kind != 3)=true:=by rw [bne_iff_ne];exact hkd
        have HCH:=hQ (show R=([],15) from by rw [← hch.out];exact chain_kind hlt HLK.out hkd);clear hch;go_wp2;go_ret2;refine⟨HST.out,.slice none 0 0,?_,?_⟩
        · rw [HCH.out];rfl
        · rw [HCH.out]
          show Sat ((Row 5 1 (.slice none 0 0) 0 []).star _) _
          rw [Row.nil,Pr.emp_star];exact H8.out.right.right.right.right
  · have HCH:=hQ (show R=(out,0) from by rw [← hch.out];exact chain_end hge)
    have HINV:=hQ hinv;have hge2:¬((out.length:Int)<(N:Int)):=by omega
    clear hch hinv;go_wp2;go_ret2;refine⟨hst,.slice ao out.length co,?_,?_⟩
    · rw [HCH.out];rfl
    · rw [HCH.out]
      exact(HINV.out.perm (Pr.left_comm _ _ _)).right
end Go.Proofs.YtiegeadmgpanoaaGreatDoor.L6
namespace Go.Proofs.YtiegeadmgpanoaaGreatDoor.S6
open ChangeShapes WideShapes ChangeAt RowKit Sl Cop G2 J2 Q3 V3 X3 M5 L6
theorem bload_bad(v:Nat)(x:ItemV)(ak av:Option Addr)(ck cv:Nat)(hb:x.size<0∨3840<x.size∨(x.size≤32∧(x.value.length:Int)≠x.size))(w:World):
 Calls Tryz.prog 50 #[.pointer (some ⟨v,0,none⟩),itemV (.slice ak x.key.length ck) (.slice av x.value.length cv) x.child x.size] w fun e w'=>e= .returned (.tuple #[.slice none 0 0,.int .i64 8])∧Only w w':=by
 by_cases h1:x.size<0
 · go_enter Tryz.func50,Tryz.ntmps50
   go_wp2;go_ret2;exact⟨rfl,(Only.refl w).alloc _⟩
 · by_cases h2:3840<x.size
   · go_enter Tryz.func50,Tryz.ntmps50
     go_wp2;go_ret2;exact⟨rfl,(Only.refl w).alloc _⟩
   · have h3:x.size≤32:=by omega
     have h4:((x.value.length:Int) != x.size)=true:=by rw [bne_iff_ne];omega
     go_enter Tryz.func50,Tryz.ntmps50
     go_wp2
     all_goals
      go_ret2;exact⟨rfl,(Only.refl w).alloc _⟩
theorem bload_short(v:Nat)(x:ItemV)(ak av:Option Addr)(ck cv:Nat)(h:Hp)(hv:Bytes h (.slice av x.value.length cv) x.value)(hs:0≤x.size∧x.size≤32∧(x.value.length:Int)=x.size)(F:Pr)(w:World)(hF:Sat ((Pr.own h).star F) w):
 Calls Tryz.prog 50 #[.pointer (some ⟨v,0,none⟩),itemV (.slice ak x.key.length ck) (.slice av x.value.length cv) x.child x.size] w fun e w'=>
  Stays w w'∧∃o,e= .returned (.tuple #[o,.int .i64 0])∧Sat ((BytesRow o x.value).star ((Pr.own h).star F)) w':=by
 obtain⟨h1,h2,h3⟩:=hs;have h0:=hF.alloc (itemC (.slice ak x.key.length ck) (.slice av x.value.length cv) x.child x.size);have C:=hQ (bclone_any h _ x.value _ _ h0 h0.right.own hv (by omega));have hne:((x.value.length:Int) != x.size)=false:=by rw [bne_eq_false_iff_eq];exact h3
 have HST:=hQ ((Stays.refl w).alloc (itemC (.slice ak x.key.length ck) (.slice av x.value.length cv) x.child x.size));have H3:=hQ h3;have h4:¬3840<x.size:=by omega
 have h5:¬x.size<0:=by omega
 clear hF h0 hv h3 h1;go_enter Tryz.func50,Tryz.ntmps50
 go_wp2_with fail
 refine C.out.mono ?_;rintro e w1 ⟨o,rfl,hs1,st1⟩;have S1:=hQ hs1;obtain⟨ao,co,rfl,_,_⟩:=Row.read hs1;clear hs1;go_wp2;go_ret2;exact⟨HST.out.trans st1,_,rfl,(S1.out.perm (Pr.left_comm _ _ _)).right⟩
theorem bload_any(v:Nat)(s:VaultS)(look:Int→Option PageV)(hl:Looks s look)(x:ItemV)(h:Hp)(iv:Value)(hi:ItemIn h iv x)(F:Pr)(w:World)(hF:Sat ((VaultA v s).star ((Pr.own h).star F)) w):
 Calls Tryz.prog 50 #[.pointer (some ⟨v,0,none⟩),iv] w fun e w'=>
  Stays w w'∧∃o,e= .returned (.tuple #[o,.int .i64 (valueL look x.size x.child x.value).2])∧Sat ((BytesRow o (valueL look x.size x.child x.value).1).star ((VaultA v s).star ((Pr.own h).star F))) w':=by
 obtain⟨kv,vv,rfl,hk,hvv⟩:=hi;obtain⟨ak,ck,rfl⟩:=bytes_shape hk;obtain⟨av,cv,rfl⟩:=bytes_shape hvv;unfold valueL;by_cases hb:x.size<0∨3840<x.size∨(x.size≤32∧(x.value.length:Int)≠x.size)
 · rw [if_pos hb]
   refine(bload_bad v x ak av ck cv hb w).mono ?_;rintro e w' ⟨rfl,ho⟩;refine⟨ho.st,_,rfl,?_⟩;show Sat ((Row 5 1 (.slice none 0 0) 0 []).star _) _
   rw [Row.nil,Pr.emp_star];exact hF.only ho
 · rw [if_neg hb]
   by_cases h32:x.size≤32
   · rw [if_pos h32]
     refine(bload_short v x ak av ck cv h hvv (by omega) _ w (hF.perm (Pr.left_comm _ _ _))).mono ?_;rintro e w' ⟨st,o,rfl,h1⟩;exact⟨st,o,rfl,h1.perm (by ac_rfl)⟩
   · rw [if_neg h32]
     have e1:x.size=((x.size.toNat:Nat):Int):=by omega
     have:=bload_long v s look hl (.slice ak x.key.length ck) (.slice av x.value.length cv) ⟨_,_,_,rfl⟩ ⟨_,_,_,rfl⟩ x.child x.size.toNat (by omega) _ w hF
     rw [← e1] at this;exact this
end Go.Proofs.YtiegeadmgpanoaaGreatDoor.S6
namespace Go.Proofs.YtiegeadmgpanoaaGreatDoor.T6
open ChangeShapes WideShapes ChangeAt RowKit Sl Cop D2 F3 K3 P3 G2 J2 Q3 V3 C4 G4 M4 X3 M5 F6 G6 J6 L6
structure RLooks(s:PoolS)(gs:List PageV)(look:Int→Option PageV):Prop where
 none:∀n,look n=none→s.count n=0
 some:∀n g,look n=some g→s.count n≠0∧pgAt gs n=g∧Fit g
end Go.Proofs.YtiegeadmgpanoaaGreatDoor.T6
