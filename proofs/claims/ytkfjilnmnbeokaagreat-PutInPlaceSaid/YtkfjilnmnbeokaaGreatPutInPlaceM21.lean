/- The program's check of a leaf, of a value's page, and of any page; the conditions stand as hypotheses. -/
import Derived.Test.YtkfjilnmnbeokaaGreatPutInPlaceM14
import Derived.Test.YtkfjilnmnbeokaaGreatPutInPlaceM01
set_option maxRecDepth 100000
set_option maxHeartbeats 16000000
namespace Go.Proofs.YtkfjilnmnbeokaaGreat.K5
open ChangeShapes WideShapes ChangeAt RowKit Sl Cop G2 J2 N2 P2 Q2 X3 Z3 C4
theorem two8(a b:Bool)(r:Int):thenE (if a then 0 else 8) (thenE (if b then 0 else 8) r)=thenE (if(a && b) then 0 else 8) r:=by cases a<;>cases b<;>rfl
theorem close5 {f rest T:Int}{kk:Int}{i:Nat}{prev:List Int}{x:ItemV}{b7 b11 b8 c8 b15:Bool}(h7:keyOk kk i x=b7)(h11:ordOk i prev x=b11)(h8:valOk kk x=(b8 && c8))(h15:kidOk kk x=b15)
 (he:thenE f (thenE (thenE (if keyOk kk i x then 0 else 7) (thenE (if ordOk i prev x then 0 else 11) (thenE (if valOk kk x then 0 else 8) (if kidOk kk x then 0 else 15)))) rest)=T):
 thenE (mustP (mustP (mustP (mustP (mustP f b7 7) b11 11) b8 8) c8 8) b15 15) rest=T:=by
 rw [← he,h7,h11,h8,h15];simp only [mustP_then,thenE_assoc,two8]
theorem val_big {x:ItemV}(h:32<x.size){b c:Bool}(hb:b=true↔x.size≤3840)(hc:c=true↔x.value.length=0):valOk 1 x=(b && c):=by
 rw [Bool.eq_iff_iff,Bool.and_eq_true,hb,hc];unfold valOk;rw [if_neg (by decide)];by_cases h38:x.size≤3840
 · rw [if_pos ⟨by omega,h38⟩,if_neg (by omega),decide_eq_true_eq]
   exact⟨fun e=>⟨h38,e⟩,fun e=>e.2⟩
 · rw [if_neg (by omega)]
   exact⟨fun e=>(by cases e),fun e=>absurd e.1 h38⟩
theorem kid_big {x:ItemV}(h:32<x.size){b:Bool}(hb:b=true↔(1≤x.child∧x.child≤65536)):kidOk 1 x=b:=by
 rw [Bool.eq_iff_iff,hb];unfold kidOk isPg;rw [if_neg (by omega),decide_eq_true_eq]
example {x:ItemV} (hz':32<x.size):valOk 1 x=(decide (x.size≤3840) && ((x.value.length:Int) == 0)):=val_big hz' (by simp) (by simp [-List.length_eq_zero_iff];try omega)
example {x:ItemV} (hz':32<x.size):valOk 1 x=(decide (x.size≤3840) && decide ((x.value.length:Int)=0)):=val_big hz' (by simp) (by simp [-List.length_eq_zero_iff];try omega)
example {x:ItemV} (hz':32<x.size):kidOk 1 x=(decide (1≤x.child) && decide (x.child≤65536)):=kid_big hz' (by simp)
theorem size_dec(s:Int):(Hid (s<0)∧(0≤s)=False∧(s≤32)=True)∨(Hid (0≤s∧s≤32)∧(0≤s)=True∧(s≤32)=True)∨(Hid (32<s)∧(0≤s)=True∧(s≤32)=False):=by
 by_cases h:s<0
 · exact .inl ⟨hQ h,eq_false (by omega),eq_true (by omega)⟩
 · by_cases h2:s≤32
   · exact .inr (.inl ⟨hQ ⟨by omega,h2⟩,eq_true (by omega),eq_true h2⟩)
   · exact .inr (.inr ⟨hQ (by omega),eq_true (by omega),eq_false h2⟩)
theorem check_leaf(h:Hp)(a ad:Option Addr)(c d cd:Nat)(its:List ItemV)(l nx:Int)(hi:ItemsIn h (.slice a its.length c) its)(hu:∀x∈its,U8 x.key)(hf:formP 1 l its.length d nx=true)(F:Pr)(w:World)(hF:Sat ((Pr.own h).star F) w):
 Calls Tryz.prog 105 #[pageV 1 l (.slice a its.length c) (.slice ad d cd) nx] w fun e w'=>e= .returned (.int .i64 (thenE (itemsE 1 0 [] its) (if nextOk nx then 0 else 15)))∧Sat ((Pr.own h).star F) w'∧Stays w w':=by
 have hnx:nx=0:=by unfold formP at hf;simp at hf;omega
 have hnl:its.length≤8:=by unfold formP at hf;simp at hf;omega
 subst hnx;obtain⟨a',c',e',_,rd⟩:=items_rd hi;cases e';have h0:=chk_start (k:=1) (l:=l) (vi:= .slice a its.length c) (vd:= .slice ad d cd) (nx:=0) hF;have H0:=hQ h0;have RD:=hQ rd;have HU:=hQ hu;have HST:=hQ (((Stays.refl w).alloc (.cells #[.int .i64 1,.int .i64 l,.slice a its.length c,.slice ad d cd,.int .i64 0] 74)).alloc (.cells #[.int .i64 0] 25));clear h0 hF rd hu
 go_enter Tryz.func105,Tryz.ntmps105
 go_wp2_with fail
 refine(must_any 0 22 true _ _ _ H0.out).mono ?_;rintro e w1 ⟨rfl,hs1,st1⟩;obtain⟨q0,q1,q2,q3,q4,q5,z0,z1⟩:=chkAt_rd (f:=mustP 0 true 22) hs1;go_wp2_with fail
 refine(form_any a ad its.length c d cd 1 l 0 _).mono ?_;rintro e w2 ⟨rfl,ho⟩;rw [hf];go_wp2_with fail
 refine(must_any _ 5 _ _ _ _ (hs1.only ho)).mono ?_;rintro e w3 ⟨rfl,hs3,st3⟩;have HST3:=hQ (HST.out.trans (st1.trans (ho.st.trans st3)));have hs3':Sat (ChkAt (w.heap.size+1) w.heap.size 0 1 l (.slice a its.length c) (.slice ad d cd) 0 ((Pr.own h).star F)) w3:=hs3;clear q0 q1 q2 q3 q4 q5 z0 z1 hs1 hs3 st1 ho st3 HST H0;obtain⟨q0,q1,q2,q3,q4,q5,z0,z1⟩:=chkAt_rd hs3';have H3:=hQ hs3';clear hs3'
 go_wp2_with fail
 go_loopw [5,30] (fun above i wr=> ∃(k:Nat) (f:Int) (prev:List Int),k≤its.length∧i= .int .i64 k∧Stays w wr∧Sat (ChkAt (w.heap.size+1) w.heap.size f 1 l (.slice a its.length c) (.slice ad d cd) 0 ((Pr.own h).star F)) wr∧Bytes h above prev∧Hid (U8 prev)∧
  Hid (thenE f (itemsE 1 k prev (its.drop k))=itemsE 1 0 [] its)) (fun _ i _=>its.length-(intOf i).toNat)
 case atStart=>exact⟨0,0,[],Nat.zero_le _,rfl,HST3.out,H3.out,RowIn.nil _ _,hQ (fun z hz=>by cases hz),hQ rfl⟩
 case round=>
  obtain⟨k,f,prev,hk,rfl,hst,hs,hab,hup,heq⟩:=hrel;clear q0 q1 q2 q3 q4 q5 z0 z1;obtain⟨q0,q1,q2,q3,q4,q5,z0,z1⟩:=chkAt_rd hs;rcases Nat.lt_or_ge k its.length with hlt | hge
  · obtain⟨b,off,ak,ck,av,cv,rfl,hbk,hbv,hcell⟩:=RD.out k hlt
    obtain⟨c0,c1,c2,c3⟩:=hcell wr hs.right.right.own;have heq1:=heq.out;rw [drop_at hlt,itemsE_cons,itemE_then] at heq1;have HE:=hQ heq1;have hux:=hQ (HU.out its[k] (List.getElem_mem hlt));clear hcell heq heq1;generalize its[k]=x at*;have HA:=hQ (itm_start (kv:= .slice ak x.key.length ck) (vv:= .slice av x.value.length cv) (c:=x.child) (sz:=x.size) hs)
    have HSTK:=hQ (hst.alloc (.cells #[.slice ak x.key.length ck,.slice av x.value.length cv,.int .i64 x.child,.int .i64 x.size] 89));clear hs hst;have hn2:=len_dec x.key;have hz2:=size_dec x.size;rcases Nat.eq_zero_or_pos k with hk0 | hk0
    · subst hk0
      simp only [Nat.zero_mul,Nat.add_zero] at c0 c1 c2 c3;rcases hn2 with⟨hn,hn1⟩ | ⟨hn,hn1⟩
      all_goals
       rcases hz2 with⟨hz,hz1,hz3⟩ | ⟨hz,hz1,hz3⟩ | ⟨hz,hz1,hz3⟩
       rotate_left 2
       · skip
         go_wp2_with fail
         refine(must_any f 7 _ _ _ _ HA.out).mono ?_;rintro e w4 ⟨rfl,hs4,st4⟩;obtain⟨q0,q1,q2,q3,q4,q5,z0,z1⟩:=chkAt_rd hs4;obtain⟨i0,i1,i2,i3,z2⟩:=itm_rd hs4;go_wp2_with fail
         refine(must_any _ 11 _ _ _ _ hs4).mono ?_;rintro e w8 ⟨rfl,hs8,st8⟩;clear q0 q1 q2 q3 q4 q5 z0 z1 i0 i1 i2 i3 z2;obtain⟨q0,q1,q2,q3,q4,q5,z0,z1⟩:=chkAt_rd hs8;obtain⟨i0,i1,i2,i3,z2⟩:=itm_rd hs8;go_wp2_with fail
         refine(must_any _ 8 _ _ _ _ hs8).mono ?_;rintro e w5 ⟨rfl,hs5,st5⟩;clear q0 q1 q2 q3 q4 q5 z0 z1 i0 i1 i2 i3 z2;obtain⟨q0,q1,q2,q3,q4,q5,z0,z1⟩:=chkAt_rd hs5;obtain⟨i0,i1,i2,i3,z2⟩:=itm_rd hs5;go_wp2_with fail
         refine(must_any _ 8 _ _ _ _ hs5).mono ?_;rintro e w6 ⟨rfl,hs6,st6⟩;clear q0 q1 q2 q3 q4 q5 z0 z1 i0 i1 i2 i3 z2;obtain⟨q0,q1,q2,q3,q4,q5,z0,z1⟩:=chkAt_rd hs6;obtain⟨i0,i1,i2,i3,z2⟩:=itm_rd hs6;go_wp2_with fail
         refine(isPage_any _ _).mono ?_;rintro e w9 ⟨rfl,rfl⟩;go_wp2_with fail
         refine(must_any _ 15 _ _ _ _ hs6).mono ?_;rintro e w7 ⟨rfl,hs7,st7⟩;go_wp2;go_roundw
         case rel=>
          refine⟨1,_,x.key,by omega,rfl,HSTK.out.trans (st4.trans (st8.trans (st5.trans (st6.trans st7)))),itm_drop hs7,hbk,hux,hQ (close5 ?_ ?_ ?_ ?_ HE.out)⟩
          · have hn':=hn.out
            rw [Bool.eq_iff_iff];unfold keyOk;rw [if_neg (by omega)];simp [-List.length_eq_zero_iff];try omega
          · rw [Bool.eq_iff_iff];simp [ordOk];try omega
          · have hz':=hz.out
            exact val_big hz' (by simp) (by simp [-List.length_eq_zero_iff];try omega)
          · have hz':=hz.out
            exact kid_big hz' (by simp)
         case measure=>simp [intOf];omega
       all_goals
        go_wp2_with fail
        refine(must_any f 7 _ _ _ _ HA.out).mono ?_;rintro e w4 ⟨rfl,hs4,st4⟩;obtain⟨q0,q1,q2,q3,q4,q5,z0,z1⟩:=chkAt_rd hs4;obtain⟨i0,i1,i2,i3,z2⟩:=itm_rd hs4;go_wp2_with fail
        refine(must_any _ 11 _ _ _ _ hs4).mono ?_;rintro e w8 ⟨rfl,hs8,st8⟩;clear q0 q1 q2 q3 q4 q5 z0 z1 i0 i1 i2 i3 z2;obtain⟨q0,q1,q2,q3,q4,q5,z0,z1⟩:=chkAt_rd hs8;obtain⟨i0,i1,i2,i3,z2⟩:=itm_rd hs8;go_wp2_with fail
        refine(must_any _ 8 _ _ _ _ hs8).mono ?_;rintro e w5 ⟨rfl,hs5,st5⟩;clear q0 q1 q2 q3 q4 q5 z0 z1 i0 i1 i2 i3 z2;obtain⟨q0,q1,q2,q3,q4,q5,z0,z1⟩:=chkAt_rd hs5;obtain⟨i0,i1,i2,i3,z2⟩:=itm_rd hs5;go_wp2_with fail
        refine(must_any _ 8 _ _ _ _ hs5).mono ?_;rintro e w6 ⟨rfl,hs6,st6⟩;clear q0 q1 q2 q3 q4 q5 z0 z1 i0 i1 i2 i3 z2;obtain⟨q0,q1,q2,q3,q4,q5,z0,z1⟩:=chkAt_rd hs6;obtain⟨i0,i1,i2,i3,z2⟩:=itm_rd hs6;go_wp2_with fail
        refine(must_any _ 15 _ _ _ _ hs6).mono ?_;rintro e w7 ⟨rfl,hs7,st7⟩;go_wp2;go_roundw
        case rel=>
         refine⟨1,_,x.key,by omega,rfl,HSTK.out.trans (st4.trans (st8.trans (st5.trans (st6.trans st7)))),itm_drop hs7,hbk,hux,hQ (close5 ?_ ?_ ?_ ?_ HE.out)⟩
         · have hn':=hn.out
           rw [Bool.eq_iff_iff];unfold keyOk;rw [if_neg (by omega)];simp [-List.length_eq_zero_iff];try omega
         · rw [Bool.eq_iff_iff];simp [ordOk];try omega
         · have hz':=hz.out
           unfold valOk;rw [if_neg (by decide)];first | (rw [if_neg (by omega)];rfl) | (rw [if_pos (by omega),if_pos (by omega),Bool.eq_iff_iff];simp;try omega)
         · have hz':=hz.out
           unfold kidOk;rw [if_pos ⟨rfl,by omega⟩,Bool.eq_iff_iff];simp
        case measure=>simp [intOf];omega
    · have hk1:((k:Int) == 0)=false:=by rw [beq_eq_false_iff_ne];omega
      rcases hn2 with⟨hn,hn1⟩ | ⟨hn,hn1⟩
      all_goals
       rcases hz2 with⟨hz,hz1,hz3⟩ | ⟨hz,hz1,hz3⟩ | ⟨hz,hz1,hz3⟩
       rotate_left 2
       · skip
         go_wp2_with fail
         refine(must_any f 7 _ _ _ _ HA.out).mono ?_;rintro e w4 ⟨rfl,hs4,st4⟩;obtain⟨q0,q1,q2,q3,q4,q5,z0,z1⟩:=chkAt_rd hs4;obtain⟨i0,i1,i2,i3,z2⟩:=itm_rd hs4;go_wp2_with fail
         refine(bcompare_any h h _ _ x.key prev hbk hab hux.out hup.out _ hs4.right.right.right.own hs4.right.right.right.own).mono ?_;rintro e w4' ⟨rfl,rfl⟩;go_wp2_with fail
         refine(must_any _ 11 _ _ _ _ hs4).mono ?_;rintro e w8 ⟨rfl,hs8,st8⟩;clear q0 q1 q2 q3 q4 q5 z0 z1 i0 i1 i2 i3 z2;obtain⟨q0,q1,q2,q3,q4,q5,z0,z1⟩:=chkAt_rd hs8;obtain⟨i0,i1,i2,i3,z2⟩:=itm_rd hs8;go_wp2_with fail
         refine(must_any _ 8 _ _ _ _ hs8).mono ?_;rintro e w5 ⟨rfl,hs5,st5⟩;clear q0 q1 q2 q3 q4 q5 z0 z1 i0 i1 i2 i3 z2;obtain⟨q0,q1,q2,q3,q4,q5,z0,z1⟩:=chkAt_rd hs5;obtain⟨i0,i1,i2,i3,z2⟩:=itm_rd hs5;go_wp2_with fail
         refine(must_any _ 8 _ _ _ _ hs5).mono ?_;rintro e w6 ⟨rfl,hs6,st6⟩;clear q0 q1 q2 q3 q4 q5 z0 z1 i0 i1 i2 i3 z2;obtain⟨q0,q1,q2,q3,q4,q5,z0,z1⟩:=chkAt_rd hs6;obtain⟨i0,i1,i2,i3,z2⟩:=itm_rd hs6;go_wp2_with fail
         refine(isPage_any _ _).mono ?_;rintro e w9 ⟨rfl,rfl⟩;go_wp2_with fail
         refine(must_any _ 15 _ _ _ _ hs6).mono ?_;rintro e w7 ⟨rfl,hs7,st7⟩;go_wp2;go_roundw
         case rel=>
          refine⟨k+1,_,x.key,by omega,congrArg (Value.int .i64) (by omega),HSTK.out.trans (st4.trans (st8.trans (st5.trans (st6.trans st7)))),itm_drop hs7,hbk,hux,hQ (close5 ?_ ?_ ?_ ?_ HE.out)⟩
          · have hn':=hn.out
            rw [Bool.eq_iff_iff];unfold keyOk;rw [if_neg (by omega)];simp [-List.length_eq_zero_iff];try omega
          · rw [Bool.eq_iff_iff];simp [ordOk];try omega
          · have hz':=hz.out
            exact val_big hz' (by simp) (by simp [-List.length_eq_zero_iff];try omega)
          · have hz':=hz.out
            exact kid_big hz' (by simp)
         case measure=>simp [intOf];omega
       all_goals
        go_wp2_with fail
        refine(must_any f 7 _ _ _ _ HA.out).mono ?_;rintro e w4 ⟨rfl,hs4,st4⟩;obtain⟨q0,q1,q2,q3,q4,q5,z0,z1⟩:=chkAt_rd hs4;obtain⟨i0,i1,i2,i3,z2⟩:=itm_rd hs4;go_wp2_with fail
        refine(bcompare_any h h _ _ x.key prev hbk hab hux.out hup.out _ hs4.right.right.right.own hs4.right.right.right.own).mono ?_;rintro e w4' ⟨rfl,rfl⟩;go_wp2_with fail
        refine(must_any _ 11 _ _ _ _ hs4).mono ?_;rintro e w8 ⟨rfl,hs8,st8⟩;clear q0 q1 q2 q3 q4 q5 z0 z1 i0 i1 i2 i3 z2;obtain⟨q0,q1,q2,q3,q4,q5,z0,z1⟩:=chkAt_rd hs8;obtain⟨i0,i1,i2,i3,z2⟩:=itm_rd hs8;go_wp2_with fail
        refine(must_any _ 8 _ _ _ _ hs8).mono ?_;rintro e w5 ⟨rfl,hs5,st5⟩;clear q0 q1 q2 q3 q4 q5 z0 z1 i0 i1 i2 i3 z2;obtain⟨q0,q1,q2,q3,q4,q5,z0,z1⟩:=chkAt_rd hs5;obtain⟨i0,i1,i2,i3,z2⟩:=itm_rd hs5;go_wp2_with fail
        refine(must_any _ 8 _ _ _ _ hs5).mono ?_;rintro e w6 ⟨rfl,hs6,st6⟩;clear q0 q1 q2 q3 q4 q5 z0 z1 i0 i1 i2 i3 z2;obtain⟨q0,q1,q2,q3,q4,q5,z0,z1⟩:=chkAt_rd hs6;obtain⟨i0,i1,i2,i3,z2⟩:=itm_rd hs6;go_wp2_with fail
        refine(must_any _ 15 _ _ _ _ hs6).mono ?_;rintro e w7 ⟨rfl,hs7,st7⟩;go_wp2;go_roundw
        case rel=>
         refine⟨k+1,_,x.key,by omega,congrArg (Value.int .i64) (by omega),HSTK.out.trans (st4.trans (st8.trans (st5.trans (st6.trans st7)))),itm_drop hs7,hbk,hux,hQ (close5 ?_ ?_ ?_ ?_ HE.out)⟩
         · have hn':=hn.out
           rw [Bool.eq_iff_iff];unfold keyOk;rw [if_neg (by omega)];simp [-List.length_eq_zero_iff];try omega
         · rw [Bool.eq_iff_iff];simp [ordOk];try omega
         · have hz':=hz.out
           unfold valOk;rw [if_neg (by decide)];first | (rw [if_neg (by omega)];rfl) | (rw [if_pos (by omega),if_pos (by omega),Bool.eq_iff_iff];simp;try omega)
         · have hz':=hz.out
           unfold kidOk;rw [if_pos ⟨rfl,by omega⟩,Bool.eq_iff_iff];simp
        case measure=>simp [intOf];omega
  · have hkl:k=its.length:=by omega
    subst hkl;have heq1:=heq.out;rw [List.drop_length] at heq1;have HE:=hQ heq1;clear heq heq1;go_wp2_with fail
    refine(must_any _ 15 true _ _ _ hs).mono ?_;rintro e w4 ⟨rfl,hs4,st4⟩;obtain⟨q0',_⟩:=chkAt_rd hs4;go_wp2;go_ret;refine⟨?_,hs4.right.right,hst.trans st4⟩;rw [← HE.out];show _=Ending.returned (Value.int .i64 (thenE (thenE f 0) 0))
    rw [thenE_zero,thenE_zero];rfl
end Go.Proofs.YtkfjilnmnbeokaaGreat.K5
