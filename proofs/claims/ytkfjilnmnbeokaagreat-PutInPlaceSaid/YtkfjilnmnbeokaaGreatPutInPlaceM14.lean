/- The program's check of any page; the conditions stand as hypotheses. -/
import Derived.Test.YtkfjilnmnbeokaaGreatPutInPlaceM10
import Derived.Test.YtkfjilnmnbeokaaGreatPutInPlaceM01
set_option maxRecDepth 100000
set_option maxHeartbeats 16000000
namespace Go.Proofs.YtkfjilnmnbeokaaGreat.C4
open ChangeShapes WideShapes ChangeAt RowKit Sl Cop G2 J2 N2 P2 Q2 X3 Z3
def ChkAt(fb pb:Nat)(f k l:Int)(vi vd:Value)(nx:Int)(R:Pr):Pr:=
 (Pr.pts fb (.cells #[.int .i64 f] 25)).star ((Pr.pts pb (.cells #[.int .i64 k,.int .i64 l,vi,vd,.int .i64 nx] 74)).star R)
theorem chkAt_rd {fb pb:Nat}{f k l:Int}{vi vd:Value}{nx:Int}{R:Pr}{w:World}(h:Sat (ChkAt fb pb f k l vi vd nx R) w):
 w.cell? ⟨fb,0,none⟩=some (.int .i64 f)∧w.cell? ⟨pb,0,none⟩=some (.int .i64 k)∧w.cell? ⟨pb,1,none⟩=some (.int .i64 l)∧w.cell? ⟨pb,2,none⟩=some vi∧w.cell? ⟨pb,3,none⟩=some vd∧w.cell? ⟨pb,4,none⟩=some (.int .i64 nx)∧fb<w.heap.size∧pb<w.heap.size:=by
 have h1:=h.pts_heap;have h2:=(h.right).pts_heap;refine⟨by rw [cell_of_heap h1];rfl,by rw [cell_of_heap h2];rfl,by rw [cell_of_heap h2];rfl,by rw [cell_of_heap h2];rfl,by rw [cell_of_heap h2];rfl,by rw [cell_of_heap h2];rfl,h.lt,h.right.lt⟩
theorem chk_start {k l:Int}{vi vd:Value}{nx:Int}{R:Pr}{w:World}(h:Sat R w):
 Sat (ChkAt (w.heap.size+1) w.heap.size 0 k l vi vd nx R) ((w.alloc (.cells #[.int .i64 k,.int .i64 l,vi,vd,.int .i64 nx] 74)).alloc (.cells #[.int .i64 0] 25)):=by
 have h1:=(h.alloc (.cells #[.int .i64 k,.int .i64 l,vi,vd,.int .i64 nx] 74)).alloc (.cells #[.int .i64 0] 25);rw [show (w.alloc (.cells #[.int .i64 k,.int .i64 l,vi,vd,.int .i64 nx] 74)).heap.size=w.heap.size+1 by simp] at h1;exact h1
theorem itm_start {fb pb:Nat}{f k l:Int}{vi vd:Value}{nx:Int}{R:Pr}{w:World}{kv vv:Value}{c sz:Int}(h:Sat (ChkAt fb pb f k l vi vd nx R) w):
 Sat (ChkAt fb pb f k l vi vd nx ((Pr.pts w.heap.size (.cells #[kv,vv,.int .i64 c,.int .i64 sz] 89)).star R)) (w.alloc (.cells #[kv,vv,.int .i64 c,.int .i64 sz] 89)):=by
 have h1:=h.alloc (.cells #[kv,vv,.int .i64 c,.int .i64 sz] 89);exact h1.perm (by unfold ChkAt;ac_rfl)
theorem itm_rd {fb pb xb:Nat}{f k l:Int}{vi vd:Value}{nx:Int}{R:Pr}{w:World}{kv vv:Value}{c sz:Int}(h:Sat (ChkAt fb pb f k l vi vd nx ((Pr.pts xb (.cells #[kv,vv,.int .i64 c,.int .i64 sz] 89)).star R)) w):
 w.cell? ⟨xb,0,none⟩=some kv∧w.cell? ⟨xb,1,none⟩=some vv∧w.cell? ⟨xb,2,none⟩=some (.int .i64 c)∧w.cell? ⟨xb,3,none⟩=some (.int .i64 sz)∧xb<w.heap.size:=by
 have h1:=h.right.right.pts_heap;exact⟨by rw [cell_of_heap h1];rfl,by rw [cell_of_heap h1];rfl,by rw [cell_of_heap h1];rfl,by rw [cell_of_heap h1];rfl,h.right.right.lt⟩
theorem itm_drop {fb pb xb:Nat}{f k l:Int}{vi vd:Value}{nx:Int}{R:Pr}{w:World}{o:Obj}(h:Sat (ChkAt fb pb f k l vi vd nx ((Pr.pts xb o).star R)) w):Sat (ChkAt fb pb f k l vi vd nx R) w:=by
 have h1:Sat ((Pr.pts xb o).star (ChkAt fb pb f k l vi vd nx R)) w:=h.perm (by unfold ChkAt;ac_rfl);exact h1.right
theorem close4 {f rest T:Int}{kk:Int}{i:Nat}{prev:List Int}{x:ItemV}{b7 b11 b8 b15:Bool}(h7:keyOk kk i x=b7)(h11:ordOk i prev x=b11)(h8:valOk kk x=b8)(h15:kidOk kk x=b15)
 (he:thenE f (thenE (thenE (if keyOk kk i x then 0 else 7) (thenE (if ordOk i prev x then 0 else 11) (thenE (if valOk kk x then 0 else 8) (if kidOk kk x then 0 else 15)))) rest)=T):
 thenE (mustP (mustP (mustP (mustP f b7 7) b11 11) b8 8) b15 15) rest=T:=by
 rw [← he,h7,h11,h8,h15];simp only [mustP_then,thenE_assoc]
theorem close3 {f rest T:Int}{kk:Int}{i:Nat}{prev:List Int}{x:ItemV}{b7 b8 b15:Bool}(h7:keyOk kk i x=b7)(h11:ordOk i prev x=true)(h8:valOk kk x=b8)(h15:kidOk kk x=b15)
 (he:thenE f (thenE (thenE (if keyOk kk i x then 0 else 7) (thenE (if ordOk i prev x then 0 else 11) (thenE (if valOk kk x then 0 else 8) (if kidOk kk x then 0 else 15)))) rest)=T):
 thenE (mustP (mustP (mustP f b7 7) b8 8) b15 15) rest=T:=by
 rw [← he,h7,h11,h8,h15];simp only [mustP_then,thenE_assoc,if_true,zero_thenE]
theorem len_dec(l:List Int):(Hid (l.length=0)∧(1≤(l.length:Int))=False)∨(Hid (0<l.length)∧(1≤(l.length:Int))=True):=by
 rcases Nat.eq_zero_or_pos l.length with h | h
 · exact .inl ⟨hQ h,eq_false (by omega)⟩
 · exact .inr ⟨hQ h,eq_true (by omega)⟩
theorem len_zero(l:List Int):(Hid (l.length=0)∧((l.length:Int) == 0)=true)∨(Hid (0<l.length)∧((l.length:Int) == 0)=false):=by
 rcases Nat.eq_zero_or_pos l.length with h | h
 · exact .inl ⟨hQ h,by rw [beq_iff_eq];omega⟩
 · exact .inr ⟨hQ h,by rw [beq_eq_false_iff_ne];omega⟩
theorem mustP_22(b:Bool):mustP (mustP 0 false 22) b 5=22:=by cases b<;>rfl
theorem check_kind(ai ad:Option Addr)(n ci d cd:Nat)(k l nx:Int)(hk:¬(1≤k∧k≤3))(F:Pr)(w:World)(hF:Sat F w):
 Calls Tryz.prog 105 #[pageV k l (.slice ai n ci) (.slice ad d cd) nx] w fun e w'=>e= .returned (.int .i64 22)∧Sat F w'∧Stays w w':=by
 have h0:=chk_start (k:=k) (l:=l) (vi:= .slice ai n ci) (vd:= .slice ad d cd) (nx:=nx) hF;have H0:=hQ h0;have HST:=hQ (((Stays.refl w).alloc (.cells #[.int .i64 k,.int .i64 l,.slice ai n ci,.slice ad d cd,.int .i64 nx] 74)).alloc (.cells #[.int .i64 0] 25));have MB:=fun(F:Pr) (w:World) (f:Int) (b:Bool) (x:Int) (hF:Sat ((Pr.pts (w.heap.size+1) (.cells #[.int .i64 f] 25)).star F) w)=>hQ hF
 clear h0 hF MB;by_cases h1:1≤k
 · have h3:¬k≤3:=by omega
   go_enter Tryz.func105,Tryz.ntmps105
   go_wp2_with fail
   refine(must_any 0 22 false _ _ _ H0.out).mono ?_;rintro e w1 ⟨rfl,hs1,st1⟩;obtain⟨q0,q1,q2,q3,q4,q5,z0,z1⟩:=chkAt_rd (f:=mustP 0 false 22) hs1;go_wp2_with fail
   refine(form_any ai ad n ci d cd k l nx _).mono ?_;rintro e w2 ⟨rfl,ho⟩;go_wp2_with fail
   refine(must_any _ 5 _ _ _ _ (hs1.only ho)).mono ?_;rintro e w3 ⟨rfl,hs3,st3⟩;rw [mustP_22] at hs3;obtain⟨q0',_⟩:=chkAt_rd (f:=22) hs3;go_wp2;go_ret;exact⟨rfl,hs3.right.right,HST.out.trans (st1.trans (ho.st.trans st3))⟩
 · go_enter Tryz.func105,Tryz.ntmps105
   go_wp2_with fail
   refine(must_any 0 22 false _ _ _ H0.out).mono ?_;rintro e w1 ⟨rfl,hs1,st1⟩;obtain⟨q0,q1,q2,q3,q4,q5,z0,z1⟩:=chkAt_rd (f:=mustP 0 false 22) hs1;go_wp2_with fail
   refine(form_any ai ad n ci d cd k l nx _).mono ?_;rintro e w2 ⟨rfl,ho⟩;go_wp2_with fail
   refine(must_any _ 5 _ _ _ _ (hs1.only ho)).mono ?_;rintro e w3 ⟨rfl,hs3,st3⟩;rw [mustP_22] at hs3;obtain⟨q0',_⟩:=chkAt_rd (f:=22) hs3;go_wp2;go_ret;exact⟨rfl,hs3.right.right,HST.out.trans (st1.trans (ho.st.trans st3))⟩
theorem check_form(ai ad:Option Addr)(n ci d cd:Nat)(k l nx:Int)(hk:1≤k∧k≤3)(hf:formP k l n d nx=false)(F:Pr)(w:World)(hF:Sat F w):
 Calls Tryz.prog 105 #[pageV k l (.slice ai n ci) (.slice ad d cd) nx] w fun e w'=>e= .returned (.int .i64 5)∧Sat F w'∧Stays w w':=by
 have h0:=chk_start (k:=k) (l:=l) (vi:= .slice ai n ci) (vd:= .slice ad d cd) (nx:=nx) hF;have H0:=hQ h0;have HST:=hQ (((Stays.refl w).alloc (.cells #[.int .i64 k,.int .i64 l,.slice ai n ci,.slice ad d cd,.int .i64 nx] 74)).alloc (.cells #[.int .i64 0] 25));clear h0 hF;obtain⟨h1,h3⟩:=hk;go_enter Tryz.func105,Tryz.ntmps105
 go_wp2_with fail
 refine(must_any 0 22 true _ _ _ H0.out).mono ?_;rintro e w1 ⟨rfl,hs1,st1⟩;obtain⟨q0,q1,q2,q3,q4,q5,z0,z1⟩:=chkAt_rd (f:=mustP 0 true 22) hs1;go_wp2_with fail
 refine(form_any ai ad n ci d cd k l nx _).mono ?_;rintro e w2 ⟨rfl,ho⟩;rw [hf];go_wp2_with fail
 refine(must_any _ 5 _ _ _ _ (hs1.only ho)).mono ?_;rintro e w3 ⟨rfl,hs3,st3⟩;obtain⟨q0',_⟩:=chkAt_rd (f:=5) hs3;go_wp2;go_ret;exact⟨rfl,hs3.right.right,HST.out.trans (st1.trans (ho.st.trans st3))⟩
theorem check_index(h:Hp)(a ad:Option Addr)(c d cd:Nat)(its:List ItemV)(l nx:Int)(hi:ItemsIn h (.slice a its.length c) its)(hu:∀x∈its,U8 x.key)(hf:formP 2 l its.length d nx=true)(F:Pr)(w:World)(hF:Sat ((Pr.own h).star F) w):
 Calls Tryz.prog 105 #[pageV 2 l (.slice a its.length c) (.slice ad d cd) nx] w fun e w'=>e= .returned (.int .i64 (thenE (itemsE 2 0 [] its) (if nextOk nx then 0 else 15)))∧Sat ((Pr.own h).star F) w'∧Stays w w':=by
 have hnx:nx=0:=by unfold formP at hf;simp at hf;omega
 have hnl:its.length≤8:=by unfold formP at hf;simp at hf;omega
 subst hnx;obtain⟨a',c',e',_,rd⟩:=items_rd hi;cases e';have h0:=chk_start (k:=2) (l:=l) (vi:= .slice a its.length c) (vd:= .slice ad d cd) (nx:=0) hF;have H0:=hQ h0;have RD:=hQ rd;have HU:=hQ hu;have HST:=hQ (((Stays.refl w).alloc (.cells #[.int .i64 2,.int .i64 l,.slice a its.length c,.slice ad d cd,.int .i64 0] 74)).alloc (.cells #[.int .i64 0] 25));clear h0 hF rd hu
 go_enter Tryz.func105,Tryz.ntmps105
 go_wp2_with fail
 refine(must_any 0 22 true _ _ _ H0.out).mono ?_;rintro e w1 ⟨rfl,hs1,st1⟩;obtain⟨q0,q1,q2,q3,q4,q5,z0,z1⟩:=chkAt_rd (f:=mustP 0 true 22) hs1;go_wp2_with fail
 refine(form_any a ad its.length c d cd 2 l 0 _).mono ?_;rintro e w2 ⟨rfl,ho⟩;rw [hf];go_wp2_with fail
 refine(must_any _ 5 _ _ _ _ (hs1.only ho)).mono ?_;rintro e w3 ⟨rfl,hs3,st3⟩;have HST3:=hQ (HST.out.trans (st1.trans (ho.st.trans st3)));have hs3':Sat (ChkAt (w.heap.size+1) w.heap.size 0 2 l (.slice a its.length c) (.slice ad d cd) 0 ((Pr.own h).star F)) w3:=hs3;clear q0 q1 q2 q3 q4 q5 z0 z1 hs1 hs3 st1 ho st3 HST H0;obtain⟨q0,q1,q2,q3,q4,q5,z0,z1⟩:=chkAt_rd hs3';have H3:=hQ hs3';clear hs3'
 go_wp2_with fail
 go_loopw [5,30] (fun above i wr=> ∃(k:Nat) (f:Int) (prev:List Int),k≤its.length∧i= .int .i64 k∧Stays w wr∧Sat (ChkAt (w.heap.size+1) w.heap.size f 2 l (.slice a its.length c) (.slice ad d cd) 0 ((Pr.own h).star F)) wr∧Bytes h above prev∧Hid (U8 prev)∧
  Hid (thenE f (itemsE 2 k prev (its.drop k))=itemsE 2 0 [] its)) (fun _ i _=>its.length-(intOf i).toNat)
 case atStart=>exact⟨0,0,[],Nat.zero_le _,rfl,HST3.out,H3.out,RowIn.nil _ _,hQ (fun z hz=>by cases hz),hQ rfl⟩
 case round=>
  obtain⟨k,f,prev,hk,rfl,hst,hs,hab,hup,heq⟩:=hrel;clear q0 q1 q2 q3 q4 q5 z0 z1;obtain⟨q0,q1,q2,q3,q4,q5,z0,z1⟩:=chkAt_rd hs;rcases Nat.lt_or_ge k its.length with hlt | hge
  · obtain⟨b,off,ak,ck,av,cv,rfl,hbk,hbv,hcell⟩:=RD.out k hlt
    obtain⟨c0,c1,c2,c3⟩:=hcell wr hs.right.right.own;have heq1:=heq.out;rw [drop_at hlt,itemsE_cons,itemE_then] at heq1;have HE:=hQ heq1;have hux:=hQ (HU.out its[k] (List.getElem_mem hlt));clear hcell heq heq1;generalize its[k]=x at*;have HA:=hQ (itm_start (kv:= .slice ak x.key.length ck) (vv:= .slice av x.value.length cv) (c:=x.child) (sz:=x.size) hs)
    have HSTK:=hQ (hst.alloc (.cells #[.slice ak x.key.length ck,.slice av x.value.length cv,.int .i64 x.child,.int .i64 x.size] 89));clear hs hst;have hn2:=len_dec x.key;have hv2:=len_zero x.value;rcases Nat.eq_zero_or_pos k with hk0 | hk0
    · subst hk0
      simp only [Nat.zero_mul,Nat.add_zero] at c0 c1 c2 c3;rcases hv2 with⟨hv,hv1⟩ | ⟨hv,hv1⟩
      all_goals
       go_wp2_with fail
       refine(must_any f 7 _ _ _ _ HA.out).mono ?_;rintro e w4 ⟨rfl,hs4,st4⟩;obtain⟨q0,q1,q2,q3,q4,q5,z0,z1⟩:=chkAt_rd hs4;obtain⟨i0,i1,i2,i3,z2⟩:=itm_rd hs4;go_wp2_with fail
       refine(must_any _ 8 _ _ _ _ hs4).mono ?_;rintro e w5 ⟨rfl,hs5,st5⟩;clear q0 q1 q2 q3 q4 q5 z0 z1 i0 i1 i2 i3 z2;obtain⟨q0,q1,q2,q3,q4,q5,z0,z1⟩:=chkAt_rd hs5;obtain⟨i0,i1,i2,i3,z2⟩:=itm_rd hs5;go_wp2_with fail
       refine(isPage_any _ _).mono ?_;rintro e w6 ⟨rfl,rfl⟩;go_wp2_with fail
       refine(must_any _ 15 _ _ _ _ hs5).mono ?_;rintro e w7 ⟨rfl,hs7,st7⟩;go_wp2;go_roundw
       case rel=>
        refine⟨1,_,x.key,by omega,rfl,HSTK.out.trans (st4.trans (st5.trans st7)),itm_drop hs7,hbk,hux,hQ (close3 ?_ rfl ?_ ?_ HE.out)⟩
        · rw [Bool.eq_iff_iff];simp [keyOk]
        · have hv':=hv.out
          rw [Bool.eq_iff_iff];unfold valOk;rw [if_pos rfl];simp [-List.length_eq_zero_iff];try omega
        · rw [Bool.eq_iff_iff];simp [kidOk,isPg]
       case measure=>simp [intOf];omega
    · have hk1:((k:Int) == 0)=false:=by rw [beq_eq_false_iff_ne];omega
      rcases hn2 with⟨hn,hn1⟩ | ⟨hn,hn1⟩
      all_goals
       rcases hv2 with⟨hv,hv1⟩ | ⟨hv,hv1⟩
       all_goals
        go_wp2_with fail
        refine(must_any f 7 _ _ _ _ HA.out).mono ?_;rintro e w4 ⟨rfl,hs4,st4⟩;obtain⟨q0,q1,q2,q3,q4,q5,z0,z1⟩:=chkAt_rd hs4;obtain⟨i0,i1,i2,i3,z2⟩:=itm_rd hs4;go_wp2_with fail
        refine(bcompare_any h h _ _ x.key prev hbk hab hux.out hup.out _ hs4.right.right.right.own hs4.right.right.right.own).mono ?_;rintro e w4' ⟨rfl,rfl⟩;go_wp2_with fail
        refine(must_any _ 11 _ _ _ _ hs4).mono ?_;rintro e w8 ⟨rfl,hs8,st8⟩;clear q0 q1 q2 q3 q4 q5 z0 z1 i0 i1 i2 i3 z2;obtain⟨q0,q1,q2,q3,q4,q5,z0,z1⟩:=chkAt_rd hs8;obtain⟨i0,i1,i2,i3,z2⟩:=itm_rd hs8;go_wp2_with fail
        refine(must_any _ 8 _ _ _ _ hs8).mono ?_;rintro e w5 ⟨rfl,hs5,st5⟩;clear q0 q1 q2 q3 q4 q5 z0 z1 i0 i1 i2 i3 z2;obtain⟨q0,q1,q2,q3,q4,q5,z0,z1⟩:=chkAt_rd hs5;obtain⟨i0,i1,i2,i3,z2⟩:=itm_rd hs5;go_wp2_with fail
        refine(isPage_any _ _).mono ?_;rintro e w6 ⟨rfl,rfl⟩;go_wp2_with fail
        refine(must_any _ 15 _ _ _ _ hs5).mono ?_;rintro e w7 ⟨rfl,hs7,st7⟩;go_wp2;go_roundw
        case rel=>
         refine⟨k+1,_,x.key,by omega,congrArg (Value.int .i64) (by omega),HSTK.out.trans (st4.trans (st8.trans (st5.trans st7))),itm_drop hs7,hbk,hux,hQ (close4 ?_ ?_ ?_ ?_ HE.out)⟩
         · have hn':=hn.out
           rw [Bool.eq_iff_iff];unfold keyOk;rw [if_neg (by omega)];simp [-List.length_eq_zero_iff];try omega
         · rw [Bool.eq_iff_iff];simp [ordOk];try omega
         · have hv':=hv.out
           rw [Bool.eq_iff_iff];unfold valOk;rw [if_pos rfl];simp [-List.length_eq_zero_iff];try omega
         · rw [Bool.eq_iff_iff];simp [kidOk,isPg]
        case measure=>simp [intOf];omega
  · have hkl:k=its.length:=by omega
    subst hkl;have heq1:=heq.out;rw [List.drop_length] at heq1;have HE:=hQ heq1;clear heq heq1;go_wp2_with fail
    refine(must_any _ 15 true _ _ _ hs).mono ?_;rintro e w4 ⟨rfl,hs4,st4⟩;obtain⟨q0',_⟩:=chkAt_rd hs4;go_wp2;go_ret;refine⟨?_,hs4.right.right,hst.trans st4⟩;rw [← HE.out];show _=Ending.returned (Value.int .i64 (thenE (thenE f 0) 0))
    rw [thenE_zero,thenE_zero];rfl
end Go.Proofs.YtkfjilnmnbeokaaGreat.C4
