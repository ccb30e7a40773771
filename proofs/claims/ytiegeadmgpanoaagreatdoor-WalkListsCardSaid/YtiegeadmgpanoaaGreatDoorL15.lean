/- The program's check of any page; the conditions stand as hypotheses. -/
import Derived.Test.YtiegeadmgpanoaaGreatDoorL11
set_option maxRecDepth 100000
set_option maxHeartbeats 16000000
namespace Go.Proofs.YtiegeadmgpanoaaGreatDoor.E4
open ChangeShapes WideShapes ChangeAt RowKit Sl fB D2 Z3
def oy(fb pb:Nat)(f k l:Int)(vi vd:Value)(nx:Int)(R:Pr):Pr:=
 (Pr.pts fb (.cells #[.int .i64 f] 32)).star ((Pr.pts pb (.cells #[.int .i64 k,.int .i64 l,vi,vd,.int .i64 nx] 83)).star R)
theorem fG {fb pb:Nat}{f k l:Int}{vi vd:Value}{nx:Int}{R:Pr}{w:World}(h:Sat (oy fb pb f k l vi vd nx R) w):
 w.cell? ⟨fb,0,none⟩=some (.int .i64 f)∧w.cell? ⟨pb,0,none⟩=some (.int .i64 k)∧w.cell? ⟨pb,1,none⟩=some (.int .i64 l)∧w.cell? ⟨pb,2,none⟩=some vi∧w.cell? ⟨pb,3,none⟩=some vd∧w.cell? ⟨pb,4,none⟩=some (.int .i64 nx)∧fb<w.heap.size∧pb<w.heap.size:=by
 have h1:=h.dL;have h2:=(h.right).dL;refine⟨by rw [cell_of_heap h1];rfl,by rw [cell_of_heap h2];rfl,by rw [cell_of_heap h2];rfl,by rw [cell_of_heap h2];rfl,by rw [cell_of_heap h2];rfl,by rw [cell_of_heap h2];rfl,h.lt,h.right.lt⟩
theorem pC {k l:Int}{vi vd:Value}{nx:Int}{R:Pr}{w:World}(h:Sat R w):
 Sat (oy (w.heap.size+1) w.heap.size 0 k l vi vd nx R) ((w.alloc (.cells #[.int .i64 k,.int .i64 l,vi,vd,.int .i64 nx] 83)).alloc (.cells #[.int .i64 0] 32)):=by
 have h1:=(h.alloc (.cells #[.int .i64 k,.int .i64 l,vi,vd,.int .i64 nx] 83)).alloc (.cells #[.int .i64 0] 32);rw [show (w.alloc (.cells #[.int .i64 k,.int .i64 l,vi,vd,.int .i64 nx] 83)).heap.size=w.heap.size+1 by simp] at h1;exact h1
theorem zH {fb pb:Nat}{f k l:Int}{vi vd:Value}{nx:Int}{R:Pr}{w:World}{kv vv:Value}{c sz:Int}(h:Sat (oy fb pb f k l vi vd nx R) w):
 Sat (oy fb pb f k l vi vd nx ((Pr.pts w.heap.size (.cells #[kv,vv,.int .i64 c,.int .i64 sz] 89)).star R)) (w.alloc (.cells #[kv,vv,.int .i64 c,.int .i64 sz] 89)):=by
 have h1:=h.alloc (.cells #[kv,vv,.int .i64 c,.int .i64 sz] 89);exact h1.perm (by unfold oy;ac_rfl)
theorem kg {fb pb xb:Nat}{f k l:Int}{vi vd:Value}{nx:Int}{R:Pr}{w:World}{kv vv:Value}{c sz:Int}(h:Sat (oy fb pb f k l vi vd nx ((Pr.pts xb (.cells #[kv,vv,.int .i64 c,.int .i64 sz] 89)).star R)) w):
 w.cell? ⟨xb,0,none⟩=some kv∧w.cell? ⟨xb,1,none⟩=some vv∧w.cell? ⟨xb,2,none⟩=some (.int .i64 c)∧w.cell? ⟨xb,3,none⟩=some (.int .i64 sz)∧xb<w.heap.size:=by
 have h1:=h.right.right.dL;exact⟨by rw [cell_of_heap h1];rfl,by rw [cell_of_heap h1];rfl,by rw [cell_of_heap h1];rfl,by rw [cell_of_heap h1];rfl,h.right.right.lt⟩
theorem pD {fb pb xb:Nat}{f k l:Int}{vi vd:Value}{nx:Int}{R:Pr}{w:World}{o:Obj}(h:Sat (oy fb pb f k l vi vd nx ((Pr.pts xb o).star R)) w):Sat (oy fb pb f k l vi vd nx R) w:=by
 have h1:Sat ((Pr.pts xb o).star (oy fb pb f k l vi vd nx R)) w:=h.perm (by unfold oy;ac_rfl);exact h1.right
theorem Qz {f rest T:Int}{kk:Int}{i:Nat}{prev:List Int}{x:en}{b7 b11 b8 b15:Bool}(h7:kB kk i x=b7)(h11:kC i prev x=b11)(h8:jB kk x=b8)(Tf:jX kk x=b15)
 (he:gK f (gK (gK (if kB kk i x then 0 else 7) (gK (if kC i prev x then 0 else 11) (gK (if jB kk x then 0 else 8) (if jX kk x then 0 else 15)))) rest)=T):
 gK (kj (kj (kj (kj f b7 7) b11 11) b8 8) b15 15) rest=T:=by
 rw [← he,h7,h11,h8,Tf];simp only [sL,qP]
theorem QA {f rest T:Int}{kk:Int}{i:Nat}{prev:List Int}{x:en}{b7 b8 b15:Bool}(h7:kB kk i x=b7)(h11:kC i prev x=true)(h8:jB kk x=b8)(Tf:jX kk x=b15)
 (he:gK f (gK (gK (if kB kk i x then 0 else 7) (gK (if kC i prev x then 0 else 11) (gK (if jB kk x then 0 else 8) (if jX kk x then 0 else 15)))) rest)=T):
 gK (kj (kj (kj f b7 7) b8 8) b15 15) rest=T:=by
 rw [← he,h7,h11,h8,Tf];simp only [sL,qP,if_true,Fh]
theorem G'(l:List Int):(Hid (l.length=0)∧(1≤(l.length:Int))=False)∨(Hid (0<l.length)∧(1≤(l.length:Int))=True):=by
 rcases bI l.length with h | h
 · exact .inl ⟨hQ h,eq_false (by omega)⟩
 · exact .inr ⟨hQ h,eq_true (by omega)⟩
theorem xI(l:List Int):(Hid (l.length=0)∧((l.length:Int) == 0)=true)∨(Hid (0<l.length)∧((l.length:Int) == 0)=false):=by
 rcases bI l.length with h | h
 · exact .inl ⟨hQ h,by rw [beq_iff_eq];omega⟩
 · exact .inr ⟨hQ h,by rw [beq_eq_false_iff_ne];omega⟩
theorem Db(b:Bool):kj (kj 0 false 22) b 5=22:=by cases b<;>rfl
theorem FM(ai ad:Option Addr)(n ci d cd:Nat)(k l nx:Int)(hk:¬(1≤k∧k≤3))(F:Pr)(w:World)(hF:Sat F w):
 Calls Tryz.prog 69 #[fX k l (.slice ai n ci) (.slice ad d cd) nx] w fun e w'=>e= .returned (.int .i64 22)∧Sat F w'∧dN w w':=by
 have h0:=pC (k:=k) (l:=l) (vi:= .slice ai n ci) (vd:= .slice ad d cd) (nx:=nx) hF;have H0:=hQ h0;have eR:=hQ (((dN.refl w).alloc (.cells #[.int .i64 k,.int .i64 l,.slice ai n ci,.slice ad d cd,.int .i64 nx] 83)).alloc (.cells #[.int .i64 0] 32));have MB:=fun(F:Pr) (w:World) (f:Int) (b:Bool) (x:Int) (hF:Sat ((Pr.pts (w.heap.size+1) (.cells #[.int .i64 f] 32)).star F) w)=>hQ hF
 clear h0 hF MB;by_cases h1:1≤k
 · have h3:¬k≤3:=by omega
   go_enter Tryz.func69,Tryz.ntmps69
   go_wp2_with fail
   refine(fu 0 22 false _ _ _ H0.af).mono ?_;rintro e w1 ⟨rfl,hs1,fN⟩;obtain⟨q0,q1,q2,q3,q4,q5,z0,z1⟩:=fG (f:=kj 0 false 22) hs1;go_wp2_with fail
   refine(pg ai ad n ci d cd k l nx _).mono ?_;rintro e w2 ⟨rfl,ho⟩;go_wp2_with fail
   refine(fu _ 5 _ _ _ _ (hs1.only ho)).mono ?_;rintro e w3 ⟨rfl,fP,mF⟩;rw [Db] at fP;obtain⟨Sc,_⟩:=fG (f:=22) fP;go_wp2;go_ret;exact⟨rfl,fP.right.right,eR.af.trans (fN.trans (ho.st.trans mF))⟩
 · go_enter Tryz.func69,Tryz.ntmps69
   go_wp2_with fail
   refine(fu 0 22 false _ _ _ H0.af).mono ?_;rintro e w1 ⟨rfl,hs1,fN⟩;obtain⟨q0,q1,q2,q3,q4,q5,z0,z1⟩:=fG (f:=kj 0 false 22) hs1;go_wp2_with fail
   refine(pg ai ad n ci d cd k l nx _).mono ?_;rintro e w2 ⟨rfl,ho⟩;go_wp2_with fail
   refine(fu _ 5 _ _ _ _ (hs1.only ho)).mono ?_;rintro e w3 ⟨rfl,fP,mF⟩;rw [Db] at fP;obtain⟨Sc,_⟩:=fG (f:=22) fP;go_wp2;go_ret;exact⟨rfl,fP.right.right,eR.af.trans (fN.trans (ho.st.trans mF))⟩
theorem FN(ai ad:Option Addr)(n ci d cd:Nat)(k l nx:Int)(hk:1≤k∧k≤3)(hf:iR k l n d nx=false)(F:Pr)(w:World)(hF:Sat F w):
 Calls Tryz.prog 69 #[fX k l (.slice ai n ci) (.slice ad d cd) nx] w fun e w'=>e= .returned (.int .i64 5)∧Sat F w'∧dN w w':=by
 have h0:=pC (k:=k) (l:=l) (vi:= .slice ai n ci) (vd:= .slice ad d cd) (nx:=nx) hF;have H0:=hQ h0;have eR:=hQ (((dN.refl w).alloc (.cells #[.int .i64 k,.int .i64 l,.slice ai n ci,.slice ad d cd,.int .i64 nx] 83)).alloc (.cells #[.int .i64 0] 32));clear h0 hF;obtain⟨h1,h3⟩:=hk;go_enter Tryz.func69,Tryz.ntmps69
 go_wp2_with fail
 refine(fu 0 22 true _ _ _ H0.af).mono ?_;rintro e w1 ⟨rfl,hs1,fN⟩;obtain⟨q0,q1,q2,q3,q4,q5,z0,z1⟩:=fG (f:=kj 0 true 22) hs1;go_wp2_with fail
 refine(pg ai ad n ci d cd k l nx _).mono ?_;rintro e w2 ⟨rfl,ho⟩;rw [hf];go_wp2_with fail
 refine(fu _ 5 _ _ _ _ (hs1.only ho)).mono ?_;rintro e w3 ⟨rfl,fP,mF⟩;obtain⟨Sc,_⟩:=fG (f:=5) fP;go_wp2;go_ret;exact⟨rfl,fP.right.right,eR.af.trans (fN.trans (ho.st.trans mF))⟩
theorem Dc(h:Hp)(a ad:Option Addr)(c d cd:Nat)(its:List en)(l nx:Int)(hi:h_ h (.slice a its.length c) its)(hu:∀x∈its,U8 x.key)(hf:iR 2 l its.length d nx=true)(F:Pr)(w:World)(hF:Sat ((Pr.own h).star F) w):
 Calls Tryz.prog 69 #[fX 2 l (.slice a its.length c) (.slice ad d cd) nx] w fun e w'=>e= .returned (.int .i64 (gK (jr 2 0 [] its) (if mQ nx then 0 else 15)))∧Sat ((Pr.own h).star F) w'∧dN w w':=by
 have hnx:nx=0:=by unfold iR at hf;simp at hf;omega
 have Zp:its.length≤8:=by unfold iR at hf;simp at hf;omega
 subst hnx;obtain⟨a',c',e',_,rd⟩:=fL hi;cases e';have h0:=pC (k:=2) (l:=l) (vi:= .slice a its.length c) (vd:= .slice ad d cd) (nx:=0) hF;have H0:=hQ h0;have RD:=hQ rd;have HU:=hQ hu;have eR:=hQ (((dN.refl w).alloc (.cells #[.int .i64 2,.int .i64 l,.slice a its.length c,.slice ad d cd,.int .i64 0] 83)).alloc (.cells #[.int .i64 0] 32));clear h0 hF rd hu
 go_enter Tryz.func69,Tryz.ntmps69
 go_wp2_with fail
 refine(fu 0 22 true _ _ _ H0.af).mono ?_;rintro e w1 ⟨rfl,hs1,fN⟩;obtain⟨q0,q1,q2,q3,q4,q5,z0,z1⟩:=fG (f:=kj 0 true 22) hs1;go_wp2_with fail
 refine(pg a ad its.length c d cd 2 l 0 _).mono ?_;rintro e w2 ⟨rfl,ho⟩;rw [hf];go_wp2_with fail
 refine(fu _ 5 _ _ _ _ (hs1.only ho)).mono ?_;rintro e w3 ⟨rfl,fP,mF⟩;have gg:=hQ (eR.af.trans (fN.trans (ho.st.trans mF)));have xU:Sat (oy (w.heap.size+1) w.heap.size 0 2 l (.slice a its.length c) (.slice ad d cd) 0 ((Pr.own h).star F)) w3:=fP;clear q0 q1 q2 q3 q4 q5 z0 z1 hs1 fP fN ho mF eR H0;obtain⟨q0,q1,q2,q3,q4,q5,z0,z1⟩:=fG xU;have H3:=hQ xU;clear xU
 go_wp2_with fail
 go_loopw [5,30] (fun above i wr=> ∃(k:Nat) (f:Int) (prev:List Int),k≤its.length∧i= .int .i64 k∧dN w wr∧Sat (oy (w.heap.size+1) w.heap.size f 2 l (.slice a its.length c) (.slice ad d cd) 0 ((Pr.own h).star F)) wr∧Bytes h above prev∧Hid (U8 prev)∧
  Hid (gK f (jr 2 k prev (its.drop k))=jr 2 0 [] its)) (fun _ i _=>its.length-(intOf i).toNat)
 case atStart=>exact⟨0,0,[],aG _,rfl,gg.af,H3.af,gj.nil _ _,hQ (fun z hz=>by cases hz),hQ rfl⟩
 case round=>
  obtain⟨k,f,prev,hk,rfl,hst,hs,hab,Wl,heq⟩:=hrel;clear q0 q1 q2 q3 q4 q5 z0 z1;obtain⟨q0,q1,q2,q3,q4,q5,z0,z1⟩:=fG hs;rcases aB k its.length with hlt | hge
  · obtain⟨b,off,ak,ck,av,cv,rfl,hbk,qR,hcell⟩:=RD.af k hlt
    obtain⟨c0,c1,c2,c3⟩:=hcell wr hs.right.right.own;have lU:=heq.af;rw [wQ hlt,li,xE] at lU;have HE:=hQ lU;have IU:=hQ (HU.af its[k] (aE hlt));clear hcell heq lU;generalize its[k]=x at*;have HA:=hQ (zH (kv:= .slice ak x.key.length ck) (vv:= .slice av x.value.length cv) (c:=x.child) (sz:=x.size) hs)
    have nM:=hQ (hst.alloc (.cells #[.slice ak x.key.length ck,.slice av x.value.length cv,.int .i64 x.child,.int .i64 x.size] 89));clear hs hst;have rH:=G' x.key;have Cv:=xI x.value;rcases bI k with qn | qn
    · subst qn
      simp only [cB,Nat.add_zero] at c0 c1 c2 c3;rcases Cv with⟨hv,hv1⟩ | ⟨hv,hv1⟩
      all_goals
       go_wp2_with fail
       refine(fu f 7 _ _ _ _ HA.af).mono ?_;rintro e w4 ⟨rfl,fp,nz⟩;obtain⟨q0,q1,q2,q3,q4,q5,z0,z1⟩:=fG fp;obtain⟨i0,i1,i2,i3,z2⟩:=kg fp;go_wp2_with fail
       refine(fu _ 8 _ _ _ _ fp).mono ?_;rintro e w5 ⟨rfl,gu,iL⟩;clear q0 q1 q2 q3 q4 q5 z0 z1 i0 i1 i2 i3 z2;obtain⟨q0,q1,q2,q3,q4,q5,z0,z1⟩:=fG gu;obtain⟨i0,i1,i2,i3,z2⟩:=kg gu;go_wp2_with fail
       refine(mO _ _).mono ?_;rintro e w6 ⟨rfl,rfl⟩;go_wp2_with fail
       refine(fu _ 15 _ _ _ _ gu).mono ?_;rintro e w7 ⟨rfl,gZ,zJ⟩;go_wp2;go_roundw
       case rel=>
        refine⟨1,_,x.key,by omega,rfl,nM.af.trans (nz.trans (iL.trans zJ)),pD gZ,hbk,IU,hQ (QA ?_ rfl ?_ ?_ HE.af)⟩
        · rw [aL];simp [kB]
        · have hv':=hv.af
          rw [aL];unfold jB;rw [if_pos rfl];simp [-List.length_eq_zero_iff];try omega
        · rw [aL];simp [jX,xr]
       case measure=>simp [intOf];omega
    · have hk1:((k:Int) == 0)=false:=by rw [beq_eq_false_iff_ne];omega
      rcases rH with⟨hn,FO⟩ | ⟨hn,FO⟩
      all_goals
       rcases Cv with⟨hv,hv1⟩ | ⟨hv,hv1⟩
       all_goals
        go_wp2_with fail
        refine(fu f 7 _ _ _ _ HA.af).mono ?_;rintro e w4 ⟨rfl,fp,nz⟩;obtain⟨q0,q1,q2,q3,q4,q5,z0,z1⟩:=fG fp;obtain⟨i0,i1,i2,i3,z2⟩:=kg fp;go_wp2_with fail
        refine(jV h h _ _ x.key prev hbk hab IU.af Wl.af _ fp.right.right.right.own fp.right.right.right.own).mono ?_;rintro e Zv ⟨rfl,rfl⟩;go_wp2_with fail
        refine(fu _ 11 _ _ _ _ fp).mono ?_;rintro e w8 ⟨rfl,gp,KJ⟩;clear q0 q1 q2 q3 q4 q5 z0 z1 i0 i1 i2 i3 z2;obtain⟨q0,q1,q2,q3,q4,q5,z0,z1⟩:=fG gp;obtain⟨i0,i1,i2,i3,z2⟩:=kg gp;go_wp2_with fail
        refine(fu _ 8 _ _ _ _ gp).mono ?_;rintro e w5 ⟨rfl,gu,iL⟩;clear q0 q1 q2 q3 q4 q5 z0 z1 i0 i1 i2 i3 z2;obtain⟨q0,q1,q2,q3,q4,q5,z0,z1⟩:=fG gu;obtain⟨i0,i1,i2,i3,z2⟩:=kg gu;go_wp2_with fail
        refine(mO _ _).mono ?_;rintro e w6 ⟨rfl,rfl⟩;go_wp2_with fail
        refine(fu _ 15 _ _ _ _ gu).mono ?_;rintro e w7 ⟨rfl,gZ,zJ⟩;go_wp2;go_roundw
        case rel=>
         refine⟨k+1,_,x.key,by omega,congrArg (Value.int .i64) (by omega),nM.af.trans (nz.trans (KJ.trans (iL.trans zJ))),pD gZ,hbk,IU,hQ (Qz ?_ ?_ ?_ ?_ HE.af)⟩
         · have hn':=hn.af
           rw [aL];unfold kB;rw [if_neg (by omega)];simp [-List.length_eq_zero_iff];try omega
         · rw [aL];simp [kC];try omega
         · have hv':=hv.af
           rw [aL];unfold jB;rw [if_pos rfl];simp [-List.length_eq_zero_iff];try omega
         · rw [aL];simp [jX,xr]
        case measure=>simp [intOf];omega
  · have hkl:k=its.length:=by omega
    subst hkl;have lU:=heq.af;rw [bP] at lU;have HE:=hQ lU;clear heq lU;go_wp2_with fail
    refine(fu _ 15 true _ _ _ hs).mono ?_;rintro e w4 ⟨rfl,fp,nz⟩;obtain⟨Sc,_⟩:=fG fp;go_wp2;go_ret;refine⟨?_,fp.right.right,hst.trans nz⟩;rw [← HE.af];show _=Ending.returned (Value.int .i64 (gK (gK f 0) 0))
    rw [ot,ot];rfl
end Go.Proofs.YtiegeadmgpanoaaGreatDoor.E4
