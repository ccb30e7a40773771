/- The program's check of a leaf, of a value's page, and of any page; the conditions stand as hypotheses. -/
import Derived.Test.YtiegeadmgpanoaaGreatDoorL15
set_option maxRecDepth 100000
set_option maxHeartbeats 16000000
namespace Go.Proofs.YtiegeadmgpanoaaGreatDoor.D2
open ChangeShapes WideShapes ChangeAt RowKit Sl fB Z3 E4
theorem XC(a b:Bool)(r:Int):gK (if a then 0 else 8) (gK (if b then 0 else 8) r)=gK (if(a && b) then 0 else 8) r:=by cases a<;>cases b<;>rfl
theorem Bq {f rest T:Int}{kk:Int}{i:Nat}{prev:List Int}{x:en}{b7 b11 b8 c8 b15:Bool}(h7:kB kk i x=b7)(h11:kC i prev x=b11)(h8:jB kk x=(b8 && c8))(Tf:jX kk x=b15)
 (he:gK f (gK (gK (if kB kk i x then 0 else 7) (gK (if kC i prev x then 0 else 11) (gK (if jB kk x then 0 else 8) (if jX kk x then 0 else 15)))) rest)=T):
 gK (kj (kj (kj (kj (kj f b7 7) b11 11) b8 8) c8 8) b15 15) rest=T:=by
 rw [← he,h7,h11,h8,Tf];simp only [sL,qP,XC]
theorem wU {x:en}(h:32<x.size){b c:Bool}(hb:b=true↔x.size≤3840)(hc:c=true↔x.value.length=0):jB 1 x=(b && c):=by
 rw [aL,aJ,hb,hc];unfold jB;rw [if_neg (by decide)];by_cases XD:x.size≤3840
 · rw [if_pos ⟨by omega,XD⟩,if_neg (by omega),decide_eq_true_eq]
   exact⟨fun e=>⟨XD,e⟩,fun e=>e.2⟩
 · rw [if_neg (by omega)]
   exact⟨fun e=>(by cases e),fun e=>absurd e.1 XD⟩
theorem Br {x:en}(h:32<x.size){b:Bool}(hb:b=true↔(1≤x.child∧x.child≤65536)):jX 1 x=b:=by
 rw [aL,hb];unfold jX xr;rw [if_neg (by omega),decide_eq_true_eq]
example {x:en} (hz':32<x.size):jB 1 x=(decide (x.size≤3840) && ((x.value.length:Int) == 0)):=wU hz' (by simp) (by simp [-List.length_eq_zero_iff];try omega)
example {x:en} (hz':32<x.size):jB 1 x=(decide (x.size≤3840) && decide ((x.value.length:Int)=0)):=wU hz' (by simp) (by simp [-List.length_eq_zero_iff];try omega)
example {x:en} (hz':32<x.size):jX 1 x=(decide (1≤x.child) && decide (x.child≤65536)):=Br hz' (by simp)
theorem Ls(s:Int):(Hid (s<0)∧(0≤s)=False∧(s≤32)=True)∨(Hid (0≤s∧s≤32)∧(0≤s)=True∧(s≤32)=True)∨(Hid (32<s)∧(0≤s)=True∧(s≤32)=False):=by
 by_cases h:s<0
 · exact .inl ⟨hQ h,eq_false (by omega),eq_true (by omega)⟩
 · by_cases h2:s≤32
   · exact .inr (.inl ⟨hQ ⟨by omega,h2⟩,eq_true (by omega),eq_true h2⟩)
   · exact .inr (.inr ⟨hQ (by omega),eq_true (by omega),eq_false h2⟩)
theorem FU(h:Hp)(a ad:Option Addr)(c d cd:Nat)(its:List en)(l nx:Int)(hi:h_ h (.slice a its.length c) its)(hu:∀x∈its,U8 x.key)(hf:iR 1 l its.length d nx=true)(F:Pr)(w:World)(hF:Sat ((Pr.own h).star F) w):
 Calls Tryz.prog 69 #[fX 1 l (.slice a its.length c) (.slice ad d cd) nx] w fun e w'=>e= .returned (.int .i64 (gK (jr 1 0 [] its) (if mQ nx then 0 else 15)))∧Sat ((Pr.own h).star F) w'∧dN w w':=by
 have hnx:nx=0:=by unfold iR at hf;simp at hf;omega
 have Zp:its.length≤8:=by unfold iR at hf;simp at hf;omega
 subst hnx;obtain⟨a',c',e',_,rd⟩:=fL hi;cases e';have h0:=pC (k:=1) (l:=l) (vi:= .slice a its.length c) (vd:= .slice ad d cd) (nx:=0) hF;have H0:=hQ h0;have RD:=hQ rd;have HU:=hQ hu;have eR:=hQ (((dN.refl w).alloc (.cells #[.int .i64 1,.int .i64 l,.slice a its.length c,.slice ad d cd,.int .i64 0] 83)).alloc (.cells #[.int .i64 0] 32));clear h0 hF rd hu
 go_enter Tryz.func69,Tryz.ntmps69
 go_wp2_with fail
 refine(fu 0 22 true _ _ _ H0.af).mono ?_;rintro e w1 ⟨rfl,hs1,fN⟩;obtain⟨q0,q1,q2,q3,q4,q5,z0,z1⟩:=fG (f:=kj 0 true 22) hs1;go_wp2_with fail
 refine(pg a ad its.length c d cd 1 l 0 _).mono ?_;rintro e w2 ⟨rfl,ho⟩;rw [hf];go_wp2_with fail
 refine(fu _ 5 _ _ _ _ (hs1.only ho)).mono ?_;rintro e w3 ⟨rfl,fP,mF⟩;have gg:=hQ (eR.af.trans (fN.trans (ho.st.trans mF)));have xU:Sat (oy (w.heap.size+1) w.heap.size 0 1 l (.slice a its.length c) (.slice ad d cd) 0 ((Pr.own h).star F)) w3:=fP;clear q0 q1 q2 q3 q4 q5 z0 z1 hs1 fP fN ho mF eR H0;obtain⟨q0,q1,q2,q3,q4,q5,z0,z1⟩:=fG xU;have H3:=hQ xU;clear xU
 go_wp2_with fail
 go_loopw [5,30] (fun above i wr=> ∃(k:Nat) (f:Int) (prev:List Int),k≤its.length∧i= .int .i64 k∧dN w wr∧Sat (oy (w.heap.size+1) w.heap.size f 1 l (.slice a its.length c) (.slice ad d cd) 0 ((Pr.own h).star F)) wr∧Bytes h above prev∧Hid (U8 prev)∧
  Hid (gK f (jr 1 k prev (its.drop k))=jr 1 0 [] its)) (fun _ i _=>its.length-(intOf i).toNat)
 case atStart=>exact⟨0,0,[],aG _,rfl,gg.af,H3.af,gj.nil _ _,hQ (fun z hz=>by cases hz),hQ rfl⟩
 case round=>
  obtain⟨k,f,prev,hk,rfl,hst,hs,hab,Wl,heq⟩:=hrel;clear q0 q1 q2 q3 q4 q5 z0 z1;obtain⟨q0,q1,q2,q3,q4,q5,z0,z1⟩:=fG hs;rcases aB k its.length with hlt | hge
  · obtain⟨b,off,ak,ck,av,cv,rfl,hbk,qR,hcell⟩:=RD.af k hlt
    obtain⟨c0,c1,c2,c3⟩:=hcell wr hs.right.right.own;have lU:=heq.af;rw [wQ hlt,li,xE] at lU;have HE:=hQ lU;have IU:=hQ (HU.af its[k] (aE hlt));clear hcell heq lU;generalize its[k]=x at*;have HA:=hQ (zH (kv:= .slice ak x.key.length ck) (vv:= .slice av x.value.length cv) (c:=x.child) (sz:=x.size) hs)
    have nM:=hQ (hst.alloc (.cells #[.slice ak x.key.length ck,.slice av x.value.length cv,.int .i64 x.child,.int .i64 x.size] 89));clear hs hst;have rH:=G' x.key;have jg:=Ls x.size;rcases bI k with qn | qn
    · subst qn
      simp only [cB,Nat.add_zero] at c0 c1 c2 c3;rcases rH with⟨hn,FO⟩ | ⟨hn,FO⟩
      all_goals
       rcases jg with⟨hz,hz1,Tn⟩ | ⟨hz,hz1,Tn⟩ | ⟨hz,hz1,Tn⟩
       rotate_left 2
       · skip
         go_wp2_with fail
         refine(fu f 7 _ _ _ _ HA.af).mono ?_;rintro e w4 ⟨rfl,fp,nz⟩;obtain⟨q0,q1,q2,q3,q4,q5,z0,z1⟩:=fG fp;obtain⟨i0,i1,i2,i3,z2⟩:=kg fp;go_wp2_with fail
         refine(fu _ 11 _ _ _ _ fp).mono ?_;rintro e w8 ⟨rfl,gp,KJ⟩;clear q0 q1 q2 q3 q4 q5 z0 z1 i0 i1 i2 i3 z2;obtain⟨q0,q1,q2,q3,q4,q5,z0,z1⟩:=fG gp;obtain⟨i0,i1,i2,i3,z2⟩:=kg gp;go_wp2_with fail
         refine(fu _ 8 _ _ _ _ gp).mono ?_;rintro e w5 ⟨rfl,gu,iL⟩;clear q0 q1 q2 q3 q4 q5 z0 z1 i0 i1 i2 i3 z2;obtain⟨q0,q1,q2,q3,q4,q5,z0,z1⟩:=fG gu;obtain⟨i0,i1,i2,i3,z2⟩:=kg gu;go_wp2_with fail
         refine(fu _ 8 _ _ _ _ gu).mono ?_;rintro e w6 ⟨rfl,gQ,Bs⟩;clear q0 q1 q2 q3 q4 q5 z0 z1 i0 i1 i2 i3 z2;obtain⟨q0,q1,q2,q3,q4,q5,z0,z1⟩:=fG gQ;obtain⟨i0,i1,i2,i3,z2⟩:=kg gQ;go_wp2_with fail
         refine(mO _ _).mono ?_;rintro e w9 ⟨rfl,rfl⟩;go_wp2_with fail
         refine(fu _ 15 _ _ _ _ gQ).mono ?_;rintro e w7 ⟨rfl,gZ,zJ⟩;go_wp2;go_roundw
         case rel=>
          refine⟨1,_,x.key,by omega,rfl,nM.af.trans (nz.trans (KJ.trans (iL.trans (Bs.trans zJ)))),pD gZ,hbk,IU,hQ (Bq ?_ ?_ ?_ ?_ HE.af)⟩
          · have hn':=hn.af
            rw [aL];unfold kB;rw [if_neg (by omega)];simp [-List.length_eq_zero_iff];try omega
          · rw [aL];simp [kC];try omega
          · have hz':=hz.af
            exact wU hz' (by simp) (by simp [-List.length_eq_zero_iff];try omega)
          · have hz':=hz.af
            exact Br hz' (by simp)
         case measure=>simp [intOf];omega
       all_goals
        go_wp2_with fail
        refine(fu f 7 _ _ _ _ HA.af).mono ?_;rintro e w4 ⟨rfl,fp,nz⟩;obtain⟨q0,q1,q2,q3,q4,q5,z0,z1⟩:=fG fp;obtain⟨i0,i1,i2,i3,z2⟩:=kg fp;go_wp2_with fail
        refine(fu _ 11 _ _ _ _ fp).mono ?_;rintro e w8 ⟨rfl,gp,KJ⟩;clear q0 q1 q2 q3 q4 q5 z0 z1 i0 i1 i2 i3 z2;obtain⟨q0,q1,q2,q3,q4,q5,z0,z1⟩:=fG gp;obtain⟨i0,i1,i2,i3,z2⟩:=kg gp;go_wp2_with fail
        refine(fu _ 8 _ _ _ _ gp).mono ?_;rintro e w5 ⟨rfl,gu,iL⟩;clear q0 q1 q2 q3 q4 q5 z0 z1 i0 i1 i2 i3 z2;obtain⟨q0,q1,q2,q3,q4,q5,z0,z1⟩:=fG gu;obtain⟨i0,i1,i2,i3,z2⟩:=kg gu;go_wp2_with fail
        refine(fu _ 8 _ _ _ _ gu).mono ?_;rintro e w6 ⟨rfl,gQ,Bs⟩;clear q0 q1 q2 q3 q4 q5 z0 z1 i0 i1 i2 i3 z2;obtain⟨q0,q1,q2,q3,q4,q5,z0,z1⟩:=fG gQ;obtain⟨i0,i1,i2,i3,z2⟩:=kg gQ;go_wp2_with fail
        refine(fu _ 15 _ _ _ _ gQ).mono ?_;rintro e w7 ⟨rfl,gZ,zJ⟩;go_wp2;go_roundw
        case rel=>
         refine⟨1,_,x.key,by omega,rfl,nM.af.trans (nz.trans (KJ.trans (iL.trans (Bs.trans zJ)))),pD gZ,hbk,IU,hQ (Bq ?_ ?_ ?_ ?_ HE.af)⟩
         · have hn':=hn.af
           rw [aL];unfold kB;rw [if_neg (by omega)];simp [-List.length_eq_zero_iff];try omega
         · rw [aL];simp [kC];try omega
         · have hz':=hz.af
           unfold jB;rw [if_neg (by decide)];first | (rw [if_neg (by omega)];rfl) | (rw [if_pos (by omega),if_pos (by omega),aL];simp;try omega)
         · have hz':=hz.af
           unfold jX;rw [if_pos ⟨rfl,by omega⟩,aL];simp
        case measure=>simp [intOf];omega
    · have hk1:((k:Int) == 0)=false:=by rw [beq_eq_false_iff_ne];omega
      rcases rH with⟨hn,FO⟩ | ⟨hn,FO⟩
      all_goals
       rcases jg with⟨hz,hz1,Tn⟩ | ⟨hz,hz1,Tn⟩ | ⟨hz,hz1,Tn⟩
       rotate_left 2
       · skip
         go_wp2_with fail
         refine(fu f 7 _ _ _ _ HA.af).mono ?_;rintro e w4 ⟨rfl,fp,nz⟩;obtain⟨q0,q1,q2,q3,q4,q5,z0,z1⟩:=fG fp;obtain⟨i0,i1,i2,i3,z2⟩:=kg fp;go_wp2_with fail
         refine(jV h h _ _ x.key prev hbk hab IU.af Wl.af _ fp.right.right.right.own fp.right.right.right.own).mono ?_;rintro e Zv ⟨rfl,rfl⟩;go_wp2_with fail
         refine(fu _ 11 _ _ _ _ fp).mono ?_;rintro e w8 ⟨rfl,gp,KJ⟩;clear q0 q1 q2 q3 q4 q5 z0 z1 i0 i1 i2 i3 z2;obtain⟨q0,q1,q2,q3,q4,q5,z0,z1⟩:=fG gp;obtain⟨i0,i1,i2,i3,z2⟩:=kg gp;go_wp2_with fail
         refine(fu _ 8 _ _ _ _ gp).mono ?_;rintro e w5 ⟨rfl,gu,iL⟩;clear q0 q1 q2 q3 q4 q5 z0 z1 i0 i1 i2 i3 z2;obtain⟨q0,q1,q2,q3,q4,q5,z0,z1⟩:=fG gu;obtain⟨i0,i1,i2,i3,z2⟩:=kg gu;go_wp2_with fail
         refine(fu _ 8 _ _ _ _ gu).mono ?_;rintro e w6 ⟨rfl,gQ,Bs⟩;clear q0 q1 q2 q3 q4 q5 z0 z1 i0 i1 i2 i3 z2;obtain⟨q0,q1,q2,q3,q4,q5,z0,z1⟩:=fG gQ;obtain⟨i0,i1,i2,i3,z2⟩:=kg gQ;go_wp2_with fail
         refine(mO _ _).mono ?_;rintro e w9 ⟨rfl,rfl⟩;go_wp2_with fail
         refine(fu _ 15 _ _ _ _ gQ).mono ?_;rintro e w7 ⟨rfl,gZ,zJ⟩;go_wp2;go_roundw
         case rel=>
          refine⟨k+1,_,x.key,by omega,congrArg (Value.int .i64) (by omega),nM.af.trans (nz.trans (KJ.trans (iL.trans (Bs.trans zJ)))),pD gZ,hbk,IU,hQ (Bq ?_ ?_ ?_ ?_ HE.af)⟩
          · have hn':=hn.af
            rw [aL];unfold kB;rw [if_neg (by omega)];simp [-List.length_eq_zero_iff];try omega
          · rw [aL];simp [kC];try omega
          · have hz':=hz.af
            exact wU hz' (by simp) (by simp [-List.length_eq_zero_iff];try omega)
          · have hz':=hz.af
            exact Br hz' (by simp)
         case measure=>simp [intOf];omega
       all_goals
        go_wp2_with fail
        refine(fu f 7 _ _ _ _ HA.af).mono ?_;rintro e w4 ⟨rfl,fp,nz⟩;obtain⟨q0,q1,q2,q3,q4,q5,z0,z1⟩:=fG fp;obtain⟨i0,i1,i2,i3,z2⟩:=kg fp;go_wp2_with fail
        refine(jV h h _ _ x.key prev hbk hab IU.af Wl.af _ fp.right.right.right.own fp.right.right.right.own).mono ?_;rintro e Zv ⟨rfl,rfl⟩;go_wp2_with fail
        refine(fu _ 11 _ _ _ _ fp).mono ?_;rintro e w8 ⟨rfl,gp,KJ⟩;clear q0 q1 q2 q3 q4 q5 z0 z1 i0 i1 i2 i3 z2;obtain⟨q0,q1,q2,q3,q4,q5,z0,z1⟩:=fG gp;obtain⟨i0,i1,i2,i3,z2⟩:=kg gp;go_wp2_with fail
        refine(fu _ 8 _ _ _ _ gp).mono ?_;rintro e w5 ⟨rfl,gu,iL⟩;clear q0 q1 q2 q3 q4 q5 z0 z1 i0 i1 i2 i3 z2;obtain⟨q0,q1,q2,q3,q4,q5,z0,z1⟩:=fG gu;obtain⟨i0,i1,i2,i3,z2⟩:=kg gu;go_wp2_with fail
        refine(fu _ 8 _ _ _ _ gu).mono ?_;rintro e w6 ⟨rfl,gQ,Bs⟩;clear q0 q1 q2 q3 q4 q5 z0 z1 i0 i1 i2 i3 z2;obtain⟨q0,q1,q2,q3,q4,q5,z0,z1⟩:=fG gQ;obtain⟨i0,i1,i2,i3,z2⟩:=kg gQ;go_wp2_with fail
        refine(fu _ 15 _ _ _ _ gQ).mono ?_;rintro e w7 ⟨rfl,gZ,zJ⟩;go_wp2;go_roundw
        case rel=>
         refine⟨k+1,_,x.key,by omega,congrArg (Value.int .i64) (by omega),nM.af.trans (nz.trans (KJ.trans (iL.trans (Bs.trans zJ)))),pD gZ,hbk,IU,hQ (Bq ?_ ?_ ?_ ?_ HE.af)⟩
         · have hn':=hn.af
           rw [aL];unfold kB;rw [if_neg (by omega)];simp [-List.length_eq_zero_iff];try omega
         · rw [aL];simp [kC];try omega
         · have hz':=hz.af
           unfold jB;rw [if_neg (by decide)];first | (rw [if_neg (by omega)];rfl) | (rw [if_pos (by omega),if_pos (by omega),aL];simp;try omega)
         · have hz':=hz.af
           unfold jX;rw [if_pos ⟨rfl,by omega⟩,aL];simp
        case measure=>simp [intOf];omega
  · have hkl:k=its.length:=by omega
    subst hkl;have lU:=heq.af;rw [bP] at lU;have HE:=hQ lU;clear heq lU;go_wp2_with fail
    refine(fu _ 15 true _ _ _ hs).mono ?_;rintro e w4 ⟨rfl,fp,nz⟩;obtain⟨Sc,_⟩:=fG fp;go_wp2;go_ret;refine⟨?_,fp.right.right,hst.trans nz⟩;rw [← HE.af];show _=Ending.returned (Value.int .i64 (gK (gK f 0) 0))
    rw [ot,ot];rfl
end Go.Proofs.YtiegeadmgpanoaaGreatDoor.D2
