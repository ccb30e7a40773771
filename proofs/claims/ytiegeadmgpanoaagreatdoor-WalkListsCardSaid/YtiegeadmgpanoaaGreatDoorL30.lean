/- The program's Load of any item's value over any vault; the conditions stand as hypotheses. -/
import Derived.Test.YtiegeadmgpanoaaGreatDoorL29
set_option maxRecDepth 100000
set_option maxHeartbeats 16000000
namespace Go.Proofs.YtiegeadmgpanoaaGreatDoor.D2
open ChangeShapes WideShapes ChangeAt RowKit Sl fB L3 Z3 E4 X6
structure Looks(s:eC)(look:Int→Option dR):Prop where
 none:∀n,look n=none→s.pool.count n=0
 some:∀n g,look n=some g→(1≤n∧n≤65536)∧s.pool.count n≠0∧s.on n=some g∧Fit g
theorem Ag {look:Int→Option dR}{N k:Nat}{out:List Int}{n:Int}(h:N≤out.length):iz look N k out n=(out,0):=by
 cases k with
 | zero=>rfl
 | succ k=>unfold iz;rw [if_pos h]
theorem sU {look:Int→Option dR}{N k:Nat}{out:List Int}{n:Int}(h:out.length<N)(hl:look n=none):iz look N (k+1) out n=([],15):=by
 unfold iz;rw [if_neg (by omega),hl]
theorem sV {look:Int→Option dR}{N k:Nat}{out:List Int}{n:Int}{g:dR}(h:out.length<N)(hl:look n=some g)(hk:g.kind≠3):iz look N (k+1) out n=([],15):=by
 unfold iz;rw [if_neg (by omega),hl];dsimp only;rw [if_pos hk]
theorem sW {look:Int→Option dR}{N k:Nat}{out:List Int}{n:Int}{g:dR}(h:out.length<N)(hl:look n=some g)(hk:g.kind=3)(hc:¬(g.data.length=min (N-out.length) 480∧((g.next=0)↔(N-out.length≤480)))):iz look N (k+1) out n=([],5):=by
 unfold iz;rw [if_neg (by omega),hl];dsimp only;rw [if_neg (by simpa using hk),if_neg hc]
theorem yn {look:Int→Option dR}{N k:Nat}{out:List Int}{n:Int}{g:dR}(h:out.length<N)(hl:look n=some g)(hk:g.kind=3)(hc:g.data.length=min (N-out.length) 480∧((g.next=0)↔(N-out.length≤480))):iz look N (k+1) out n=iz look N k (out++g.data) g.next:=by
 conv=>lhs;unfold iz
 rw [if_neg (by omega),hl];dsimp only;rw [if_neg (by simpa using hk),if_pos hc]
def OJ:Value→Nat
 | .slice _ n _=>n
 | _=>0
theorem Gc(v:Nat)(s:eC)(look:Int→Option dR)(hl:Looks s look)(kv vv:Value)(X0:we kv)(hvv:we vv)(c:Int)(N:Nat)(hN:32<N∧N≤3840)(F:Pr)(w:World)(hF:Sat ((dZ v s).star F) w):
 Calls Tryz.prog 50 #[.pointer (some ⟨v,0,none⟩),l6 kv vv c N] w fun e w'=>
  dN w w'∧∃o,e= .returned (.tuple #[o,.int .i64 (iz look N N [] c).2])∧Sat ((dM o (iz look N N [] c).1).star ((dZ v s).star F)) w':=by
 obtain⟨ak,mk,ck,rfl⟩:=X0;obtain⟨av,mv,cv,rfl⟩:=hvv;have h1:=hF.alloc (eG (.slice ak mk ck) (.slice av mv cv) c N);have h2:=xY 5 (.int .u8 0) N (by simp only [maxLen];omega) h1;rw [show (w.alloc (eG (.slice ak mk ck) (.slice av mv cv) c N)).heap.size=w.heap.size+1 by simp] at h2;obtain⟨i0,hi,hz0,hz1,jg⟩:=info_parts kY
 have hmk:∀wx:World,(Instr.makeSlice 42 (.int .i64 0) (.int .i64 (N:Int))).run Tryz.prog wx= .ok (.slice (some ⟨wx.heap.size,0,none⟩) 0 N) (wx.alloc (.cells (madeCells #[.int .u8 0] N) 5)):=by
  intro wx;have:=run_makeSlice (P:=Tryz.prog) wx 42 5 i0 (.int .u8 0) Tryz.underlying42 hi hz0 .i64 .i64 0 N (by omega) (by omega) (by rw [hz1];omega) (by rw [jg];omega) (by omega)
  rw [hz1,Int.toNat_natCast,cM] at this;exact this
 have H2:=hQ h2;obtain⟨R,hR⟩:∃R,R=iz look N N [] c:=⟨_,rfl⟩;rw [← hR];have HR:=hQ hR;clear h1 h2 hF hR;go_enter Tryz.func50,Tryz.ntmps50
 go_wp2
 go_loopw [6,7] (fun o n wr=> ∃(out:List Int) (c':Int) (k:Nat),n= .int .i64 c'∧dN w wr∧Hid (N-out.length≤k)∧Hid (out.length≤3840)∧Hid (iz look N k out c'=R)∧
  Sat ((dM o out).star ((Pr.pts w.heap.size (eG (.slice ak mk ck) (.slice av mv cv) c N)).star ((dZ v s).star F))) wr) (fun o _ _=>N-OJ o)
 case atStart=>exact⟨[],c,N,rfl,((dN.refl w).alloc _).alloc _,hQ (by simp),hQ (by simp),hQ HR.af.symm,H2.af⟩
 case round=>
  obtain⟨out,c',k,rfl,hst,hk,QP,hch,hinv⟩:=hrel;obtain⟨_,_,_,f3,_,zI⟩:=sR hinv.right;obtain⟨ao,co,eo,_,_⟩:=Row.read hinv;subst eo;rcases aB out.length N with hlt | hge
  · obtain⟨k,rfl⟩:∃k',k=k'+1:=⟨k-1,by have:=hk.af;omega⟩
    have X1:(out.length:Int)≤3840:=by have:=QP.af;omega
    have h4:=hinv.perm (B:=(dZ v s).star ((dM (.slice ao out.length co) out).star ((Pr.pts w.heap.size (eG (.slice ak mk ck) (.slice av mv cv) c N)).star F))) (by ac_rfl);cases hlk:look c' with
    | none=>
      have r7:=hQ (show R=([],15) from by rw [← hch.af];exact sU hlt hlk);clear hch;have C:=hQ (zE v s c' _ _ h4 (hl.none c' hlk));have H4:=hQ h4;clear hinv h4;go_wp2_with fail
      refine C.af.mono ?_;rintro e w3 ⟨rfl,ho⟩;have H5:=hQ (H4.af.only ho);have eR:=hQ ((hst.trans ho.st).alloc (dV 0 0 (.slice none 0 0) (.slice none 0 0) 0));have g3:=ho.cell f3;have X2:w.heap.size<w3.heap.size:=cY zI ho.st.size;clear H4 C f3 hst ho;go_wp2;go_ret2;refine⟨eR.af,.slice none 0 0,?_,?_⟩
      · rw [r7.af];rfl
      · rw [r7.af]
        have h6:=(H5.af.alloc (dV 0 0 (.slice none 0 0) (.slice none 0 0) 0)).right;have h7:Sat ((dZ v s).star F) _:=(h6.perm (B:=(dM (.slice ao out.length co) out).star ((Pr.pts w.heap.size (eG (.slice ak mk ck) (.slice av mv cv) c N)).star ((dZ v s).star F))) (by ac_rfl)).right.right;show Sat ((Row 5 1 (.slice none 0 0) 0 []).star _) _
        rw [Row.nil,Pr.fK];exact h7
    | some g=>
      obtain⟨hb,hc1,sQ,hfit⟩:=hl.some c' g hlk;have C:=hQ (Af v s c' hb g hfit _ _ h4 hc1 sQ);have yW:=hQ hfit;have qo:=hQ hlk;clear hinv h4 sQ hc1 hfit hlk;go_wp2_with fail
      refine C.af.mono ?_;rintro e w3 ⟨mP,pv,rfl,h',xQ,h5⟩;obtain⟨vi,vd,rfl,lk,hb0⟩:=xQ;obtain⟨ai,ci,rfl,_,_⟩:=fL lk;obtain⟨ad,cd,rfl⟩:=eB hb0;have h6:Sat ((dM (.slice ao out.length co) out).star ((Pr.pts w.heap.size (eG (.slice ak mk ck) (.slice av mv cv) c N)).star ((Pr.own h').star ((dZ v s).star F)))) w3:=h5.perm (by ac_rfl)
      have h7:=h6.alloc (dV g.kind g.level (.slice ai g.items.length ci) (.slice ad g.data.length cd) g.next)
      have h8:Sat ((dM (.slice ao out.length co) out).star ((Pr.pts w.heap.size (eG (.slice ak mk ck) (.slice av mv cv) c N)).star ((Pr.own h').star ((Pr.pts w3.heap.size (dV g.kind g.level (.slice ai g.items.length ci) (.slice ad g.data.length cd) g.next)).star ((dZ v s).star F))))) (w3.alloc (dV g.kind g.level (.slice ai g.items.length ci) (.slice ad g.data.length cd) g.next)):=h7.perm (by ac_rfl)
      obtain⟨_,_,_,g3,_,X2⟩:=sR h6.right;have De:=h8.right.right.own;have H8:=hQ h8;have vC:=hQ De;have Se:=hQ hb0;have eR:=hQ ((hst.trans mP).alloc (dV g.kind g.level (.slice ai g.items.length ci) (.slice ad g.data.length cd) g.next));clear h5 h6 h7 h8 De hb0 lk C hst mP f3 zI;by_cases kH:g.kind=3
      · by_cases o7:g.data.length=min (N-out.length) 480∧((g.next=0)↔(N-out.length≤480))
        · have r7:=hQ (show iz look N k (out++g.data) g.next=R from by rw [← hch.af];exact(yn hlt qo.af kH o7).symm)
          have hkn:(g.kind != 3)=false:=by rw [bne_eq_false_iff_eq];exact kH
          have hm:min ((N:Int)-(out.length:Int)) 480=(g.data.length:Int):=by have:=o7.1;omega
          have OL:=hQ (show 1≤g.data.length∧g.data.length≤480∧out.length+g.data.length≤N by have:=o7.1;omega);have hsub:((N:Int)-(out.length:Int)≤480)=(N-out.length≤480):=by apply propext;omega
          have TO:∃B:Bool,(g.next == 0)=B∧decide ((N:Int)-(out.length:Int)≤480)=B:=by
           by_cases hq:N-out.length≤480
           · exact⟨true,by rw [beq_iff_eq];exact o7.2.2 hq,by rw [decide_eq_true_eq];omega⟩
           · exact⟨false,by rw [beq_eq_false_iff_ne];exact fun h=>hq (o7.2.1 h),by rw [decide_eq_false_iff_not];omega⟩
          obtain⟨B,hnb,ZY⟩:=TO;have HN:=hQ (show ∀u∈g.data.map (Value.int .u8),u.oneCell'=true by simp [Value.oneCell']);have KI:=OL.af.2.1;have Tj:out.length≤3840:=QP.af;have Sk:=hQ kH;have TP:=hQ hlt;clear o7 hch hsub kH;cases B
          all_goals
           go_wp2_with (
            at_builtin
            refine gB rfl _ _ _ rfl 5 i0 (.int .u8 0) 1 1 Tryz.underlying42 hi hz0 hz1 jg rfl _ _ _ rfl H8.af h' vC.af _ _ _ rfl Se.af HN.af (by simp only [maxLen];omega) (by omega) ?_
            intro v' w1 hJ hgr _
            have g4:w1.cell? ⟨w3.heap.size,4,none⟩=some (.int .i64 g.next):=(lM (hJ.right.right.right)).2.2.2.2.1
            have ja:=hQ hJ
            clear hJ)
           all_goals
            refine⟨⟨out++g.data,g.next,k,rfl,eR.af.eH hgr,hQ ?_,hQ ?_,r7,?_⟩,?_⟩
            · have:=hk.af;have:=OL.af;rw [au];omega
            · have:=OL.af;have:=TP.af;rw [au];omega
            · have h9:=ja.af
              rw [← aI, ← au] at h9;change Sat ((dM v' (out++g.data)).star _) _ at h9
              have h10:Sat ((Pr.own h').star ((Pr.pts w3.heap.size (dV g.kind g.level (.slice ai g.items.length ci) (.slice ad g.data.length cd) g.next)).star ((dM v' (out++g.data)).star ((Pr.pts w.heap.size (eG (.slice ak mk ck) (.slice av mv cv) c N)).star ((dZ v s).star F))))) w1:=Sat.perm h9 (by ac_rfl);exact h10.right.right
            · obtain⟨a3,c3,e3,_,_⟩:=Row.read ja.af
              subst e3;have:=OL.af
              have:=TP.af
              simp only [OJ];omega
        · have hkn:(g.kind != 3)=false:=by rw [bne_eq_false_iff_eq];exact kH
          obtain⟨M,hM⟩:∃M:Nat,M=min (N-out.length) 480:=⟨_,rfl⟩;have hm:min ((N:Int)-(out.length:Int)) 480=(M:Int):=by omega
          have HM:=hQ hM;have KI:g.data.length≤480:=yW.af.d;have Tj:out.length≤3840:=QP.af;have r7:=hQ (show R=([],5) from by rw [← hch.af];exact sW hlt qo.af kH o7);have F5:=hQ o7;clear hch o7 kH hM
          have fin:∀w',Sat ((dZ v s).star F) w'→Sat ((dM (.slice none 0 0) R.1).star ((dZ v s).star F)) w':=by
           intro w' h;rw [r7.af];show Sat ((Row 5 1 (.slice none 0 0) 0 []).star _) _
           rw [Row.nil,Pr.fK];exact h
          have IG:=hQ (show R.2=5 by rw [r7.af]);by_cases hD:g.data.length=min (N-out.length) 480
          · have hm2:min ((N:Int)-(out.length:Int)) 480=(g.data.length:Int):=by have:=HM.af;omega
            clear hm
            have TO:∃B:Bool,(g.next == 0)=B∧decide ((N:Int)-(out.length:Int)≤480)= !B:=by
             have h3:¬((g.next=0)↔(N-out.length≤480)):=fun h=>F5.af ⟨hD,h⟩
             by_cases hq:g.next=0
             · exact⟨true,by rw [beq_iff_eq];exact hq,by rw [Bool.not_true,decide_eq_false_iff_not];intro h;exact h3 ⟨fun _=>by omega,fun _=>hq⟩⟩
             · exact⟨false,by rw [beq_eq_false_iff_ne];exact hq,by rw [Bool.not_false,decide_eq_true_eq];exact Classical.byContradiction fun h=>h3 ⟨fun h2=>absurd h2 hq,fun h2=>absurd (by omega) h⟩⟩
            obtain⟨B,hnb,ZY⟩:=TO;have HD:=hQ hD;clear hD;cases B
            all_goals
             simp only [Bool.not_true,Bool.not_false] at ZY;go_wp2
             all_goals
              go_ret2;exact⟨eR.af,.slice none 0 0,(by rw [IG.af];rfl),fin _ H8.af.right.right.right.right⟩
          · have ZZ:¬g.data.length=M:=by have:=HM.af;omega
            have HD:=hQ hD;clear hD;go_wp2
            all_goals
             go_ret2;exact⟨eR.af,.slice none 0 0,(by rw [IG.af];rfl),fin _ H8.af.right.right.right.right⟩
      · have hkn:(g.kind != 3)=true:=by rw [bne_iff_ne];exact kH
        have r7:=hQ (show R=([],15) from by rw [← hch.af];exact sV hlt qo.af kH);clear hch;go_wp2;go_ret2;refine⟨eR.af,.slice none 0 0,?_,?_⟩
        · rw [r7.af];rfl
        · rw [r7.af]
          show Sat ((Row 5 1 (.slice none 0 0) 0 []).star _) _
          rw [Row.nil,Pr.fK];exact H8.af.right.right.right.right
  · have r7:=hQ (show R=(out,0) from by rw [← hch.af];exact Ag hge)
    have yQ:=hQ hinv;have X3:¬((out.length:Int)<(N:Int)):=by omega
    clear hch hinv;go_wp2;go_ret2;refine⟨hst,.slice ao out.length co,?_,?_⟩
    · rw [r7.af];rfl
    · rw [r7.af]
      exact(yQ.af.perm (Pr.eD _ _ _)).right
end Go.Proofs.YtiegeadmgpanoaaGreatDoor.D2
namespace Go.Proofs.YtiegeadmgpanoaaGreatDoor.D2
open ChangeShapes WideShapes ChangeAt RowKit Sl fB Z3 E4
theorem Jy(v:Nat)(x:en)(ak av:Option Addr)(ck cv:Nat)(hb:x.size<0∨3840<x.size∨(x.size≤32∧(x.value.length:Int)≠x.size))(w:World):
 Calls Tryz.prog 50 #[.pointer (some ⟨v,0,none⟩),l6 (.slice ak x.key.length ck) (.slice av x.value.length cv) x.child x.size] w fun e w'=>e= .returned (.tuple #[.slice none 0 0,.int .i64 8])∧eV w w':=by
 by_cases h1:x.size<0
 · go_enter Tryz.func50,Tryz.ntmps50
   go_wp2;go_ret2;exact⟨rfl,(eV.refl w).alloc _⟩
 · by_cases h2:3840<x.size
   · go_enter Tryz.func50,Tryz.ntmps50
     go_wp2;go_ret2;exact⟨rfl,(eV.refl w).alloc _⟩
   · have h3:x.size≤32:=by omega
     have h4:((x.value.length:Int) != x.size)=true:=by rw [bne_iff_ne];omega
     go_enter Tryz.func50,Tryz.ntmps50
     go_wp2
     all_goals
      go_ret2;exact⟨rfl,(eV.refl w).alloc _⟩
theorem DG(v:Nat)(x:en)(ak av:Option Addr)(ck cv:Nat)(h:Hp)(hv:Bytes h (.slice av x.value.length cv) x.value)(hs:0≤x.size∧x.size≤32∧(x.value.length:Int)=x.size)(F:Pr)(w:World)(hF:Sat ((Pr.own h).star F) w):
 Calls Tryz.prog 50 #[.pointer (some ⟨v,0,none⟩),l6 (.slice ak x.key.length ck) (.slice av x.value.length cv) x.child x.size] w fun e w'=>
  dN w w'∧∃o,e= .returned (.tuple #[o,.int .i64 0])∧Sat ((dM o x.value).star ((Pr.own h).star F)) w':=by
 obtain⟨h1,h2,h3⟩:=hs;have h0:=hF.alloc (eG (.slice ak x.key.length ck) (.slice av x.value.length cv) x.child x.size);have C:=hQ (xm h _ x.value _ _ h0 h0.right.own hv (by omega));have hne:((x.value.length:Int) != x.size)=false:=by rw [bne_eq_false_iff_eq];exact h3
 have eR:=hQ ((dN.refl w).alloc (eG (.slice ak x.key.length ck) (.slice av x.value.length cv) x.child x.size));have H3:=hQ h3;have h4:¬3840<x.size:=by omega
 have h5:¬x.size<0:=by omega
 clear hF h0 hv h3 h1;go_enter Tryz.func50,Tryz.ntmps50
 go_wp2_with fail
 refine C.af.mono ?_;rintro e w1 ⟨o,rfl,hs1,fN⟩;have S1:=hQ hs1;obtain⟨ao,co,rfl,_,_⟩:=Row.read hs1;clear hs1;go_wp2;go_ret2;exact⟨eR.af.trans fN,_,rfl,(S1.af.perm (Pr.eD _ _ _)).right⟩
theorem Ah(v:Nat)(s:eC)(look:Int→Option dR)(hl:Looks s look)(x:en)(h:Hp)(iv:Value)(hi:nD h iv x)(F:Pr)(w:World)(hF:Sat ((dZ v s).star ((Pr.own h).star F)) w):
 Calls Tryz.prog 50 #[.pointer (some ⟨v,0,none⟩),iv] w fun e w'=>
  dN w w'∧∃o,e= .returned (.tuple #[o,.int .i64 (iI look x.size x.child x.value).2])∧Sat ((dM o (iI look x.size x.child x.value).1).star ((dZ v s).star ((Pr.own h).star F))) w':=by
 obtain⟨kv,vv,rfl,hk,hvv⟩:=hi;obtain⟨ak,ck,rfl⟩:=eB hk;obtain⟨av,cv,rfl⟩:=eB hvv;unfold iI;by_cases hb:x.size<0∨3840<x.size∨(x.size≤32∧(x.value.length:Int)≠x.size)
 · rw [if_pos hb]
   refine(Jy v x ak av ck cv hb w).mono ?_;rintro e w' ⟨rfl,ho⟩;refine⟨ho.st,_,rfl,?_⟩;show Sat ((Row 5 1 (.slice none 0 0) 0 []).star _) _
   rw [Row.nil,Pr.fK];exact hF.only ho
 · rw [if_neg hb]
   by_cases Hj:x.size≤32
   · rw [if_pos Hj]
     refine(DG v x ak av ck cv h hvv (by omega) _ w (hF.perm (Pr.eD _ _ _))).mono ?_;rintro e w' ⟨st,o,rfl,h1⟩;exact⟨st,o,rfl,h1.perm (by ac_rfl)⟩
   · rw [if_neg Hj]
     have e1:x.size=((x.size.toNat:Nat):Int):=by omega
     have:=Gc v s look hl (.slice ak x.key.length ck) (.slice av x.value.length cv) ⟨_,_,_,rfl⟩ ⟨_,_,_,rfl⟩ x.child x.size.toNat (by omega) _ w hF
     rw [← e1] at this;exact this
end Go.Proofs.YtiegeadmgpanoaaGreatDoor.D2
namespace Go.Proofs.YtiegeadmgpanoaaGreatDoor.D2
open ChangeShapes WideShapes ChangeAt RowKit Sl fB L3 Z3 E4 X6
structure kT(s:ef)(gs:List dR)(look:Int→Option dR):Prop where
 none:∀n,look n=none→s.count n=0
 some:∀n g,look n=some g→s.count n≠0∧BF gs n=g∧Fit g
end Go.Proofs.YtiegeadmgpanoaaGreatDoor.D2
namespace Go.Proofs.YtiegeadmgpanoaaGreatDoor.D2
open ChangeShapes WideShapes ChangeAt RowKit Sl fB Z3 E4 X6
theorem Gd(v:Nat)(x:en)(ak av:Option Addr)(ck cv:Nat)(hb:x.size<0∨3840<x.size∨(x.size≤32∧(x.value.length:Int)≠x.size))(w:World):
 Calls Tryz.prog 91 #[.pointer (some ⟨v,0,none⟩),l6 (.slice ak x.key.length ck) (.slice av x.value.length cv) x.child x.size] w fun e w'=>e= .returned (.tuple #[.slice none 0 0,.int .i64 8])∧eV w w':=by
 by_cases h1:x.size<0
 · go_enter Tryz.func91,Tryz.ntmps91
   go_wp2;go_ret2;exact⟨rfl,(eV.refl w).alloc _⟩
 · by_cases h2:3840<x.size
   · go_enter Tryz.func91,Tryz.ntmps91
     go_wp2;go_ret2;exact⟨rfl,(eV.refl w).alloc _⟩
   · have h3:x.size≤32:=by omega
     have h4:((x.value.length:Int) != x.size)=true:=by rw [bne_iff_ne];omega
     go_enter Tryz.func91,Tryz.ntmps91
     go_wp2
     all_goals
      go_ret2;exact⟨rfl,(eV.refl w).alloc _⟩
theorem BH(v:Nat)(x:en)(ak av:Option Addr)(ck cv:Nat)(h:Hp)(hv:Bytes h (.slice av x.value.length cv) x.value)(hs:0≤x.size∧x.size≤32∧(x.value.length:Int)=x.size)(F:Pr)(w:World)(hF:Sat ((Pr.own h).star F) w):
 Calls Tryz.prog 91 #[.pointer (some ⟨v,0,none⟩),l6 (.slice ak x.key.length ck) (.slice av x.value.length cv) x.child x.size] w fun e w'=>
  dN w w'∧∃o,e= .returned (.tuple #[o,.int .i64 0])∧Sat ((dM o x.value).star ((Pr.own h).star F)) w':=by
 obtain⟨h1,h2,h3⟩:=hs;have h0:=hF.alloc (eG (.slice ak x.key.length ck) (.slice av x.value.length cv) x.child x.size);have C:=hQ (jf h _ x.value _ _ (h0.perm (Pr.eD _ _ _)) hv (by omega));have hne:((x.value.length:Int) != x.size)=false:=by rw [bne_eq_false_iff_eq];exact h3
 have eR:=hQ ((dN.refl w).alloc (eG (.slice ak x.key.length ck) (.slice av x.value.length cv) x.child x.size));have H3:=hQ h3;have h4:¬3840<x.size:=by omega
 have h5:¬x.size<0:=by omega
 clear hF h0 hv h3 h1;go_enter Tryz.func91,Tryz.ntmps91
 go_wp2_with fail
 refine C.af.mono ?_;rintro e w1 ⟨o,rfl,hs1,fN⟩;have S1:=hQ hs1;obtain⟨ao,co,rfl,_,_⟩:=Row.read hs1;clear hs1;go_wp2;go_ret2;exact⟨eR.af.trans fN,_,rfl,(S1.af.perm (B:=(Pr.pts w.heap.size (eG (.slice ak x.key.length ck) (.slice av x.value.length cv) x.child x.size)).star ((dM (.slice ao x.value.length co) x.value).star ((Pr.own h).star F))) (by ac_rfl)).right⟩
end Go.Proofs.YtiegeadmgpanoaaGreatDoor.D2
namespace Go.Proofs.YtiegeadmgpanoaaGreatDoor.D2
open ChangeShapes WideShapes ChangeAt RowKit Sl fB L3 Z3 E4 X6
theorem OM(r:Nat)(s:ef)(gs:List dR)(hush:iJ)(x:RX)(ok:yk s gs x)(n:Int)(F:Pr)(w:World)(h:Sat ((eE r s gs hush x).star F) w)(h0:s.count n≠0):
 Calls Tryz.prog 46 #[.pointer (some ⟨r,0,none⟩),.int .i64 n] w fun e w'=>
  dN w w'∧∃pv,e= .returned (.tuple #[pv,.int .i64 0])∧∃h',fV h' pv (BF gs n)∧Sat ((Pr.own h').star ((eE r s gs hush x).star F)) w':=by
 have ht:s.there n:=by
  by_cases ht:s.there n
  · exact ht
  · exact absurd (by unfold ef.count;rw [if_neg ht]) h0
 have hF:=iw.2 ⟨x,ok,h⟩;have ho:eV w (w.alloc (dV 0 0 (.slice none 0 0) (.slice none 0 0) 0)):=(eV.refl w).alloc _
 have hpos:decide (0<s.count n)=true:=by
  rw [decide_eq_true_eq];obtain⟨j,rfl,hj⟩:=ly ht;rw [pH hj] at h0 ⊢;have:=ok.c0 s.counts[j] (aE hj)
  simp [hj] at h0 ⊢
  omega
 have C:=hQ (mS r s gs hush n _ _ (hF.only ho));rw [hpos] at C;obtain⟨j,rfl,hj⟩:=ly ht;obtain⟨ac,cc,al,cl,ap,cp,⟨q1,q2,q3,_⟩,z,_,rd⟩:=sT ok h;obtain⟨_,_,b,g,vi,vd,rfl,hg,oK,c0,c1,c2,c3,c4⟩:=rd j hj;have zb:=ay _ _ c0;have rH:=ok.n2;have TM:g∈gs:=dG hg;have hfit:=ok.fit g TM
 have TN:BF gs ((j:Int)+1)=g:=by unfold BF;rw [show ((j:Int)+1).toNat-1=j by omega,az,hg];rfl
 rw [TN];obtain⟨_,_,qy,hit,hby⟩:=id oK;simp only [fX,Value.agg.injEq,Array.mk.injEq,List.cons.injEq,and_true,true_and] at qy;obtain⟨rfl,rfl⟩:=qy;obtain⟨a1,d1,rfl,_,_⟩:=fL hit;obtain⟨a2,d2,rfl⟩:=eB hby
 have h2:=(h.alloc (dV 0 0 (.slice none 0 0) (.slice none 0 0) 0)).perm (B:=(Pr.own x.h).star ((Pr.pts w.heap.size (dV 0 0 (.slice none 0 0) (.slice none 0 0) 0)).star ((Pr.pts r (mg s.refs x.cv x.lv x.pv hush)).star ((dX x.cv s.counts).star ((eK x.lv s.last).star ((kN x.pv x.xs gs).star F)))))) (by unfold eE;ac_rfl)
 have D:=hQ (qd x.h _ g oK (by have:=hfit.n;omega) (fun y hy=>by have:=fit_keys hfit y hy;omega) (by have:=hfit.d;omega) _ _ h2);have HO:=hQ ho;have OK:=hQ ok;clear rd h hF h2 hit hby oK ok ho ht h0 hpos hg TM hfit TN;go_enter Tryz.func46,Tryz.ntmps46
 go_wp2_with fail
 refine C.af.mono ?_;rintro e w1 ⟨rfl,rfl⟩;go_wp2_with fail
 refine D.af.mono ?_;rintro e w1 ⟨zF,h',rfl,hp',h3,hst⟩;obtain⟨pk,pl,ai,mi,ci,ad,md,cd,nx,rfl⟩:=ox hp';have h4:=h3.perm (B:=(Pr.pts w.heap.size (dV 0 0 (.slice none 0 0) (.slice none 0 0) 0)).star ((Pr.own h').star ((eE r s gs hush x).star F))) (by unfold eE;ac_rfl);obtain⟨f0,f1,f2,f3,f4,⟨z0,z1,z2,z3,z4⟩,zz⟩:=lM h4
 have s6:=((((h4.setCell (i:=0) (.int .i64 pk)).setCell (i:=1) (.int .i64 pl)).setCell (i:=2) (.slice ai mi ci)).setCell (i:=3) (.slice ad md cd)).setCell (i:=4) (.int .i64 nx);have s7:Sat ((Pr.pts w.heap.size (dV pk pl (.slice ai mi ci) (.slice ad md cd) nx)).star ((Pr.own h').star ((eE r s gs hush x).star F))) _:=s6;have S7:=hQ s7;have eR:=hQ (HO.af.st.trans hst);have HP:=hQ hp'
 clear h3 h4 s6 s7 hst hp' C D;go_wp2;refine bodyPost_ret (gd rfl _ _ w.heap.size _ rfl (run_loadVar_row _ w.heap.size _ _ _ _ _ S7.af.dL Tryz.underlying83 rfl jW)) rfl ?_;exact⟨((((eR.af.setCell _ _).setCell _ _).setCell _ _).setCell _ _).setCell _ _,_,rfl,h',HP.af,S7.af.right⟩
theorem yX(v:Nat)(s:ef)(gs:List dR)(hush:iJ)(x0:RX)(BJ:yk s gs x0)(look:Int→Option dR)(hl:kT s gs look)(kv vv:Value)(X0:we kv)(hvv:we vv)(c:Int)(N:Nat)(hN:32<N∧N≤3840)(F:Pr)(w:World)(hF:Sat ((eE v s gs hush x0).star F) w):
 Calls Tryz.prog 91 #[.pointer (some ⟨v,0,none⟩),l6 kv vv c N] w fun e w'=>
  dN w w'∧∃o,e= .returned (.tuple #[o,.int .i64 (iz look N N [] c).2])∧Sat ((dM o (iz look N N [] c).1).star ((eE v s gs hush x0).star F)) w':=by
 obtain⟨ak,mk,ck,rfl⟩:=X0;obtain⟨av,mv,cv,rfl⟩:=hvv;have h1:=hF.alloc (eG (.slice ak mk ck) (.slice av mv cv) c N)
 have h2:Sat ((Row 5 1 (.slice (some ⟨w.heap.size+1,0,none⟩) 0 0) 0 []).star ((Pr.pts w.heap.size (eG (.slice ak mk ck) (.slice av mv cv) c N)).star ((eE v s gs hush x0).star F))) ((w.alloc (eG (.slice ak mk ck) (.slice av mv cv) c N)).alloc (.cells #[] 5)):=by
  have h3:=h1.alloc (.cells #[] 5);rw [show (w.alloc (eG (.slice ak mk ck) (.slice av mv cv) c N)).heap.size=w.heap.size+1 by simp] at h3;exact Row.mk' (xs:= []) (sp:= []) (by simp) (by simp) (aD _) (by simp) (by simpa using h3)
 obtain⟨i0,hi,hz0,hz1,jg⟩:=info_parts kY;have H2:=hQ h2;obtain⟨R,hR⟩:∃R,R=iz look N N [] c:=⟨_,rfl⟩;rw [← hR];have HR:=hQ hR;clear h1 h2 hF hR;go_enter Tryz.func91,Tryz.ntmps91
 go_wp2
 go_loopw [6,7] (fun o n wr=> ∃(out:List Int) (c':Int) (k:Nat),n= .int .i64 c'∧dN w wr∧Hid (N-out.length≤k)∧Hid (out.length≤3840)∧Hid (iz look N k out c'=R)∧
  Sat ((dM o out).star ((Pr.pts w.heap.size (eG (.slice ak mk ck) (.slice av mv cv) c N)).star ((eE v s gs hush x0).star F))) wr) (fun o _ _=>N-OJ o)
 case atStart=>exact⟨[],c,N,rfl,((dN.refl w).alloc _).alloc _,hQ (by simp),hQ (by simp),hQ HR.af.symm,H2.af⟩
 case round=>
  obtain⟨out,c',k,rfl,hst,hk,QP,hch,hinv⟩:=hrel;obtain⟨_,_,_,f3,_,zI⟩:=sR hinv.right;obtain⟨ao,co,eo,_,_⟩:=Row.read hinv;subst eo;rcases aB out.length N with hlt | hge
  · obtain⟨k,rfl⟩:∃k',k=k'+1:=⟨k-1,by have:=hk.af;omega⟩
    have X1:(out.length:Int)≤3840:=by have:=QP.af;omega
    have h4:=hinv.perm (B:=(eE v s gs hush x0).star ((dM (.slice ao out.length co) out).star ((Pr.pts w.heap.size (eG (.slice ak mk ck) (.slice av mv cv) c N)).star F))) (by ac_rfl);cases hlk:look c' with
    | none=>
      have r7:=hQ (show R=([],15) from by rw [← hch.af];exact sU hlt hlk);clear hch;have C:=hQ (ym v s gs hush c' _ _ (iw.2 ⟨x0,BJ,h4⟩) (hl.none c' hlk));have H4:=hQ h4;clear hinv h4;go_wp2_with fail
      refine C.af.mono ?_;rintro e w3 ⟨rfl,ho⟩;have H5:=hQ (H4.af.only ho);have eR:=hQ ((hst.trans ho.st).alloc (dV 0 0 (.slice none 0 0) (.slice none 0 0) 0));have g3:=ho.cell f3;have X2:w.heap.size<w3.heap.size:=cY zI ho.st.size;clear H4 C f3 hst ho;go_wp2;go_ret2;refine⟨eR.af,.slice none 0 0,?_,?_⟩
      · rw [r7.af];rfl
      · rw [r7.af]
        have h6:=(H5.af.alloc (dV 0 0 (.slice none 0 0) (.slice none 0 0) 0)).right;have h7:Sat ((eE v s gs hush x0).star F) _:=(h6.perm (B:=(dM (.slice ao out.length co) out).star ((Pr.pts w.heap.size (eG (.slice ak mk ck) (.slice av mv cv) c N)).star ((eE v s gs hush x0).star F))) (by ac_rfl)).right.right;show Sat ((Row 5 1 (.slice none 0 0) 0 []).star _) _
        rw [Row.nil,Pr.fK];exact h7
    | some g=>
      obtain⟨hc1,sQ,hfit⟩:=hl.some c' g hlk;have C:=hQ (OM v s gs hush x0 BJ c' _ _ h4 hc1);rw [sQ] at C;have yW:=hQ hfit;have qo:=hQ hlk;clear hinv h4 sQ hc1 hfit hlk;go_wp2_with fail
      refine C.af.mono ?_;rintro e w3 ⟨mP,pv,rfl,h',xQ,h5⟩;obtain⟨vi,vd,rfl,lk,hb0⟩:=xQ;obtain⟨ai,ci,rfl,_,_⟩:=fL lk;obtain⟨ad,cd,rfl⟩:=eB hb0;have h6:Sat ((dM (.slice ao out.length co) out).star ((Pr.pts w.heap.size (eG (.slice ak mk ck) (.slice av mv cv) c N)).star ((Pr.own h').star ((eE v s gs hush x0).star F)))) w3:=h5.perm (by ac_rfl)
      have h7:=h6.alloc (dV g.kind g.level (.slice ai g.items.length ci) (.slice ad g.data.length cd) g.next)
      have h8:Sat ((dM (.slice ao out.length co) out).star ((Pr.pts w.heap.size (eG (.slice ak mk ck) (.slice av mv cv) c N)).star ((Pr.own h').star ((Pr.pts w3.heap.size (dV g.kind g.level (.slice ai g.items.length ci) (.slice ad g.data.length cd) g.next)).star ((eE v s gs hush x0).star F))))) (w3.alloc (dV g.kind g.level (.slice ai g.items.length ci) (.slice ad g.data.length cd) g.next)):=h7.perm (by ac_rfl)
      obtain⟨_,_,_,g3,_,X2⟩:=sR h6.right;have De:=h8.right.right.own;have H8:=hQ h8;have vC:=hQ De;have Se:=hQ hb0;have eR:=hQ ((hst.trans mP).alloc (dV g.kind g.level (.slice ai g.items.length ci) (.slice ad g.data.length cd) g.next));clear h5 h6 h7 h8 De hb0 lk C hst mP f3 zI;by_cases kH:g.kind=3
      · by_cases o7:g.data.length=min (N-out.length) 480∧((g.next=0)↔(N-out.length≤480))
        · have r7:=hQ (show iz look N k (out++g.data) g.next=R from by rw [← hch.af];exact(yn hlt qo.af kH o7).symm)
          have hkn:(g.kind != 3)=false:=by rw [bne_eq_false_iff_eq];exact kH
          have OL:=hQ (show 1≤g.data.length∧g.data.length≤480∧out.length+g.data.length≤N by have:=o7.1;omega)
          have TO:(Hid (N-out.length≤480)∧(N:Int)-(out.length:Int)=(g.data.length:Int)∧(g.next == 0)=true∧((out.length:Int)+(g.data.length:Int) == (N:Int))=true)∨((480:Int)<(N:Int)-(out.length:Int)∧((g.data.length:Int) != 480)=false∧(g.next == 0)=false∧((out.length:Int)+480 == (N:Int))=false):=by
           by_cases hq:N-out.length≤480
           · exact .inl ⟨hQ hq,by have:=o7.1;omega,by rw [beq_iff_eq];exact o7.2.2 hq,by rw [beq_iff_eq];have:=o7.1;omega⟩
           · exact .inr ⟨by omega,by rw [bne_eq_false_iff_eq];have:=o7.1;omega,by rw [beq_eq_false_iff_ne];exact fun h=>hq (o7.2.1 h),by rw [beq_eq_false_iff_ne];omega⟩
          have HN:=hQ (show ∀u∈g.data.map (Value.int .u8),u.oneCell'=true by simp [Value.oneCell']);have KI:=OL.af.2.1;have Tj:out.length≤3840:=QP.af;have Sk:=hQ kH;have TP:=hQ hlt;clear o7 hch kH;rcases TO with⟨_,Kd,hw2,X4⟩ | ⟨Kd,hw4,hw2,X4⟩
          all_goals
           go_wp2_with (
            at_builtin
            refine gB rfl _ _ _ rfl 5 i0 (.int .u8 0) 1 1 Tryz.underlying42 hi hz0 hz1 jg rfl _ _ _ rfl H8.af h' vC.af _ _ _ rfl Se.af HN.af (by simp only [maxLen];omega) (by omega) ?_
            intro v' w1 hJ hgr _
            have g4:w1.cell? ⟨w3.heap.size,4,none⟩=some (.int .i64 g.next):=(lM (hJ.right.right.right)).2.2.2.2.1
            have ja:=hQ hJ
            clear hJ)
           all_goals
            refine⟨⟨out++g.data,g.next,k,rfl,eR.af.eH hgr,hQ ?_,hQ ?_,r7,?_⟩,?_⟩
            · have:=hk.af;have:=OL.af;rw [au];omega
            · have:=OL.af;have:=TP.af;rw [au];omega
            · have h9:=ja.af
              rw [← aI, ← au] at h9;change Sat ((dM v' (out++g.data)).star _) _ at h9
              have h10:Sat ((Pr.own h').star ((Pr.pts w3.heap.size (dV g.kind g.level (.slice ai g.items.length ci) (.slice ad g.data.length cd) g.next)).star ((dM v' (out++g.data)).star ((Pr.pts w.heap.size (eG (.slice ak mk ck) (.slice av mv cv) c N)).star ((eE v s gs hush x0).star F))))) w1:=Sat.perm h9 (by ac_rfl);exact h10.right.right
            · obtain⟨a3,c3,e3,_,_⟩:=Row.read ja.af
              subst e3;have:=OL.af
              have:=TP.af
              simp only [OJ];omega
        · have hkn:(g.kind != 3)=false:=by rw [bne_eq_false_iff_eq];exact kH
          have KI:g.data.length≤480:=yW.af.d;have Tj:out.length≤3840:=QP.af;have r7:=hQ (show R=([],5) from by rw [← hch.af];exact sW hlt qo.af kH o7);have F5:=hQ o7;clear hch o7 kH
          have fin:∀w',Sat ((eE v s gs hush x0).star F) w'→Sat ((dM (.slice none 0 0) R.1).star ((eE v s gs hush x0).star F)) w':=by
           intro w' h;rw [r7.af];show Sat ((Row 5 1 (.slice none 0 0) 0 []).star _) _
           rw [Row.nil,Pr.fK];exact h
          have IG:=hQ (show R.2=5 by rw [r7.af]);have Z1:=hQ (show g.data.length=min (N-out.length) 480→¬((g.next=0)↔(N-out.length≤480)) from fun h1 h2=>F5.af ⟨h1,h2⟩);by_cases hq:N-out.length≤480
          · by_cases hD:g.data.length=N-out.length
            · have Kd:(N:Int)-(out.length:Int)=(g.data.length:Int):=by omega
              have hw2:(g.next == 0)=false:=by rw [beq_eq_false_iff_ne];exact fun h=>Z1.af (by omega) ⟨fun _=>hq,fun _=>h⟩
              have X4:((out.length:Int)+(g.data.length:Int) == (N:Int))=true:=by rw [beq_iff_eq];omega
              have HD:=hQ hD;clear hD hq;go_wp2
              all_goals
               go_ret2;exact⟨eR.af,.slice none 0 0,(by rw [IG.af];rfl),fin _ H8.af.right.right.right.right⟩
            · have ZZ:((g.data.length:Int) != (N:Int)-(out.length:Int))=true:=by rw [bne_iff_ne];omega
              have Sz:(N:Int)-(out.length:Int)≤480:=by omega
              have HD:=hQ hD;clear hD hq;go_wp2
              all_goals
               go_ret2;exact⟨eR.af,.slice none 0 0,(by rw [IG.af];rfl),fin _ H8.af.right.right.right.right⟩
          · have Sz:(480:Int)<(N:Int)-(out.length:Int):=by omega
            by_cases hD:g.data.length=480
            · have hw4:((g.data.length:Int) != 480)=false:=by rw [bne_eq_false_iff_eq];omega
              have hw2:(g.next == 0)=true:=by
               rw [beq_iff_eq];exact Decidable.byContradiction fun h=>Z1.af (by omega) ⟨fun h2=>absurd h2 h,fun h2=>absurd h2 hq⟩
              have X4:((out.length:Int)+480 == (N:Int))=false:=by rw [beq_eq_false_iff_ne];omega
              have HD:=hQ hD;clear hD hq;go_wp2
              all_goals
               go_ret2;exact⟨eR.af,.slice none 0 0,(by rw [IG.af];rfl),fin _ H8.af.right.right.right.right⟩
            · have ZZ:((g.data.length:Int) != 480)=true:=by rw [bne_iff_ne];omega
              have HD:=hQ hD;clear hD hq;go_wp2
              all_goals
               go_ret2;exact⟨eR.af,.slice none 0 0,(by rw [IG.af];rfl),fin _ H8.af.right.right.right.right⟩
      · have hkn:(g.kind != 3)=true:=by rw [bne_iff_ne];exact kH
        have r7:=hQ (show R=([],15) from by rw [← hch.af];exact sV hlt qo.af kH);clear hch;go_wp2;go_ret2;refine⟨eR.af,.slice none 0 0,?_,?_⟩
        · rw [r7.af];rfl
        · rw [r7.af]
          show Sat ((Row 5 1 (.slice none 0 0) 0 []).star _) _
          rw [Row.nil,Pr.fK];exact H8.af.right.right.right.right
  · have r7:=hQ (show R=(out,0) from by rw [← hch.af];exact Ag hge)
    have yQ:=hQ hinv;have X3:¬((out.length:Int)<(N:Int)):=by omega
    clear hch hinv;go_wp2;go_ret2;refine⟨hst,.slice ao out.length co,?_,?_⟩
    · rw [r7.af];rfl
    · rw [r7.af]
      exact(yQ.af.perm (Pr.eD _ _ _)).right
theorem Jz(v:Nat)(s:ef)(gs:List dR)(hush:iJ)(x0:RX)(BJ:yk s gs x0)(look:Int→Option dR)(hl:kT s gs look)(x:en)(iv:Value)(hi:nD x0.h iv x)(F:Pr)(w:World)(hF:Sat ((eE v s gs hush x0).star F) w):
 Calls Tryz.prog 91 #[.pointer (some ⟨v,0,none⟩),iv] w fun e w'=>
  dN w w'∧∃o,e= .returned (.tuple #[o,.int .i64 (iI look x.size x.child x.value).2])∧Sat ((dM o (iI look x.size x.child x.value).1).star ((eE v s gs hush x0).star F)) w':=by
 obtain⟨kv,vv,rfl,hk,hvv⟩:=hi;obtain⟨ak,ck,rfl⟩:=eB hk;obtain⟨av,cv,rfl⟩:=eB hvv;unfold iI;by_cases hb:x.size<0∨3840<x.size∨(x.size≤32∧(x.value.length:Int)≠x.size)
 · rw [if_pos hb]
   refine(Gd v x ak av ck cv hb w).mono ?_;rintro e w' ⟨rfl,ho⟩;refine⟨ho.st,_,rfl,?_⟩;show Sat ((Row 5 1 (.slice none 0 0) 0 []).star _) _
   rw [Row.nil,Pr.fK];exact hF.only ho
 · rw [if_neg hb]
   by_cases Hj:x.size≤32
   · rw [if_pos Hj]
     have h1:Sat ((Pr.own x0.h).star ((Pr.pts v (mg s.refs x0.cv x0.lv x0.pv hush)).star ((dX x0.cv s.counts).star ((eK x0.lv s.last).star ((kN x0.pv x0.xs gs).star F))))) w:=hF.perm (by unfold eE;ac_rfl);refine(BH v x ak av ck cv x0.h hvv (by omega) _ w h1).mono ?_;rintro e w' ⟨st,o,rfl,h1⟩;exact⟨st,o,rfl,h1.perm (by unfold eE;ac_rfl)⟩
   · rw [if_neg Hj]
     have e1:x.size=((x.size.toNat:Nat):Int):=by omega
     have:=yX v s gs hush x0 BJ look hl (.slice ak x.key.length ck) (.slice av x.value.length cv) ⟨_,_,_,rfl⟩ ⟨_,_,_,rfl⟩ x.child x.size.toNat (by omega) _ w hF
     rw [← e1] at this;exact this
end Go.Proofs.YtiegeadmgpanoaaGreatDoor.D2
