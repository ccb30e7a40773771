/- blob.Load at a value that stands on pages; the conditions stand as hypotheses. -/
import Derived.Test.YtiegeadmgpanoaaGreatDoorL14
import Derived.Lib.SmallJoins
set_option maxRecDepth 100000
set_option maxHeartbeats 16000000
namespace Go.Proofs.YtiegeadmgpanoaaGreatDoor.D2
open ChangeShapes WideShapes ChangeAt RowKit Sl fB L3 Z3
theorem xY {F:Pr}{w:World}(T:Nat)(z:Value)(n:Nat)(hn:n≤maxLen)(h:Sat F w):
 Sat ((Row T 1 (.slice (some ⟨w.heap.size,0,none⟩) 0 n) 0 []).star F) (w.alloc (.cells (madeCells #[z] n) T)):=by
 have h1:=h.alloc (.cells (madeCells #[z] n) T);refine Row.mk' (xs:= []) (sp:=List.replicate n z) (by simp) (by simp) (aG _) hn ?_;rw [List.nil_append, ← tL];exact h1
theorem IX(v:Nat)(s:eC)(ak:Option Addr)(mk ck:Nat)(c:Int)(V:List Int)(ns:List Int)(hch:mE s V (chunks V) 0 c ns)(hv:32<V.length∧V.length≤3840)(F:Pr)(w:World)(hF:Sat ((dZ v s).star F) w):
 Calls Tryz.prog 50 #[.pointer (some ⟨v,0,none⟩),.agg #[.slice ak mk ck,.slice none 0 0,.int .i64 c,.int .i64 V.length]] w fun e w'=>
  dN w w'∧∃o,e= .returned (.tuple #[o,.int .i64 0])∧Sat ((dM o V).star ((dZ v s).star F)) w':=by
 have h1:=hF.alloc (.cells #[.slice ak mk ck,.slice none 0 0,.int .i64 c,.int .i64 V.length] 89);have es:(w.alloc (.cells #[.slice ak mk ck,.slice none 0 0,.int .i64 c,.int .i64 V.length] 89)).heap.size=w.heap.size+1:=by simp
 have h2:=xY 5 (.int .u8 0) V.length (by simp only [maxLen];omega) h1;rw [es] at h2;obtain⟨i0,hi,hz0,hz1,jg⟩:=info_parts kY
 have hmk:∀wx:World,(Instr.makeSlice 42 (.int .i64 0) (.int .i64 (V.length:Int))).run Tryz.prog wx= .ok (.slice (some ⟨wx.heap.size,0,none⟩) 0 V.length) (wx.alloc (.cells (madeCells #[.int .u8 0] V.length) 5)):=by
  intro wx;have:=run_makeSlice (P:=Tryz.prog) wx 42 5 i0 (.int .u8 0) Tryz.underlying42 hi hz0 .i64 .i64 0 V.length (by omega) (by omega) (by rw [hz1];omega) (by rw [jg];omega) (by omega)
  rw [hz1,Int.toNat_natCast,cM] at this;exact this
 have hN:V.length≤480*chunks V∧480*chunks V<V.length+480:=by unfold chunks;omega
 have H2:=hQ h2;have r7:=hQ hch;clear h1 h2 hF es hch;go_enter Tryz.func50,Tryz.ntmps50
 go_wp2;go_loopw [6,7] (fun o n wr=> ∃(j:Nat) (c':Int) (Lc:List Int),j≤chunks V∧n= .int .i64 c'∧dN w wr∧mE s V (chunks V-j) j c' Lc∧Sat ((dM o (V.take (480*j))).star ((Pr.pts w.heap.size (.cells #[.slice ak mk ck,.slice none 0 0,.int .i64 c,.int .i64 V.length] 89)).star ((dZ v s).star F))) wr) (fun o _ _=>match o with | .slice _ n _=>V.length-n | _=>0)
 case atStart=>
  exact⟨0,c,ns,aG _,rfl,((dN.refl w).alloc _).alloc _,r7.af,H2.af⟩
 case round=>
  obtain⟨j,c',Lc,hj,rfl,hst,Lg,hinv⟩:=hrel;have f3:wr.cell? ⟨w.heap.size,3,none⟩=some (.int .i64 V.length):=by rw [cell_of_heap hinv.right.dL];rfl
  have hA:(V.take (480*j)).length=min (480*j) V.length:=aW;obtain⟨ao,co,eo,_,_⟩:=Row.read hinv;subst eo;rcases aB j (chunks V) with hlt | hge
  · obtain⟨k,hk⟩:∃k,chunks V-j=k+1:=⟨chunks V-j-1,by omega⟩
    rw [hk] at Lg;obtain⟨c2,Zw,rfl,hb,hc1,sQ,Od⟩:=Lg;have GZ:(V.take (480*j)).length=480*j:=by omega
    have hD:=IQ V j
    have hlast:(k=0∧c2=0∧V.length-480*j≤480)∨(1≤c2∧¬V.length-480*j≤480):=by
     cases k with
     | zero=>exact .inl ⟨rfl,Od.1,by omega⟩
     | succ k=>
       obtain⟨_,_,_,h3,_⟩:=Od;exact .inr ⟨h3.1,by omega⟩
    have h4:=hinv.perm (B:=(dZ v s).star ((dM (.slice ao (V.take (480*j)).length co) (V.take (480*j))).star ((Pr.pts w.heap.size (.cells #[.slice ak mk ck,.slice none 0 0,.int .i64 c,.int .i64 V.length] 89)).star F))) (by ac_rfl);have C:=hQ (IP v s c' hb (chunk V j) c2 (by omega) _ _ h4 (by omega) sQ);have Tg:=hQ Od;have Zx:480*j<V.length:=by omega
    have HT:=hQ (show V.take (480*(j+1))=V.take (480*j)++chunk V j by unfold chunk;rw [show 480*(j+1)=480*j+480 by omega,List.take_add]);have HK:=hQ hk;clear hinv h4 Od sQ hA hk;go_wp2_with fail
    refine C.af.mono ?_;rintro e w3 ⟨mP,pv,rfl,h',xQ,h5⟩;obtain⟨vi,vd,rfl,lk,hb0⟩:=xQ;obtain⟨ai,ci,rfl,_⟩:=oq lk;obtain⟨_,ad,cd,Xq,_,_,_⟩:=id hb0;subst Xq
    have h6:Sat ((dM (.slice ao (V.take (480*j)).length co) (V.take (480*j))).star ((Pr.pts w.heap.size (.cells #[.slice ak mk ck,.slice none 0 0,.int .i64 c,.int .i64 V.length] 89)).star ((Pr.own h').star ((dZ v s).star F)))) w3:=h5.perm (by ac_rfl);have h7:=h6.alloc (.cells #[.int .i64 3,.int .i64 0,.slice ai 0 ci,.slice ad (chunk V j).length cd,.int .i64 c2] 83)
    have h8b:Sat ((dM (.slice ao (V.take (480*j)).length co) (V.take (480*j))).star ((Pr.pts w.heap.size (.cells #[.slice ak mk ck,.slice none 0 0,.int .i64 c,.int .i64 V.length] 89)).star ((Pr.own h').star ((Pr.pts w3.heap.size (.cells #[.int .i64 3,.int .i64 0,.slice ai 0 ci,.slice ad (chunk V j).length cd,.int .i64 c2] 83)).star ((dZ v s).star F))))) _:=h7.perm (by ac_rfl)
    have h8:Sat ((Row 5 1 (.slice ao (V.take (480*j)).length co) (V.take (480*j)).length ((V.take (480*j)).map (Value.int .u8))).star ((Pr.pts w.heap.size (.cells #[.slice ak mk ck,.slice none 0 0,.int .i64 c,.int .i64 V.length] 89)).star ((Pr.own h').star ((Pr.pts w3.heap.size (.cells #[.int .i64 3,.int .i64 0,.slice ai 0 ci,.slice ad (chunk V j).length cd,.int .i64 c2] 83)).star ((dZ v s).star F))))) _:=h8b
    have g3:w3.cell? ⟨w.heap.size,3,none⟩=some (.int .i64 V.length):=by rw [cell_of_heap h6.right.dL];rfl
    have zI:=h6.right.lt;have De:=h8.right.right.own;have H8:=hQ h8;have vC:=hQ De;have Se:=hQ (show gj h' 1 (.slice ad (chunk V j).length cd) (chunk V j).length ((chunk V j).map (Value.int .u8)) from hb0);have eR:=hQ ((hst.trans mP).alloc (.cells #[.int .i64 3,.int .i64 0,.slice ai 0 ci,.slice ad (chunk V j).length cd,.int .i64 c2] 83));clear h5 h6 h7 h8 De hb0 lk C hst mP f3
    have hnews:∀u∈(chunk V j).map (Value.int .u8),u.oneCell'=true:=by simp [Value.oneCell']
    have HN:=hQ hnews;have Ti:=hQ (show (V.take (480*(j+1))).length=(V.take (480*j)).length+(chunk V j).length by rw [HT.af,au]);clear hnews;generalize (V.take (480*j)).length=A at*;generalize (chunk V j).length=D at*;rcases hlast with⟨qn,rfl,hla⟩ | ⟨o7,hla⟩
    · have hs:(V.length:Int)-(A:Int)=(D:Int):=by omega
      have hd1:1≤D∧D≤480:=by omega
      have Tj:A≤3840:=by omega
      have hAl:A<V.length:=by omega
      have HF:=hQ (And.intro GZ hD);clear GZ hD hla Zx hN;have hm:min (D:Int) 480=D:=by omega
      have zq:(D:Int)≤480:=by omega
      have hd3:decide ((D:Int)≤480)=true:=by simpa using zq
      go_wp2_with (at_builtin;refine gB rfl _ _ _ rfl 5 i0 (.int .u8 0) 1 1 Tryz.underlying42 hi hz0 hz1 jg rfl _ _ _ rfl H8.af h' vC.af _ _ _ rfl Se.af HN.af (by simp only [maxLen];omega) (by omega) ?_;intro v' w1 hJ hgr _;have g4:w1.cell? ⟨w3.heap.size,4,none⟩=some (.int .i64 0):=(by rw [cell_of_heap hJ.right.right.right.dL];rfl);have ja:=hQ hJ;clear hJ)
      go_roundw
      case rel=>
       have hk1:=HK.af;refine⟨j+1,0,Zw,by omega,rfl,eR.af.eH hgr,?_,?_⟩
       · rw [show chunks V-(j+1)=k by omega];exact Tg.af
       · have h9:=ja.af
         rw [← aI, ← HT.af, ← Ti.af] at h9;change Sat ((dM v' (V.take (480*(j+1)))).star _) _ at h9
         have h10:Sat ((Pr.pts w3.heap.size (.cells #[.int .i64 3,.int .i64 0,.slice ai 0 ci,.slice ad D cd,.int .i64 0] 83)).star ((Pr.own h').star ((dM v' (V.take (480*(j+1)))).star ((Pr.pts w.heap.size (.cells #[.slice ak mk ck,.slice none 0 0,.int .i64 c,.int .i64 V.length] 89)).star ((dZ v s).star F))))) _:=h9.perm (by ac_rfl);exact h10.right.right
      case measure=>
       obtain⟨a3,c3,e3,_,_⟩:=Row.read ja.af;subst e3;have hf:=HF.af;dsimp only;rw [aW];omega
    · have hd1:D=480:=by omega
      have hs:¬(V.length:Int)-(A:Int)≤480:=by omega
      have Tj:A≤3840:=by omega
      have hAl:A<V.length:=by omega
      have HF:=hQ (And.intro GZ hD);clear GZ hD hla Zx hN;subst hd1;have hm:min ((V.length:Int)-(A:Int)) 480=480:=by omega
      have hd3:decide ((V.length:Int)-(A:Int)≤480)=false:=by simpa using hs
      have hne:(c2 == 0)=false:=by rw [beq_eq_false_iff_ne];omega
      go_wp2_with (at_builtin;refine gB rfl _ _ _ rfl 5 i0 (.int .u8 0) 1 1 Tryz.underlying42 hi hz0 hz1 jg rfl _ _ _ rfl H8.af h' vC.af _ _ _ rfl Se.af HN.af (by simp only [maxLen];omega) (by omega) ?_;intro v' w1 hJ hgr _;have g4:w1.cell? ⟨w3.heap.size,4,none⟩=some (.int .i64 c2):=(by rw [cell_of_heap hJ.right.right.right.dL];rfl);have ja:=hQ hJ;clear hJ)
      go_roundw
      case rel=>
       have hk1:=HK.af;refine⟨j+1,c2,Zw,by omega,rfl,eR.af.eH hgr,?_,?_⟩
       · rw [show chunks V-(j+1)=k by omega];exact Tg.af
       · have h9:=ja.af
         rw [← aI, ← HT.af, ← Ti.af] at h9;change Sat ((dM v' (V.take (480*(j+1)))).star _) _ at h9
         have h10:Sat ((Pr.pts w3.heap.size (.cells #[.int .i64 3,.int .i64 0,.slice ai 0 ci,.slice ad 480 cd,.int .i64 c2] 83)).star ((Pr.own h').star ((dM v' (V.take (480*(j+1)))).star ((Pr.pts w.heap.size (.cells #[.slice ak mk ck,.slice none 0 0,.int .i64 c,.int .i64 V.length] 89)).star ((dZ v s).star F))))) _:=h9.perm (by ac_rfl);exact h10.right.right
      case measure=>
       obtain⟨a3,c3,e3,_,_⟩:=Row.read ja.af;subst e3;have hf:=HF.af;dsimp only;rw [aW];omega
  · have Xy:j=chunks V:=by omega
    subst Xy;have ht:V.take (480*chunks V)=V:=bS hN.1;rw [ht] at hinv;have yQ:=hQ hinv;have HL:=hQ (show (V.take (480*chunks V)).length=V.length by rw [ht]);clear hinv hA ht;generalize (V.take (480*chunks V)).length=A at*;have hAV:=HL.af;subst hAV;go_wp2;go_ret2
    have h9:Sat ((Pr.pts w.heap.size (.cells #[.slice ak mk ck,.slice none 0 0,.int .i64 c,.int .i64 V.length] 89)).star ((dM (.slice ao V.length co) V).star ((dZ v s).star F))) wr:=yQ.af.perm (Pr.eD _ _ _);exact⟨hst,_,rfl,h9.right⟩
end Go.Proofs.YtiegeadmgpanoaaGreatDoor.D2
namespace Go.Proofs.YtiegeadmgpanoaaGreatDoor.D2
open ChangeShapes WideShapes ChangeAt RowKit Sl fB L3 Z3
def Wm(n:Int):Int:=if n≤32 then 0 else(n-1) / 480+1
def Zy:List Int:=(List.replicate 500 0).set 499 7
end Go.Proofs.YtiegeadmgpanoaaGreatDoor.D2
namespace Go.Proofs.YtiegeadmgpanoaaGreatDoor.D2
open ChangeShapes WideShapes ChangeAt RowKit Sl
def ik(w:World):Hp:=fun k=>w.heap[k]?
theorem xZ(w:World):Sat (Pr.own (ik w)) w:=⟨ik w,rfl,fun _ _ e=>e⟩
theorem Df {w w':World}(h:Sat (Pr.own (ik w)) w'):∀k,k<w.heap.size→w'.heap[k]? =w.heap[k]? :=by
 obtain⟨x,rfl,hl⟩:=h;intro k hk;have e:ik w k=some w.heap[k]:=bO hk;rw [hl k _ e];exact e.symm
theorem Oe {w w':World}(hs:dN w w')(h:∀k,k<w.heap.size→w'.heap[k]? =w.heap[k]?)(may:MemPlace→Prop):w.keptBut w' may:=by
 refine⟨hs.os,hs.output,fun i hi=> ?_⟩;rw [h i hi];cases w.heap[i]? with
 | none=>rfl
 | some o=>cases o<;>simp
end Go.Proofs.YtiegeadmgpanoaaGreatDoor.D2
namespace Go.Proofs.YtiegeadmgpanoaaGreatDoor.D2
open ChangeShapes WideShapes ChangeAt RowKit Sl fB Deep
theorem laidOut:laidOutB Tryz.prog=true:=by kernel_rfl
theorem uY {w:World}{b i:Nat}{v:Value}(h:w.cell? ⟨b,i,none⟩=some v):(ik w).cell b i=some v:=by
 unfold World.cell? at h;unfold Hp.cell ik;simp only at h;cases hb:w.heap[b]? with
 | none=>rw [hb] at h;simp at h
 | some o=>
   rw [hb] at h;cases o<;>simp_all
section
variable {H:Type}{enc:TypeId × Value→H}
theorem Lh:Tryz.prog.cellsOf 5=1:=by kernel_rfl
theorem stays {W W':World}(hh:∀k,k<W.heap.size→W'.heap[k]? =W.heap[k]?){t:TypeId}(hr:Tryz.prog.readableRec t=true)(ht:t<Tryz.prog.types.size){v:Value}{d:DataW H}{p:List MemPlace}
 (h:DataW.Trod enc Tryz.prog W 0 (fun _=>true) true t v d p) (hp:∀x∈p,x.block<W.heap.size):DataW.Trod enc Tryz.prog W' 0 (fun x=>decide (x<W.heap.size)) true t v d p:=
 WideElems.Trod_stays (P:=Tryz.prog) laidOut hr ht h
  (fun x hx=>by
    have hlt:=hp x hx
    cases x with
    | cell b o=>
      show W'.cell? ⟨b,o,none⟩=W.cell? ⟨b,o,none⟩
      unfold World.cell?
      rw [hh b hlt]
    | map b=>exact hh b hlt)
  (fun x hx=>by simpa using hp x hx)
end
end Go.Proofs.YtiegeadmgpanoaaGreatDoor.D2
