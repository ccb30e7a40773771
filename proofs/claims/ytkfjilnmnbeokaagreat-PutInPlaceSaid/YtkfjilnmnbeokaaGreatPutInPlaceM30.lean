/- The program's check of a value's page, and of any page; the conditions stand as hypotheses. -/
import Derived.Test.YtkfjilnmnbeokaaGreatPutInPlaceM21
import Derived.Test.YtkfjilnmnbeokaaGreatPutInPlaceM12
import Derived.Test.YtkfjilnmnbeokaaGreatPutInPlaceM20
import Derived.Test.YtkfjilnmnbeokaaGreatPutInPlaceM24
import Derived.Test.YtkfjilnmnbeokaaGreatPutInPlaceM03
import Derived.Test.YtkfjilnmnbeokaaGreatPutInPlaceM01
set_option maxRecDepth 100000
set_option maxHeartbeats 16000000
namespace Go.Proofs.YtkfjilnmnbeokaaGreat.Z6
open ChangeShapes WideShapes ChangeAt RowKit Sl Cop G2 J2 N2 P2 Q2 X3 Z3 C4 K5
theorem last_nx {nx:Int}(hn:¬nx=0):mustP 0 (decide (1≤nx) && decide (nx≤65536)) 15=if nextOk nx then 0 else 15:=by
 have e1:nextOk nx=(decide (1≤nx) && decide (nx≤65536)):=by unfold nextOk isPg;rw [decide_eq_false hn,Bool.false_or,Bool.decide_and]
 rw [e1];unfold mustP;rfl
theorem check_val(a ad:Option Addr)(c d cd:Nat)(nx:Int)(hd:1≤d∧d≤480)(F:Pr)(w:World)(hF:Sat F w):
 Calls Tryz.prog 105 #[pageV 3 0 (.slice a 0 c) (.slice ad d cd) nx] w fun e w'=>e= .returned (.int .i64 (if nextOk nx then 0 else 15))∧Sat F w'∧Stays w w':=by
 have hf:formP 3 0 0 d nx=true:=by unfold formP;rw [if_neg (by decide),if_neg (by decide),decide_eq_true_eq];exact⟨rfl,rfl,hd⟩
 have h0:=chk_start (k:=3) (l:=0) (vi:= .slice a 0 c) (vd:= .slice ad d cd) (nx:=nx) hF;have H0:=hQ h0;have HST:=hQ (((Stays.refl w).alloc (.cells #[.int .i64 3,.int .i64 0,.slice a 0 c,.slice ad d cd,.int .i64 nx] 74)).alloc (.cells #[.int .i64 0] 25));clear h0 hF;obtain⟨R,hR⟩:∃R:Int,R=(if nextOk nx then 0 else 15):=⟨_,rfl⟩;rw [← hR];have HR:=hQ hR;clear hR;go_enter Tryz.func105,Tryz.ntmps105
 go_wp2_with fail
 refine(must_any 0 22 true _ _ _ H0.out).mono ?_;rintro e w1 ⟨rfl,hs1,st1⟩;obtain⟨q0,q1,q2,q3,q4,q5,z0,z1⟩:=chkAt_rd (f:=mustP 0 true 22) hs1;go_wp2_with fail
 refine(form_any a ad 0 c d cd 3 0 nx _).mono ?_;rintro e w2 ⟨rfl,ho⟩;rw [hf];go_wp2_with fail
 refine(must_any _ 5 _ _ _ _ (hs1.only ho)).mono ?_;rintro e w3 ⟨rfl,hs3,st3⟩;have HST3:=hQ (HST.out.trans (st1.trans (ho.st.trans st3)));have hs3':Sat (ChkAt (w.heap.size+1) w.heap.size 0 3 0 (.slice a 0 c) (.slice ad d cd) nx F) w3:=hs3;clear q0 q1 q2 q3 q4 q5 z0 z1 hs1 hs3 st1 ho st3 HST H0;obtain⟨q0,q1,q2,q3,q4,q5,z0,z1⟩:=chkAt_rd hs3';have H3:=hQ hs3';clear hs3';go_wp2_with fail
 go_loopw [30] (fun i wr=>i= .int .i64 0∧wr=w3) (fun _ _=>0)
 case atStart=>exact⟨rfl,rfl⟩
 case round=>
  obtain⟨rfl,rfl⟩:=hrel;by_cases hn:nx=0
  · subst hn
    go_wp2_with fail
    refine(must_any _ 15 true _ _ _ H3.out).mono ?_;rintro e w4 ⟨rfl,hs4,st4⟩;obtain⟨q0',_⟩:=chkAt_rd (f:=0) hs4;go_wp2;go_ret;exact⟨(by rw [HR.out];rfl),hs4.right.right,HST3.out.trans st4⟩
  · have hn0:(nx == 0)=false:=by rw [beq_eq_false_iff_ne];exact hn
    go_wp2_with fail
    refine(isPage_any _ _).mono ?_;rintro e w5 ⟨rfl,rfl⟩;go_wp2_with fail
    refine(must_any _ 15 _ _ _ _ H3.out).mono ?_;rintro e w4 ⟨rfl,hs4,st4⟩;obtain⟨q0',_⟩:=chkAt_rd hs4;go_wp2;go_ret;exact⟨(show Ending.returned (Value.int .i64 (mustP 0 (decide (1≤nx) && decide (nx≤65536)) 15))=_ from by rw [HR.out,last_nx hn]),hs4.right.right,HST3.out.trans st4⟩
theorem check_any(g:PageV)(h:Hp)(pv:Value)(hp:PageIn h pv g)(hu:∀x∈g.items,U8 x.key)(F:Pr)(w:World)(hF:Sat ((Pr.own h).star F) w):
 Calls Tryz.prog 105 #[pv] w fun e w'=>e= .returned (.int .i64 (checkP g))∧Sat ((Pr.own h).star F) w'∧Stays w w':=by
 obtain⟨vi,vd,rfl,hi,hd⟩:=hp;obtain⟨ai,ci,rfl,_,_⟩:=items_rd hi;obtain⟨ad,cd,rfl⟩:=bytes_shape hd;unfold checkP;by_cases hk:1≤g.kind∧g.kind≤3
 · rw [if_neg (by unfold Go.Cop.kindOk;rw [decide_eq_true hk];simp)]
   cases hf:formP g.kind g.level g.items.length g.data.length g.next with
   | false=>
     rw [if_pos rfl];exact check_form _ _ _ _ _ _ _ _ _ hk hf _ _ hF
   | true=>
     rw [if_neg (by decide)];obtain⟨k,l,its,da,nx⟩:=g;dsimp only at*;have hk3:k=1∨k=2∨k=3:=by omega
     rcases hk3 with rfl | rfl | rfl
     · exact check_leaf h _ _ _ _ _ _ _ _ hi hu hf _ _ hF
     · exact check_index h _ _ _ _ _ _ _ _ hi hu hf _ _ hF
     · unfold formP at hf
       rw [if_neg (by decide),if_neg (by decide),decide_eq_true_eq] at hf;obtain⟨rfl,h2,h3⟩:=hf;have:its= []:=List.eq_nil_of_length_eq_zero h2
       subst this;exact check_val _ _ _ _ _ _ h3 _ _ hF
 · rw [if_pos (by unfold Go.Cop.kindOk;exact decide_eq_false hk)]
   exact check_kind _ _ _ _ _ _ _ _ _ hk _ _ hF
end Go.Proofs.YtkfjilnmnbeokaaGreat.Z6
namespace Go.Proofs.YtkfjilnmnbeokaaGreat.D7
open ChangeShapes WideShapes ChangeAt RowKit Sl Cop D2 D3 J3 V3 G2 J2 X3 Y3 E4 P5 Z3 Y5 C6 Q4 V5 Z6
abbrev loadV(refs:Int)(cs:List Int)(on:Int→Option PageV):VaultS:=⟨poolOf refs cs 0,on,[],0⟩
abbrev vaultC(p mb:Nat):Obj:= .cells #[.pointer (some ⟨p,0,none⟩),.map (some mb),.slice none 0 0,.int .i64 0] 70
abbrev numC(x:NumV)(vi vd:Value):Obj:= .cells #[.int .i64 x.no,.int .i64 x.page.kind,.int .i64 x.page.level,vi,vd,.int .i64 x.page.next] 104
theorem wpQ_lookK {P:Program}{ops:Array Oper}{i:Nat}{l:List Nat}{N:Act→Prop}{a:Act}{w:World}{o:Oper}{t:TypeId}{m x:Operand}{c:Bool}{v:Value}(ho:ops[i]? =some o)(hop:o.op= .lookup t m x c)(hw:Region.wanted o (yielded ops a.tmps)=true)
 (hrun:(Instr.lookup t (a.eval m) (a.eval x) c).run P w= .ok v w) (h:∀K:Act→Prop,(∀a',wpQ P ops l N a' w→K a')→K (a.put o.dst v)):wpQ P ops (i :: l) N a w:=
 wpQ_look ho hop hw hrun (h _ fun _ h=>h)
end Go.Proofs.YtkfjilnmnbeokaaGreat.D7
