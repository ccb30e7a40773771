/- The program's check of a value's page, and of any page; the conditions stand as hypotheses. -/
import Derived.Test.YtbobcmimkonnoaaGreatVaultPlaysM14
import Derived.Test.YtbobcmimkonnoaaGreatVaultPlaysM12
import Derived.Test.YtbobcmimkonnoaaGreatVaultPlaysM02
import Derived.BigQuiet
import Derived.Test.YtbobcmimkonnoaaGreatVaultPlaysM09
import Derived.Test.YtbobcmimkonnoaaGreatVaultPlaysM01
set_option maxRecDepth 100000
set_option maxHeartbeats 16000000
namespace Go.Proofs.YtbobcmimkonnoaaGreat.V5
open ChangeShapes WideShapes ChangeAt RowKit Sl Cop G2 M2 N2 Q2 X2 U3 X3 P5 Q5
theorem last_nx {nx:Int}(hn:¬nx=0):mustP 0 (decide (1≤nx) && decide (nx≤65536)) 15=if nextOk nx then 0 else 15:=by
 have e1:nextOk nx=(decide (1≤nx) && decide (nx≤65536)):=by unfold nextOk isPg;rw [decide_eq_false hn,Bool.false_or,Bool.decide_and]
 rw [e1]
 unfold mustP
 rfl
theorem check_val(a ad:Option Addr)(c d cd:Nat)(nx:Int)(hd:1≤d∧d≤480)(F:Pr)(w:World)(hF:Sat F w):
 Calls Tryz.prog 87 #[pageV 3 0 (.slice a 0 c) (.slice ad d cd) nx] w fun e w'=>e= .returned (.int .i64 (if nextOk nx then 0 else 15))∧Sat F w'∧Stays w w':=by
 have hf:formP 3 0 0 d nx=true:=by unfold formP;rw [if_neg (by decide),if_neg (by decide),decide_eq_true_eq];exact⟨rfl,rfl,hd⟩
 have h0:=chk_start (k:=3) (l:=0) (vi:= .slice a 0 c) (vd:= .slice ad d cd) (nx:=nx) hF
 have H0:=hQ h0
 have HST:=hQ (((Stays.refl w).alloc (.cells #[.int .i64 3,.int .i64 0,.slice a 0 c,.slice ad d cd,.int .i64 nx] 31)).alloc (.cells #[.int .i64 0] 36))
 clear h0 hF
 obtain⟨R,hR⟩:∃R:Int,R=(if nextOk nx then 0 else 15):=⟨_,rfl⟩
 rw [← hR]
 have HR:=hQ hR
 clear hR
 go_enter Tryz.func87,Tryz.ntmps87
 go_wp2_with fail
 refine(must_any 0 22 true _ _ _ H0.out).mono ?_
 rintro e w1 ⟨rfl,hs1,st1⟩
 obtain⟨q0,q1,q2,q3,q4,q5,z0,z1⟩:=chkAt_rd (f:=mustP 0 true 22) hs1
 go_wp2_with fail
 refine(form_any a ad 0 c d cd 3 0 nx _).mono ?_
 rintro e w2 ⟨rfl,ho⟩
 rw [hf]
 go_wp2_with fail
 refine(must_any _ 5 _ _ _ _ (hs1.only ho)).mono ?_
 rintro e w3 ⟨rfl,hs3,st3⟩
 have HST3:=hQ (HST.out.trans (st1.trans (ho.st.trans st3)))
 have hs3':Sat (ChkAt (w.heap.size+1) w.heap.size 0 3 0 (.slice a 0 c) (.slice ad d cd) nx F) w3:=hs3
 clear q0 q1 q2 q3 q4 q5 z0 z1 hs1 hs3 st1 ho st3 HST H0
 obtain⟨q0,q1,q2,q3,q4,q5,z0,z1⟩:=chkAt_rd hs3'
 have H3:=hQ hs3'
 clear hs3'
 go_wp2_with fail
 go_loopw [30] (fun i wr=>i= .int .i64 0∧wr=w3) (fun _ _=>0)
 case atStart=>exact⟨rfl,rfl⟩
 case round=>
  obtain⟨rfl,rfl⟩:=hrel
  by_cases hn:nx=0
  · subst hn
    go_wp2_with fail
    refine(must_any _ 15 true _ _ _ H3.out).mono ?_
    rintro e w4 ⟨rfl,hs4,st4⟩
    obtain⟨q0',_⟩:=chkAt_rd (f:=0) hs4
    go_wp2
    go_ret
    exact⟨(by rw [HR.out];rfl),hs4.right.right,HST3.out.trans st4⟩
  · have hn0:(nx == 0)=false:=by rw [beq_eq_false_iff_ne];exact hn
    go_wp2_with fail
    refine(isPage_any _ _).mono ?_
    rintro e w5 ⟨rfl,rfl⟩
    go_wp2_with fail
    refine(must_any _ 15 _ _ _ _ H3.out).mono ?_
    rintro e w4 ⟨rfl,hs4,st4⟩
    obtain⟨q0',_⟩:=chkAt_rd hs4
    go_wp2
    go_ret
    exact⟨(show Ending.returned (Value.int .i64 (mustP 0 (decide (1≤nx) && decide (nx≤65536)) 15))=_ from by rw [HR.out,last_nx hn]),hs4.right.right,HST3.out.trans st4⟩
theorem check_any(g:PageV)(h:Hp)(pv:Value)(hp:PageIn h pv g)(hu:∀x∈g.items,U8 x.key)(F:Pr)(w:World)(hF:Sat ((Pr.own h).star F) w):
 Calls Tryz.prog 87 #[pv] w fun e w'=>e= .returned (.int .i64 (checkP g))∧Sat ((Pr.own h).star F) w'∧Stays w w':=by
 obtain⟨vi,vd,rfl,hi,hd⟩:=hp
 obtain⟨ai,ci,rfl,_,_⟩:=items_rd hi
 obtain⟨ad,cd,rfl⟩:=bytes_shape hd
 unfold checkP
 by_cases hk:1≤g.kind∧g.kind≤3
 · rw [if_neg (by unfold Go.Cop.kindOk;rw [decide_eq_true hk];simp)]
   cases hf:formP g.kind g.level g.items.length g.data.length g.next with
   | false=>
     rw [if_pos rfl]
     exact check_form _ _ _ _ _ _ _ _ _ hk hf _ _ hF
   | true=>
     rw [if_neg (by decide)]
     obtain⟨k,l,its,da,nx⟩:=g
     dsimp only at*
     have hk3:k=1∨k=2∨k=3:=by omega
     rcases hk3 with rfl | rfl | rfl
     · exact check_leaf h _ _ _ _ _ _ _ _ hi hu hf _ _ hF
     · exact check_index h _ _ _ _ _ _ _ _ hi hu hf _ _ hF
     · unfold formP at hf
       rw [if_neg (by decide),if_neg (by decide),decide_eq_true_eq] at hf
       obtain⟨rfl,h2,h3⟩:=hf
       have:its= []:=List.eq_nil_of_length_eq_zero h2
       subst this
       exact check_val _ _ _ _ _ _ h3 _ _ hF
 · rw [if_pos (by unfold Go.Cop.kindOk;exact decide_eq_false hk)]
   exact check_kind _ _ _ _ _ _ _ _ _ hk _ _ hF
end Go.Proofs.YtbobcmimkonnoaaGreat.V5
namespace Go.Proofs.YtbobcmimkonnoaaGreat.W5
open ChangeShapes WideShapes ChangeAt RowKit Sl Cop D2 K3 N3 G2 M2 U3 Y3 K4 N2 L5
theorem copybytes_any(h:Hp)(v:Value)(l:List Int)(F:Pr)(w:World)(hF:Sat ((Pr.own h).star F) w)(hx:Bytes h v l)(hn:l.length≤140737488355328):
 Calls Tryz.prog 85 #[v] w fun e w'=> ∃v',e= .returned v'∧Sat ((BytesRow v' l).star ((Pr.own h).star F)) w'∧Stays w w':=by
 obtain⟨a,c,rfl,r1⟩:=bytes_rd hx
 obtain⟨i0,hi,hz0,hz1,hz2⟩:=info_parts infoByte
 have hmk:∀wx:World,(Instr.makeSlice 29 (.int .i64 0) (.int .i64 (l.length:Int))).run Tryz.prog wx= .ok (.slice (some ⟨wx.heap.size,0,none⟩) 0 l.length) (wx.alloc (.cells (madeCells #[.int .u8 0] l.length) 5)):=by
  intro wx
  have:=run_make (P:=Tryz.prog) wx 29 5 i0 (.int .u8 0) Tryz.underlying29 hi hz0 .i64 .i64 0 l.length (by omega) (by omega) (by rw [hz2];omega) (by omega)
  rw [hz1,Int.toNat_natCast,Nat.mul_one] at this
  exact this
 have h2:=hQ (row_room 5 (.int .u8 0) l.length (by simp only [maxLen];omega) hF)
 have R1:=hQ r1
 clear hF hx r1
 go_enter Tryz.func85,Tryz.ntmps85
 go_wp2
 go_loopw [3,4] (fun o i wr=> ∃k:Nat,k≤l.length∧i= .int .i64 k∧Stays w wr∧Sat ((BytesRow o (l.take k)).star ((Pr.own h).star F)) wr) (fun _ i _=>l.length-(intOf i).toNat)
 case atStart=>exact⟨0,Nat.zero_le _,rfl,(Stays.refl w).alloc _,h2.out⟩
 case round=>
  obtain⟨k,hk,rfl,hst,hs⟩:=hrel
  have hlt':(l.take k).length=k:=by rw [List.length_take];omega
  obtain⟨ao,co,eo,_,_⟩:=Row.read hs
  rw [hlt'] at eo
  subst eo
  rcases Nat.lt_or_ge k l.length with hlt | hge
  · obtain⟨b,off,rfl,c1⟩:=R1.out k hlt
    have q1:=c1 wr hs.right.own
    have hs1:Sat ((Row 5 1 (.slice ao k co) k ((l.take k).map (Value.int .u8))).star ((Pr.own h).star F)) wr:=by
     have:=hs
     unfold BytesRow at this
     rw [hlt'] at this
     exact this
    have H1:=hQ (hs1.alloc (.cells #[.int .u8 (l.getD k 0)] 5)).right
    have hnew:=hQ (new_cells wr [.int .u8 (l.getD k 0)] 5 _ rfl)
    have HT:=hQ (show l.take (k+1)=l.take k++ [l.getD k 0] by rw [List.take_succ_eq_append_getElem hlt];simp [hlt])
    have zb:=World.block_lt_of_cell? _ _ q1
    clear hs hs1 c1
    generalize l.getD k 0=x at*
    go_wp2_with (at_builtin;refine wpList_append_sl rfl _ _ _ rfl 5 i0 (.int .u8 0) 1 1 Tryz.underlying29 hi hz0 hz1 hz2 rfl _ _ _ rfl H1.out ⟨wr.heap.size,0,none⟩ 1 1 [.int .u8 x] rfl rfl hnew.out (by simp [Value.oneCell']) (by simp only [maxLen];omega) (by omega) ?_;intro v7 w4 hs4 hg4 _;obtain⟨a7',c7',e7',_,_⟩:=Row.read hs4;subst e7';have HS4:=hQ hs4;have HG4:=hQ hg4;clear hs4 hg4)
    refine⟨⟨k+1,by omega,congrArg (Value.int .i64) (by omega),(hst.alloc _).of_grown HG4.out,?_⟩,by simp [intOf];omega⟩
    have hl2:(l.take (k+1)).length=k+1:=by rw [List.length_take];omega
    unfold BytesRow
    rw [hl2,HT.out,List.map_append]
    exact HS4.out
  · have hkl:k=l.length:=by omega
    subst hkl
    have HS:=hQ hs
    clear hs
    go_wp2
    go_ret
    refine⟨_,rfl,?_,hst⟩
    have:=HS.out
    rw [List.take_length] at this
    exact this
end Go.Proofs.YtbobcmimkonnoaaGreat.W5
namespace Go.Sl
section
variable {P:Program}{ops:Array Oper}
def plainOp:Op→Bool
 | .move _ | .assign _ | .fieldAddr .. | .indexAddr .. | .load .. | .binOp .. | .unOp .. | .pick .. | .build .. | .nilCheck _ | .extract .. | .lookup .. | .field .. | .index .. | .convert .. =>true
 | _=>false
theorem bindv {w w':World}{n:Next}(s:Sem Value)(h:Sem.run P (do pure (.value (← s)):Sem Next) w= .ok n w'):∃v,n= .value v:=by
 rw [Sem.run_bind] at h
 cases hr:s.run P w with
 | ok x w1=>
   rw [hr] at h
   simp only [Result.andThen,Sem.run_pure] at h
   cases h
   exact⟨x,rfl⟩
 | halt x w1=>rw [hr] at h;cases h
theorem bind_ok {α β:Type}{s:Sem α}{k:α→Sem β}{w w':World}{n:β}(h:Sem.run P (s >>=k) w= .ok n w'):∃x w1,s.run P w= .ok x w1∧(k x).run P w1= .ok n w':=by
 rw [Sem.run_bind] at h
 cases hr:s.run P w with
 | ok x w1=>rw [hr] at h;exact⟨x,w1,rfl,h⟩
 | halt x w1=>rw [hr] at h;cases h
theorem plain_value {o:Oper}{ρ:Operand→Value}{w w':World}{n:Next}(hp:plainOp o.op=true)(h:(execOp ρ o).run P w= .ok n w'):∃v,n= .value v:=by
 unfold execOp at h
 cases ho:o.op<;>rw [ho] at hp h<;>first | (cases hp;done) | exact bindv _ h | skip
 · cases h;exact⟨_,rfl⟩
 · cases h;exact⟨_,rfl⟩
 · rename_i c a b
   dsimp only at h
   rw [Sem.run_bind] at h
   cases hr:(asBool (ρ c)).run P w with
   | ok x w1=>
     rw [hr] at h
     cases x<;>(cases h;exact⟨_,rfl⟩)
   | halt x w1=>rw [hr] at h;cases h
 · dsimp only at h
   split at h
   any_goals (first | (cases h;exact⟨_,rfl⟩) | (simp [runtimePanic] at h;done) | skip)
   split at h
   · simp [runtimePanic] at h
   · obtain⟨_,_,_,h⟩:=bind_ok h
     obtain⟨_,_,_,h⟩:=bind_ok h
     split at h
     · obtain⟨_,_,_,h⟩:=bind_ok h
       cases h;exact⟨_,rfl⟩
     · cases h;exact⟨_,rfl⟩
   · cases h;exact⟨_,rfl⟩
theorem quiet_yield {o:Oper}{a:Act}{w:World}{Q:Act→Prop}(hp:plainOp o.op=true)(h:wpQuiet P ops (fun w'=> ∃n,w'=w.drewN n) Q [o] a):
 (Region.wanted o (yielded ops a.tmps)=true∧∃v,(execOp a.eval o).run P w= .ok (.value v) w∧Q (a.put o.dst v))∨
 (Region.wanted o (yielded ops a.tmps)=false∧Q (a.put o.dst undef)):=by
 unfold wpQuiet at h
 split at h
 · rename_i hw
   obtain⟨v,hv,hq⟩:=h
   refine .inl ⟨hw,v,?_,hq⟩
   have:=hv w ⟨0,rfl⟩
   unfold Oper.quietAt at this
   cases hr:(execOp a.eval o).run P w with
   | ok n w1=>
     rw [hr] at this
     obtain⟨u,rfl⟩:=plain_value hp hr
     obtain⟨rfl,rfl⟩:=this
     rfl
   | halt x w1=>rw [hr] at this;exact this.elim
 · rename_i hw
   exact .inr ⟨by simpa using hw,h⟩
theorem wpQ_big {i:Nat}{l:List Nat}{N:Act→Prop}{a:Act}{w:World}{o:Oper}(ho:ops[i]? =some o)(hp:plainOp o.op=true)
 (h:wpQuiet P ops (fun w'=> ∃n,w'=w.drewN n) (fun a'=>wpQ P ops l N a' w) [o] a):wpQ P ops (i :: l) N a w:=by
 simp only [wpQ,ho]
 exact quiet_yield hp h
theorem yieldF_big {c:Nat}{f:Act}{w:World}{o:Oper}(ho:ops[c]? =some o)(hp:plainOp o.op=true)(hs:(match o.dst with | some d=>decide (d<f.tmps.size) | none=>true)=true)
 (h:wpQuiet P ops (fun w'=> ∃n,w'=w.drewN n) (fun a'=>a'=f) [o] f):YieldF P ops c f w:=by
 have put:∀v d,o.dst=some d→f.put o.dst v=f→f.tmps[d]? =some v:=by
  intro v d hd e
  rw [hd] at hs e
  have hlt:d<f.tmps.size:=by simpa using hs
  have e2:=congrArg Act.tmps e
  rw [← e2]
  simp [Act.put,hlt]
 simp only [YieldF,ho]
 rcases quiet_yield hp h with⟨h1,v,h2,h3⟩ | ⟨h1,h3⟩
 · exact .inl ⟨h1,v,h2,fun d hd=>put v d hd h3⟩
 · exact .inr ⟨h1,fun d hd=>put undef d hd h3⟩
def pick(L:List Oper):List Nat→List Oper
 | []=> []
 | i :: l=>(L.drop i).take 1++pick L l
theorem pick_cons {L:List Oper}{i:Nat}{l:List Nat}(h:i<L.length):pick L (i :: l)=L[i] :: pick L l:=by
 show (L.drop i).take 1++pick L l=_
 rw [List.drop_eq_getElem_cons h]
 rfl
theorem quiet_cons {o:Oper}{l:List Oper}{a:Act}{C:World→Prop}{Q:Act→Prop}(h:wpQuiet P ops C Q (o :: l) a):wpQuiet P ops C (fun a'=>wpQuiet P ops C Q l a') [o] a:=by
 unfold wpQuiet at h ⊢
 split at h
 · rename_i hw
   rw [if_pos hw]
   exact h
 · rename_i hw
   rw [if_neg hw]
   exact h
theorem wpQ_all {L:List Oper}(l:List Nat){N:Act→Prop}{a:Act}{w:World}(hl:(l.all fun i=>decide (i<L.length))=true)(hp:((pick L l).all fun o=>plainOp o.op)=true)
 (h:wpQuiet P L.toArray (fun w'=> ∃n,w'=w.drewN n) N (pick L l) a):wpQ P L.toArray l N a w:=by
 induction l generalizing a with
 | nil=>exact h
 | cons i l ih=>
   simp only [List.all_cons,Bool.and_eq_true,decide_eq_true_eq] at hl
   rw [pick_cons hl.1] at h hp
   simp only [List.all_cons,Bool.and_eq_true] at hp
   refine wpQ_big (o:=L[i]) (by simp [hl.1]) hp.1 ?_
   have h2:=quiet_cons h
   unfold wpQuiet at h2 ⊢
   split at h2
   · rename_i hw
     rw [if_pos hw]
     obtain⟨v,hv,hq⟩:=h2
     exact⟨v,hv,ih hl.2 hp.2 hq⟩
   · rename_i hw
     rw [if_neg hw]
     exact ih hl.2 hp.2 h2
theorem wpQ_cut {ops:Array Oper}(l1 l2:List Nat){N:Act→Prop}{w:World}:∀ {a:Act},wpQ P ops l1 (fun a'=>wpQ P ops l2 N a' w) a w→wpQ P ops (l1++l2) N a w:=by
 induction l1 with
 | nil=>intro a h;exact h
 | cons i l1 ih=>
   intro a h
   simp only [List.cons_append,wpQ] at h ⊢
   split at h
   · exact h.elim
   · rcases h with⟨h1,v,h2,h3⟩ | ⟨h1,h2⟩
     · exact .inl ⟨h1,v,h2,ih h3⟩
     · exact .inr ⟨h1,ih h2⟩
theorem chk_cut {ops:Array Oper}(l1 l2:List Nat){f:Act}{w:World}(h1:Chk P ops l1 f w)(h2:Chk P ops l2 f w):Chk P ops (l1++l2) f w:=fun i hi=>(List.mem_append.1 hi).elim (h1 i) (h2 i)
theorem exec_look {o:Oper}{ρ:Operand→Value}{w:World}{t:TypeId}{m x:Operand}{c:Bool}{v:Value}(ho:o.op= .lookup t m x c)(h:(Instr.lookup t (ρ m) (ρ x) c).run P w= .ok v w):(execOp ρ o).run P w= .ok (.value v) w:=by
 unfold execOp
 rw [ho]
 show Sem.run P (do pure (.value (← Instr.lookup t (ρ m) (ρ x) c)):Sem Next) w=_
 rw [Sem.run_bind,h]
 rfl
theorem wpQ_look {i:Nat}{l:List Nat}{N:Act→Prop}{a:Act}{w:World}{o:Oper}{t:TypeId}{m x:Operand}{c:Bool}{v:Value}(ho:ops[i]? =some o)(hop:o.op= .lookup t m x c)(hw:Region.wanted o (yielded ops a.tmps)=true)
 (hrun:(Instr.lookup t (a.eval m) (a.eval x) c).run P w= .ok v w) (h:wpQ P ops l N (a.put o.dst v) w):wpQ P ops (i :: l) N a w:=by
 simp only [wpQ,ho]
 exact .inl ⟨hw,v,exec_look hop hrun,h⟩
def Same(P:Program)(ops:Array Oper)(C:World→Prop)(f:Act):List Oper→Prop
 | []=>True
 | o :: l=>wpQuiet P ops C (fun a'=>a'=f) [o] f∧Same P ops C f l
theorem chk_all {L:List Oper}(l:List Nat){f:Act}{w:World}(hl:(l.all fun i=>decide (i<L.length))=true)
 (hp:((pick L l).all fun o=>plainOp o.op && (match o.dst with | some d=>decide (d<f.tmps.size) | none=>true))=true)
 (h:Same P L.toArray (fun w'=> ∃n,w'=w.drewN n) f (pick L l)):Chk P L.toArray l f w:=by
 induction l with
 | nil=>exact chk_nil
 | cons i l ih=>
   simp only [List.all_cons,Bool.and_eq_true,decide_eq_true_eq] at hl
   rw [pick_cons hl.1] at h hp
   simp only [List.all_cons,Bool.and_eq_true] at hp
   exact chk_cons (yieldF_big (o:=L[i]) (by simp [hl.1]) hp.1.1 hp.1.2 h.1) (ih hl.2 (by simpa using hp.2) h.2)
end
end Go.Sl
namespace Go.Proofs.YtbobcmimkonnoaaGreat.X5
open ChangeShapes WideShapes ChangeAt RowKit Sl Cop D2 K3 N3 Q3 G2 M2 U3 Y3 L5 W5 X3
abbrev itemC(kv vv:Value)(c s:Int):Obj:= .cells #[kv,vv,.int .i64 c,.int .i64 s] 58
theorem infoItemS:(Tryz.prog.info? 58).map (·.size)=some 4:=by kernel_rfl
theorem pts4 {b T:Nat}{v0 v1 v2 v3:Value}{F:Pr}{w:World}(h:Sat ((Pr.pts b (.cells #[v0,v1,v2,v3] T)).star F) w):
 w.cell? ⟨b,0,none⟩=some v0∧w.cell? ⟨b,1,none⟩=some v1∧w.cell? ⟨b,2,none⟩=some v2∧w.cell? ⟨b,3,none⟩=some v3∧(w.frozen? ⟨b,0,none⟩=false∧w.frozen? ⟨b,1,none⟩=false∧w.frozen? ⟨b,2,none⟩=false∧w.frozen? ⟨b,3,none⟩=false)∧b<w.heap.size:=by
 have h1:=h.pts_heap
 exact⟨by rw [cell_of_heap h1];rfl,by rw [cell_of_heap h1];rfl,by rw [cell_of_heap h1];rfl,by rw [cell_of_heap h1];rfl,⟨frozen_of_heap h1 0,frozen_of_heap h1 1,frozen_of_heap h1 2,frozen_of_heap h1 3⟩,h.lt⟩
theorem copyitem_any(h:Hp)(v:Value)(x:ItemV)(hv:ItemIn h v x)(hn:x.key.length≤140737488355328∧x.value.length≤140737488355328)(F:Pr)(w:World)(hF:Sat ((Pr.own h).star F) w):
 Calls Tryz.prog 131 #[v] w fun e w'=> ∃kv vv,e= .returned (itemV kv vv x.child x.size)∧Sat ((BytesRow kv x.key).star ((BytesRow vv x.value).star ((Pr.own h).star F))) w'∧Stays w w':=by
 obtain⟨kv,vv,rfl,hk,hvv⟩:=hv
 obtain⟨ak,ck,rfl⟩:=bytes_shape hk
 obtain⟨av,cv,rfl⟩:=bytes_shape hvv
 obtain⟨hn1,hn2⟩:=hn
 have h1:=(hF.alloc (itemC (.slice ak x.key.length ck) (.slice av x.value.length cv) x.child x.size)).alloc (itemC (.slice none 0 0) (.slice none 0 0) 0 0)
 rw [show (w.alloc (itemC (.slice ak x.key.length ck) (.slice av x.value.length cv) x.child x.size)).heap.size=w.heap.size+1 by simp] at h1
 have h2:=h1.drew.perm (B:=(Pr.own h).star ((Pr.pts w.heap.size (itemC (.slice ak x.key.length ck) (.slice av x.value.length cv) x.child x.size)).star ((Pr.pts (w.heap.size+1) (itemC (.slice none 0 0) (.slice none 0 0) 0 0)).star F))) (by ac_rfl)
 have CB:=hQ (copybytes_any h _ x.key _ _ h2 hk (by omega))
 have HV:=hQ hvv
 have HN:=hQ hn2
 have HST:=hQ (((Stays.refl w).alloc (itemC (.slice ak x.key.length ck) (.slice av x.value.length cv) x.child x.size)).alloc (itemC (.slice none 0 0) (.slice none 0 0) 0 0)).drew
 clear h1 h2 hk hvv hF hn1 hn2
 go_enter Tryz.func131,Tryz.ntmps131
 go_wp2_with fail
 refine wp_region_staged (sz:=14) (by kernel_rfl) [0,1,3,4,6,7,8,9] [(2,[],[0,3,4,6,7,8,9]),(5,[10],[0,3,6,7,8,9]),(11,[],[])] rfl (by kernel_rfl) (by kernel_rfl) (by kernel_rfl) ?_
 refine wpQ_all _ rfl rfl ?_
 simp only [pick,pQ]
 iterate 8 (go_big_quiet_step (fail))
 refine wpQuiet_nil ?_
 refine wpRest_act rfl ?_
 go_wp2_with fail
 refine CB.out.mono ?_
 rintro e w1 ⟨v1,rfl,hs2,st2⟩
 obtain⟨a1,c1,e1,_,_⟩:=Row.read hs2
 subst e1
 have hs3:Sat ((Pr.own h).star ((Pr.pts w.heap.size (itemC (.slice ak x.key.length ck) (.slice av x.value.length cv) x.child x.size)).star ((Pr.pts (w.heap.size+1) (itemC (.slice none 0 0) (.slice none 0 0) 0 0)).star ((BytesRow (.slice a1 x.key.length c1) x.key).star F)))) w1:=hs2.perm (by ac_rfl)
 obtain⟨q0,q1,q2,q3,_,z0⟩:=pts4 hs3.right
 have CB2:=hQ (copybytes_any h _ x.value _ _ hs3 HV.out (by have:=HN.out;omega))
 have HST2:=hQ (HST.out.trans st2)
 clear hs2 hs3 st2 CB HV
 go_wp2
 refine onN_mk ?_
 refine wpQ_nil ⟨?_,?_⟩
 · refine chk_all _ rfl rfl ?_
   simp only [pick,Same,pQ,and_true]
   repeat' (first | apply And.intro | (go_big_quiet_step (fail);exact wpQuiet_nil rfl))
 refine wpRest_act rfl ?_
 go_wp2_with fail
 refine CB2.out.mono ?_
 rintro e w2 ⟨v2,rfl,hs4,st4⟩
 obtain⟨a2,c2,e2,_,_⟩:=Row.read hs4
 subst e2
 have hs5:Sat ((Pr.pts w.heap.size (itemC (.slice ak x.key.length ck) (.slice av x.value.length cv) x.child x.size)).star ((Pr.pts (w.heap.size+1) (itemC (.slice none 0 0) (.slice none 0 0) 0 0)).star ((BytesRow (.slice a1 x.key.length c1) x.key).star ((BytesRow (.slice a2 x.value.length c2) x.value).star ((Pr.own h).star F))))) w2:=hs4.perm (by ac_rfl)
 clear q0 q1 q2 q3 z0
 obtain⟨q0,q1,q2,q3,_,z0⟩:=pts4 hs5
 obtain⟨p0,p1,p2,p3,⟨f0,f1,f2,f3⟩,z1⟩:=pts4 hs5.right
 have H5:=hQ hs5.right
 have HST4:=hQ (HST2.out.trans st4)
 clear hs4 hs5 st4 CB2
 go_wp2
 refine onN_mk ?_
 refine wpQ_all _ rfl rfl ?_
 simp only [pick,pQ]
 iterate 1 (go_big_quiet_step (fail))
 refine wpQuiet_nil ⟨?_,?_⟩
 · refine chk_all _ rfl rfl ?_
   simp only [pick,Same,pQ,and_true]
   repeat' (first | apply And.intro | (go_big_quiet_step (fail);exact wpQuiet_nil rfl))
 refine wpRest_act rfl ?_
 go_wp2
 refine onN_mk (wpQ_nil ⟨chk_nil,wpRest_nil ?_⟩)
 go_wp2
 have s6:=(((H5.out.setCell (i:=0) (.slice a1 x.key.length c1)).setCell (i:=1) (.slice a2 x.value.length c2)).setCell (i:=2) (.int .i64 x.child)).setCell (i:=3) (.int .i64 x.size)
 have s7:Sat ((Pr.pts (w.heap.size+1) (itemC (.slice a1 x.key.length c1) (.slice a2 x.value.length c2) x.child x.size)).star ((BytesRow (.slice a1 x.key.length c1) x.key).star ((BytesRow (.slice a2 x.value.length c2) x.value).star ((Pr.own h).star F)))) _:=s6
 refine bodyPost_ret (results_cell_row rfl _ _ (w.heap.size+1) _ _ _ _ rfl s7.pts_heap Tryz.underlying58 rfl infoItemS) rfl ?_
 exact⟨_,_,rfl,s7.right,(((HST4.out.setCell _ _).setCell _ _).setCell _ _).setCell _ _⟩
theorem item_arena {kv vv:Value}{x:ItemV}{F:Pr}{w:World}(h:Sat ((BytesRow kv x.key).star ((BytesRow vv x.value).star F)) w):∃h',ItemIn h' (itemV kv vv x.child x.size) x∧Sat ((Pr.own h').star F) w:=by
 rw [← Pr.star_assoc] at h
 obtain⟨h',hq,hs⟩:=h.toOwn
 obtain⟨a,b,ha,hb,s1,s2⟩:=star_sub hq
 exact⟨h',⟨kv,vv,rfl,(Row.rowIn ha).sub s1,(Row.rowIn hb).sub s2⟩,hs⟩
structure ItsAt(hk:Hp)(xs:List (Value × Value))(l:List ItemV):Prop where
 len:xs.length=l.length
 at':∀i (hx:i<xs.length) (hl:i<l.length),Bytes hk xs[i].1 l[i].key∧Bytes hk xs[i].2 l[i].value
def ItRow(v:Value)(xs:List (Value × Value))(l:List ItemV):Pr:=Row 58 4 v l.length ((xs.zip l).flatMap itCells)
theorem ItsAt.snoc {hk h':Hp}(hd:hk.dis h'){xs:List (Value × Value)}{l:List ItemV}(ha:ItsAt hk xs l){kv vv:Value}{x:ItemV}(hx:ItemIn h' (itemV kv vv x.child x.size) x):ItsAt (hk.un h') (xs++ [(kv,vv)]) (l++ [x]):=by
 obtain⟨k',v',e,h1,h2⟩:=hx
 simp only [itemV,Value.agg.injEq,Array.mk.injEq,List.cons.injEq,and_true] at e
 obtain⟨rfl,rfl⟩:=e
 have hl:=ha.len
 refine⟨by simp [hl],fun i hi hj=> ?_⟩
 rcases Nat.lt_or_ge i xs.length with hlt | hge
 · rw [List.getElem_append_left hlt,List.getElem_append_left (by omega)]
   obtain⟨y1,y2⟩:=ha.at' i hlt (by omega)
   exact⟨y1.sub (Hp.sub_un_left _ _),y2.sub (Hp.sub_un_left _ _)⟩
 · simp only [List.length_append,List.length_singleton] at hi
   have:i=xs.length:=by omega
   subst this
   rw [List.getElem_append_right (Nat.le_refl _),List.getElem_append_right (by omega)]
   simp only [Nat.sub_self,hl,List.getElem_singleton]
   exact⟨h1.sub (Hp.sub_un_right hd),h2.sub (Hp.sub_un_right hd)⟩
theorem items_arena {v:Value}{hk:Hp}{xs:List (Value × Value)}{l:List ItemV}(ha:ItsAt hk xs l){F:Pr}{w:World}(h:Sat ((ItRow v xs l).star ((Pr.own hk).star F)) w):∃h',ItemsIn h' v l∧Sat ((Pr.own h').star F) w:=by
 rw [← Pr.star_assoc] at h
 obtain⟨h',hq,hs⟩:=h.toOwn
 obtain⟨a,b,hA,hB,s1,s2⟩:=star_sub hq
 cases hB
 exact⟨h',items_mk' xs ha.len ((Row.rowIn hA).sub s1) fun i hx hl=>⟨(ha.at' i hx hl).1.sub s2,(ha.at' i hx hl).2.sub s2⟩,hs⟩
theorem itRow_snoc(xs:List (Value × Value))(l:List ItemV)(hl:xs.length=l.length)(kv vv:Value)(x:ItemV):((xs++ [(kv,vv)]).zip (l++ [x])).flatMap itCells=(xs.zip l).flatMap itCells++ [kv,vv,.int .i64 x.child,.int .i64 x.size]:=by
 rw [List.zip_append hl]
 simp [itCells]
theorem copyitems_any(h:Hp)(v:Value)(l:List ItemV)(hv:ItemsIn h v l)(hn:l.length≤2199023255552)(hb:∀x∈l,x.key.length≤140737488355328∧x.value.length≤140737488355328)(F:Pr)(w:World)(hF:Sat ((Pr.own h).star F) w):
 Calls Tryz.prog 84 #[v] w fun e w'=> ∃v' h',e= .returned v'∧ItemsIn h' v' l∧Sat ((Pr.own h').star ((Pr.own h).star F)) w'∧Stays w w':=by
 obtain⟨a,c,rfl,_,rd⟩:=items_rd hv
 have RD:=hQ rd
 have HB:=hQ hb
 have HF:=hQ hF
 have hl0:(l.length:Int)≤2199023255552:=by omega
 obtain⟨i0,hi,hz0,hz1,hz2⟩:=info_parts infoItem
 clear rd hv hF hb
 go_enter Tryz.func84,Tryz.ntmps84
 go_wp2
 go_loopw [3,4] (fun o i wr=> ∃(k:Nat) (hk:Hp) (xs:List (Value × Value)),k≤l.length∧i= .int .i64 k∧Stays w wr∧Hid (ItsAt hk xs (l.take k))∧Sat ((ItRow o xs (l.take k)).star ((Pr.own hk).star ((Pr.own h).star F))) wr) (fun _ i _=>l.length-(intOf i).toNat)
 case atStart=>
  refine⟨0,Hp.nil,[],Nat.zero_le _,rfl,Stays.refl w,hQ ⟨rfl,fun i hx=>absurd hx (by simp)⟩,?_⟩
  show Sat ((Row 58 4 (.slice none 0 0) 0 []).star ((Pr.own Hp.nil).star ((Pr.own h).star F))) w
  rw [Row.nil,own_nil,Pr.emp_star,Pr.emp_star]
  exact HF.out
 case round=>
  obtain⟨k,hk,xs,hkl,rfl,hst,hits,hs⟩:=hrel
  have hlt':(l.take k).length=k:=by rw [List.length_take];omega
  obtain⟨ao,co,eo,_,_⟩:=Row.read hs
  rw [hlt'] at eo
  subst eo
  rcases Nat.lt_or_ge k l.length with hlt | hge
  · obtain⟨b,off,ak,ck,av,cv,rfl,hbk,hbv,hcell⟩:=RD.out k hlt
    have hs1:Sat ((Pr.own h).star ((Row 58 4 (.slice ao k co) k ((xs.zip (l.take k)).flatMap itCells)).star ((Pr.own hk).star F))) wr:=by
     have:=hs
     unfold ItRow at this
     rw [hlt'] at this
     exact this.perm (by ac_rfl)
    obtain⟨c0,c1,c2,c3⟩:=hcell wr hs1.own
    have zb:=World.block_lt_of_cell? _ _ c0
    have CI:=hQ (copyitem_any h _ l[k] ⟨_,_,rfl,hbk,hbv⟩ (HB.out _ (List.getElem_mem hlt)) _ wr hs1)
    have HT:=hQ (show l.take (k+1)=l.take k++ [l[k]] from List.take_succ_eq_append_getElem hlt)
    have HST:=hQ hst
    clear hs hs1 hcell hbk hbv hst
    generalize l[k]=x at*
    go_wp2_with fail
    refine CI.out.mono ?_
    rintro e w1 ⟨kv,vv,rfl,hs2,st2⟩
    obtain⟨h',hit,hs3⟩:=item_arena hs2
    have hs4:=hs3.perm (B:=(Pr.own hk).star ((Pr.own h').star ((Row 58 4 (.slice ao k co) k ((xs.zip (l.take k)).flatMap itCells)).star ((Pr.own h).star F)))) (by ac_rfl)
    obtain⟨hdis,hs5⟩:=hs4.own_join
    have hits2:=hits.out.snoc hdis hit
    have hs6:=hs5.perm (B:=(Row 58 4 (.slice ao k co) k ((xs.zip (l.take k)).flatMap itCells)).star ((Pr.own (hk.un h')).star ((Pr.own h).star F))) (by ac_rfl)
    obtain⟨ka,va,ekv,hk1,hk2⟩:=hit
    simp only [itemV,Value.agg.injEq,Array.mk.injEq,List.cons.injEq,and_true] at ekv
    obtain⟨rfl,rfl⟩:=ekv
    obtain⟨a1,d1,rfl⟩:=bytes_shape hk1
    obtain⟨a2,d2,rfl⟩:=bytes_shape hk2
    have H1:=hQ (hs6.alloc (.cells [.slice a1 x.key.length d1,.slice a2 x.value.length d2,.int .i64 x.child,.int .i64 x.size].toArray 58)).right
    have hnew:=hQ (new_cells w1 [.slice a1 x.key.length d1,.slice a2 x.value.length d2,.int .i64 x.child,.int .i64 x.size] 58 _ rfl)
    have HI2:=hQ hits2
    have HL:=hQ hits.out.len
    have HST2:=hQ (HST.out.trans st2)
    clear hs2 hs3 hs4 hs5 hs6 hk1 hk2 hits hits2 hdis st2 CI c0 c1 c2 c3 zb
    go_wp2_with (
     at_builtin
     refine wpList_append_sl rfl _ _ _ rfl 58 i0 (.agg #[.slice none 0 0,.slice none 0 0,.int .i64 0,.int .i64 0]) 4 64 Tryz.underlying28 hi hz0 hz1 hz2 rfl _ _ _ rfl H1.out ⟨w1.heap.size,0,none⟩ 1 1 [.slice a1 x.key.length d1,.slice a2 x.value.length d2,.int .i64 x.child,.int .i64 x.size] rfl rfl hnew.out (by simp [Value.oneCell']) (by simp only [maxLen];omega) (by omega) ?_
     intro v7 w4 hs4 hg4 _
     obtain⟨a7',c7',e7',_,_⟩:=Row.read hs4
     subst e7'
     have HS4:=hQ hs4
     have HG4:=hQ hg4
     clear hs4 hg4)
    refine⟨⟨k+1,hk.un h',xs++ [(.slice a1 x.key.length d1,.slice a2 x.value.length d2)],by omega,congrArg (Value.int .i64) (by omega),(HST2.out.alloc _).of_grown HG4.out,?_,?_⟩,by simp [intOf];omega⟩
    · rw [HT.out];exact HI2
    · have hl2:(l.take k++ [x]).length=k+1:=by rw [List.length_append,hlt'];rfl
      unfold ItRow
      rw [HT.out,itRow_snoc _ _ HL.out,hl2]
      exact HS4.out
  · have hkl2:k=l.length:=by omega
    subst hkl2
    have HS:=hQ hs
    clear hs
    go_wp2
    go_ret
    have h9:=hits.out
    have h8:=HS.out
    rw [List.take_length] at h9 h8
    obtain⟨h',h1,h2⟩:=items_arena h9 h8
    exact⟨_,h',rfl,h1,h2,hst⟩
abbrev pageC(k l:Int)(vi vd:Value)(nx:Int):Obj:= .cells #[.int .i64 k,.int .i64 l,vi,vd,.int .i64 nx] 31
theorem pts5 {b T:Nat}{v0 v1 v2 v3 v4:Value}{F:Pr}{w:World}(h:Sat ((Pr.pts b (.cells #[v0,v1,v2,v3,v4] T)).star F) w):
 w.cell? ⟨b,0,none⟩=some v0∧w.cell? ⟨b,1,none⟩=some v1∧w.cell? ⟨b,2,none⟩=some v2∧w.cell? ⟨b,3,none⟩=some v3∧w.cell? ⟨b,4,none⟩=some v4∧(w.frozen? ⟨b,0,none⟩=false∧w.frozen? ⟨b,1,none⟩=false∧w.frozen? ⟨b,2,none⟩=false∧w.frozen? ⟨b,3,none⟩=false∧w.frozen? ⟨b,4,none⟩=false)∧b<w.heap.size:=by
 have h1:=h.pts_heap
 exact⟨by rw [cell_of_heap h1];rfl,by rw [cell_of_heap h1];rfl,by rw [cell_of_heap h1];rfl,by rw [cell_of_heap h1];rfl,by rw [cell_of_heap h1];rfl,⟨frozen_of_heap h1 0,frozen_of_heap h1 1,frozen_of_heap h1 2,frozen_of_heap h1 3,frozen_of_heap h1 4⟩,h.lt⟩
theorem page_arena {hi:Hp}{vi vd:Value}{g:PageV}(h1:ItemsIn hi vi g.items){F:Pr}{w:World}(h:Sat ((BytesRow vd g.data).star ((Pr.own hi).star F)) w):∃h',PageIn h' (pageV g.kind g.level vi vd g.next) g∧Sat ((Pr.own h').star F) w:=by
 rw [← Pr.star_assoc] at h
 obtain⟨h',hq,hs⟩:=h.toOwn
 obtain⟨a,b,hA,hB,s1,s2⟩:=star_sub hq
 cases hB
 exact⟨h',⟨vi,vd,rfl,h1.sub s2,(Row.rowIn hA).sub s1⟩,hs⟩
theorem copypage_any(h:Hp)(v:Value)(g:PageV)(hv:PageIn h v g)(hn:g.items.length≤2199023255552)(hb:∀x∈g.items,x.key.length≤140737488355328∧x.value.length≤140737488355328)(hd:g.data.length≤140737488355328)(F:Pr)(w:World)(hF:Sat ((Pr.own h).star F) w):
 Calls Tryz.prog 27 #[v] w fun e w'=> ∃v' h',e= .returned v'∧PageIn h' v' g∧Sat ((Pr.own h').star ((Pr.own h).star F)) w'∧Stays w w':=by
 obtain⟨vi,vd,rfl,hi,hdd⟩:=hv
 obtain⟨k,l,its,dat,nx⟩:=g
 dsimp only at*
 obtain⟨ai,ci,rfl,_,_⟩:=items_rd hi
 obtain⟨ad,cd,rfl⟩:=bytes_shape hdd
 have h1:=(hF.alloc (pageC k l (.slice ai its.length ci) (.slice ad dat.length cd) nx)).alloc (pageC 0 0 (.slice none 0 0) (.slice none 0 0) 0)
 rw [show (w.alloc (pageC k l (.slice ai its.length ci) (.slice ad dat.length cd) nx)).heap.size=w.heap.size+1 by simp] at h1
 have h2:=h1.drew.perm (B:=(Pr.own h).star ((Pr.pts w.heap.size (pageC k l (.slice ai its.length ci) (.slice ad dat.length cd) nx)).star ((Pr.pts (w.heap.size+1) (pageC 0 0 (.slice none 0 0) (.slice none 0 0) 0)).star F))) (by ac_rfl)
 have CI:=hQ (copyitems_any h _ its hi hn hb _ _ h2)
 have HD:=hQ hdd
 have HN:=hQ hd
 have HST:=hQ (((Stays.refl w).alloc (pageC k l (.slice ai its.length ci) (.slice ad dat.length cd) nx)).alloc (pageC 0 0 (.slice none 0 0) (.slice none 0 0) 0)).drew
 clear h1 h2 hi hdd hF hn hb hd
 go_enter Tryz.func27,Tryz.ntmps27
 go_wp2_with fail
 refine wp_region_staged (sz:=16) (by kernel_rfl) [0,1,2,3,4,5,7,8,10,11] [(6,[],[0,1,2,3,4,7,8,10,11]),(9,[12],[0,1,2,3,4,7,10,11]),(13,[],[])] rfl (by kernel_rfl) (by kernel_rfl) (by kernel_rfl) ?_
 refine wpQ_all _ rfl rfl ?_
 simp only [pick,pQ]
 iterate 10 (go_big_quiet_step (fail))
 refine wpQuiet_nil ?_
 refine wpRest_act rfl ?_
 go_wp2_with fail
 refine CI.out.mono ?_
 rintro e w1 ⟨v1,h',rfl,hit,hs2,st2⟩
 obtain⟨a1,c1,rfl,_,_⟩:=items_rd hit
 have hs3:Sat ((Pr.own h).star ((Pr.pts w.heap.size (pageC k l (.slice ai its.length ci) (.slice ad dat.length cd) nx)).star ((Pr.pts (w.heap.size+1) (pageC 0 0 (.slice none 0 0) (.slice none 0 0) 0)).star ((Pr.own h').star F)))) w1:=hs2.perm (by ac_rfl)
 obtain⟨q0,q1,q2,q3,q4,_,z0⟩:=pts5 hs3.right
 have CB2:=hQ (copybytes_any h _ dat _ _ hs3 HD.out (by have:=HN.out;omega))
 have HST2:=hQ (HST.out.trans st2)
 have HIT:=hQ hit
 clear hs2 hs3 st2 CI HD hit
 go_wp2
 refine onN_mk ?_
 refine wpQ_nil ⟨?_,?_⟩
 · refine chk_all _ rfl rfl ?_
   simp only [pick,Same,pQ,and_true]
   repeat' (first | apply And.intro | (go_big_quiet_step (fail);exact wpQuiet_nil rfl))
 refine wpRest_act rfl ?_
 go_wp2_with fail
 refine CB2.out.mono ?_
 rintro e w2 ⟨v2,rfl,hs4,st4⟩
 obtain⟨a2,c2,e2,_,_⟩:=Row.read hs4
 subst e2
 have hs5:Sat ((Pr.pts w.heap.size (pageC k l (.slice ai its.length ci) (.slice ad dat.length cd) nx)).star ((Pr.pts (w.heap.size+1) (pageC 0 0 (.slice none 0 0) (.slice none 0 0) 0)).star ((BytesRow (.slice a2 dat.length c2) dat).star ((Pr.own h').star ((Pr.own h).star F))))) w2:=hs4.perm (by ac_rfl)
 clear q0 q1 q2 q3 q4 z0
 obtain⟨q0,q1,q2,q3,q4,_,z0⟩:=pts5 hs5
 obtain⟨p0,p1,p2,p3,p4,⟨f0,f1,f2,f3,f4⟩,z1⟩:=pts5 hs5.right
 have H5:=hQ hs5.right
 have HST4:=hQ (HST2.out.trans st4)
 clear hs4 hs5 st4 CB2
 go_wp2
 refine onN_mk ?_
 refine wpQ_all _ rfl rfl ?_
 simp only [pick,pQ]
 iterate 1 (go_big_quiet_step (fail))
 refine wpQuiet_nil ⟨?_,?_⟩
 · refine chk_all _ rfl rfl ?_
   simp only [pick,Same,pQ,and_true]
   repeat' (first | apply And.intro | (go_big_quiet_step (fail);exact wpQuiet_nil rfl))
 refine wpRest_act rfl ?_
 go_wp2
 refine onN_mk (wpQ_nil ⟨chk_nil,wpRest_nil ?_⟩)
 go_wp2
 have s6:=((((H5.out.setCell (i:=0) (.int .i64 k)).setCell (i:=1) (.int .i64 l)).setCell (i:=2) (.slice a1 its.length c1)).setCell (i:=3) (.slice a2 dat.length c2)).setCell (i:=4) (.int .i64 nx)
 have s7:Sat ((Pr.pts (w.heap.size+1) (pageC k l (.slice a1 its.length c1) (.slice a2 dat.length c2) nx)).star ((BytesRow (.slice a2 dat.length c2) dat).star ((Pr.own h').star ((Pr.own h).star F)))) _:=s6
 refine bodyPost_ret (results_cell_row rfl _ _ (w.heap.size+1) _ _ _ _ rfl s7.pts_heap Tryz.underlying31 rfl infoPage) rfl ?_
 obtain⟨hp,e1,e2⟩:=page_arena (g:=⟨k,l,its,dat,nx⟩) HIT.out s7.right
 exact⟨_,hp,rfl,e1,e2,((((HST4.out.setCell _ _).setCell _ _).setCell _ _).setCell _ _).setCell _ _⟩
end Go.Proofs.YtbobcmimkonnoaaGreat.X5
