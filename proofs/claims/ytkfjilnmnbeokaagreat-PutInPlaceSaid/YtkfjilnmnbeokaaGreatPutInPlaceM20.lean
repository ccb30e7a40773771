/- The page's Kids at pages of values; the conditions stand as hypotheses. -/
import Derived.Test.YtkfjilnmnbeokaaGreatPutInPlaceM17
import Derived.Test.YtkfjilnmnbeokaaGreatPutInPlaceM18
import Derived.Test.YtkfjilnmnbeokaaGreatPutInPlaceM05
import Derived.Test.YtkfjilnmnbeokaaGreatPutInPlaceM10
import Derived.Test.YtkfjilnmnbeokaaGreatPutInPlaceM12
import Derived.SizedLaws
import Derived.Test.YtkfjilnmnbeokaaGreatPutInPlaceM03
import Derived.Test.YtkfjilnmnbeokaaGreatPutInPlaceM11
import Derived.Laws.CopyOwn
import Derived.Lib.SmallJoins
import Derived.BigQuiet
import Derived.Deep.QuietTactic
import Derived.Test.YtkfjilnmnbeokaaGreatPutInPlaceM01
set_option maxRecDepth 100000
set_option maxHeartbeats 16000000
namespace Go.Cop
def kidsB(next:Int):List Int:=if next=0 then [] else [next]
end Go.Cop
namespace Go.Proofs.YtkfjilnmnbeokaaGreat.G5
open ChangeShapes WideShapes ChangeAt RowKit Sl Cop D2 D3 J3 V3 G2 J2 X3 Y3
end Go.Proofs.YtkfjilnmnbeokaaGreat.G5
namespace Go.Cop
def pagesV(V:List Int):Nat:=if V.length≤32 then 0 else chunks V
theorem chain_counts {s:VaultS}{V:List Int}:∀ {k j:Nat} {c:Int} {ns:List Int},ChainAt s V k j c ns→∀n∈ns,s.pool.count n=1:=by
 intro k;induction k with
 | zero=>intro j c ns h;rw [h.2];simp
 | succ k ih=>
   intro j c ns h n hn;obtain⟨c',ns',rfl,_,h3,_,h5⟩:=h;rcases List.mem_cons.1 hn with rfl | hn
   · exact h3
   · exact ih h5 n hn
theorem chain_taken {s s':VaultS}{V:List Int}{k j:Nat}{c:Int}{ns ns':List Int}(h:ChainAt s V k j c ns)(ok:PoolOk s.pool)(ht:Taken s s' ns'):ChainAt s' V k j c ns:=by
 refine chain_keep (fun n hn=> ?_) h;have h1:=chain_counts h n hn;exact ht.same n (fun hm=>by have:=count_of_free ok (ht.free n hm);omega)
end Go.Cop
namespace Go.Proofs.YtkfjilnmnbeokaaGreat.J5
open ChangeShapes WideShapes ChangeAt RowKit Sl Cop D2 D3 J3 V3 G2 J2 X3 Y3 E4 G4 L4 M4 Y4 N4 U4 Z4 B5 F5 N2
def StoredAt(s:VaultS)(h:Hp)(kv vv:Value)(c:Int)(V:List Int):Prop:=
 IsSl kv∧IsSl vv∧((V.length≤32∧Bytes h vv V)∨((32<V.length∧V.length≤3840)∧vv= .slice none 0 0∧∃ns,ChainAt s V (chunks V) 0 c ns))
theorem StoredAt.sub {s:VaultS}{h h':Hp}{kv vv:Value}{c:Int}{V:List Int}(hs:h.sub h')(x:StoredAt s h kv vv c V):StoredAt s h' kv vv c V:=
 ⟨x.1,x.2.1,x.2.2.imp (fun y=>⟨y.1,y.2.sub hs⟩) id⟩
theorem StoredAt.taken {s s':VaultS}{h:Hp}{kv vv:Value}{c:Int}{V:List Int}{ns:List Int}(ok:PoolOk s.pool)(ht:Taken s s' ns)(x:StoredAt s h kv vv c V):StoredAt s' h kv vv c V:=
 ⟨x.1,x.2.1,x.2.2.imp id (fun⟨y1,y2,m,y3⟩=>⟨y1,y2,m,chain_taken y3 ok ht⟩)⟩
end Go.Proofs.YtkfjilnmnbeokaaGreat.J5
namespace Go.Cop
def VaultS.freed(s:VaultS)(n:Int):VaultS:= { s with pool:=s.pool.did n (-1),on:=fun m=>if m=n then none else s.on m }
end Go.Cop
namespace Go.Proofs.YtkfjilnmnbeokaaGreat.L5
open ChangeShapes WideShapes ChangeAt RowKit Sl Cop D2 D3 J3 V3 G2 J2 X3 Y3 E4 G4
theorem onIn_del {h:Hp}{f:Int→Option Value}{on:Int→Option PageV}(hO:OnIn h f on)(n:Int):OnIn h (fun m=>if m=n then none else f m) (fun m=>if m=n then none else on m):=by
 intro m;dsimp only;by_cases hm:m=n
 · simp only [hm,if_true]
 · simp only [hm,if_false];exact hO m
theorem was_snoc {h:Hp}{ws:List WasX}{was:List (Int × Option PageV)}(hw:WasIn h ws was){X:WasX}{y:Int × Option PageV}(hr:WasRel h X y):WasIn h (ws++ [X]) (was++ [y]):=by
 refine⟨by simp [hw.1],fun i h1 h2=> ?_⟩;rcases Nat.lt_or_ge i was.length with hlt | hge
 · have hx:i<ws.length:=by rw [hw.1];exact hlt
   rw [List.getElem_append_left hx,List.getElem_append_left hlt];exact hw.2 i hx hlt
 · have h3:i=was.length:=by simp at h2;omega
   subst h3;have hx:ws.length≤was.length:=by rw [hw.1];omega
   rw [List.getElem_append_right hx,List.getElem_append_right hge];simpa using hr
theorem pool_state(p:Nat)(s:PoolS)(n:Int)(F:Pr)(w:World)(hF:Sat ((PoolA p s).star F) w):
 Calls Tryz.prog 128 #[.pointer (some ⟨p,0,none⟩),.int .i64 n] w fun e w'=>e= .returned (.int .i64 (s.state n))∧w=w':=
 state_any p n w s (poolA_rd hF).2.1
theorem free_A(v:Nat)(s:VaultS)(ab:Nat)(mark:Int)(was:List (Int × Option PageV))(n:Int)(hn:1≤n∧n≤65536)(hs:s.pool.state n=1)(hl:was.length≤65536)(F:Pr)(w:World)
 (hF:Sat ((VMA v s ab mark was).star F) w):
 Calls Tryz.prog 141 #[.pointer (some ⟨v,0,none⟩),.pointer (some ⟨ab,0,none⟩),.int .i64 n] w fun e w'=>
  e= .returned (.tuple #[])∧Sat ((VMA v { s with on:=fun m=>if m=n then none else s.on m } ab mark (was++ [(n,s.on n)])).star F) w'∧Stays w w':=by
 obtain⟨x,wv,ws,ok,hws,hF⟩:=vma_iff.1 hF
 have h1:Sat ((PoolA x.p s.pool).star ((Pr.pts v (.cells #[.pointer (some ⟨x.p,0,none⟩),.map (some x.mb),x.av,.int .i64 s.floor] 70)).star
  ((((MapA Tryz.prog 3 x.mb x.f).star ((Row 126 2 x.av s.acts.length (actCells x.axs)).star (Pr.own x.h)))).star (((Pr.pts ab (.cells #[.int .i64 mark,wv] 126)).star (Row 164 7 wv ws.length (ws.flatMap WasX.cells))).star F)))) w:=hF.perm (by unfold VMAt VaultAt;ac_rfl)
 have qv:w.cell? ⟨v,0,none⟩=some (.pointer (some ⟨x.p,0,none⟩)):=by rw [cell_of_heap h1.right.pts_heap];rfl
 have P:=pool_state x.p s.pool n _ w h1;rw [hs] at P;have HP:=hQ P;have N:=hQ (note_at v s x ab mark wv ws n hn ok.on (by rw [hws.1];exact hl) F w hF);clear h1 P hF;go_enter Tryz.func141,Tryz.ntmps141
 go_wp2_with fail
 refine HP.out.mono ?_;rintro e w1 ⟨rfl,rfl⟩;go_wp2_with fail
 refine N.out.mono ?_;rintro e w1 ⟨rfl,⟨wv',X,hX,h4⟩,hst⟩
 have h5:Sat ((MapA Tryz.prog 3 x.mb x.f).star ((Pr.pts v (.cells #[.pointer (some ⟨x.p,0,none⟩),.map (some x.mb),x.av,.int .i64 s.floor] 70)).star
  (((PoolA x.p s.pool).star ((Row 126 2 x.av s.acts.length (actCells x.axs)).star (Pr.own x.h))).star (((Pr.pts ab (.cells #[.int .i64 mark,wv'] 126)).star (Row 164 7 wv' (ws++ [X]).length ((ws++ [X]).flatMap WasX.cells))).star F)))) w1:=h4.perm (by unfold VMAt VaultAt;ac_rfl)
 have q1:w1.cell? ⟨v,1,none⟩=some (.map (some x.mb)):=by rw [cell_of_heap h5.right.pts_heap];rfl
 have H5:=hQ h5;clear h5 h4 qv N HP;go_wp2_with (refine wpList_del rfl _ _ _ rfl Tryz.underlying3 Tryz.underlying67 n hn rfl rfl H5.out ?_;intro w2 hs2 hg2;have HS2:=hQ hs2;have HG2:=hQ hg2;clear hs2 hg2)
 trace_state
 first | refine bodyPost_ret (results_none rfl _ _ _) rfl ?_ | go_end0
 refine⟨rfl,vma_iff.2 ⟨{ x with f:=fun m=>if m=n then none else x.f m },wv',ws++ [X],⟨onIn_del ok.on n,ok.acts,ok.f0,ok.fb⟩,was_snoc hws hX,?_⟩,hst.of_grown HG2.out⟩;exact HS2.out.perm (by unfold VMAt VaultAt;dsimp only;ac_rfl)
end Go.Proofs.YtkfjilnmnbeokaaGreat.L5
namespace Go.Cop
def VaultS.freedAll(s:VaultS):List Int→VaultS
 | []=>s
 | n :: ns=>(s.freed n).freedAll ns
end Go.Cop
namespace Go.Proofs.YtkfjilnmnbeokaaGreat.M5
open ChangeShapes WideShapes ChangeAt RowKit Sl Cop D2 D3 J3 V3 G2 J2 X3 Y3 E4 G4 G5 L5
end Go.Proofs.YtkfjilnmnbeokaaGreat.M5
namespace Go.Cop
end Go.Cop
namespace Go.Proofs.YtkfjilnmnbeokaaGreat.N5
open ChangeShapes WideShapes ChangeAt RowKit Sl Cop D2 D3 J3 V3 G2 J2 X3 Y3 E4 G4 L4 G5 L5 M5 J5
def nsOf(s:VaultS)(c:Int)(V:List Int)(ns:List Int):Prop:=(V.length≤32∧ns= [])∨((32<V.length∧V.length≤3840)∧ChainAt s V (chunks V) 0 c ns)
end Go.Proofs.YtkfjilnmnbeokaaGreat.N5
namespace Go.Proofs.YtkfjilnmnbeokaaGreat.P5
open ChangeShapes WideShapes ChangeAt RowKit Sl Cop D2 D3 J3 V3 G2 J2 X3 Y3
abbrev Ints(h:Hp)(v:Value)(l:List Int):Prop:=RowIn h 1 v l.length (l.map (Value.int .i64))
theorem clone_ints(h:Hp)(v:Value)(l:List Int)(F:Pr)(w:World)(hF:Sat F w)(hh:h.le w)(hx:Ints h v l)(hn:l.length≤65536):
 Calls Tryz.prog 54 #[v] w fun e w'=> ∃v',e= .returned v'∧Sat ((IntsRow v' l).star F) w'∧Stays w w':=by
 obtain⟨_,ad,c,rfl,hnc,hcm,hcell⟩:=id hx;have he:∀wx:World,(binOp .eql 31 (.slice ad l.length c) (.slice none 0 0)).run Tryz.prog wx= .ok (.bool ad.isNone) wx:=fun wx=>Lib.run_eql_slice_nil wx _ _ ad _ c 0 0 Tryz.underlying31
 cases ad with
 | none=>
   have hl:l.length=0:=by
    rcases Nat.eq_zero_or_pos l.length with h0 | h0
    · exact h0
    · obtain⟨b,off,e1,_⟩:=hcell (by omega);cases e1
   have hl2:l= []:=List.eq_nil_of_length_eq_zero hl;have HF:=hQ hF;have HL:=hQ hl2;clear hF hx hcell hh hl2 hl;go_enter Tryz.func54,Tryz.ntmps54
   go_wp2;go_ret;refine⟨_,rfl,?_,Stays.refl w⟩;have h1:=HF.out;have h2:=HL.out;subst h2;rw [← Sat.emp, ← Row.nil 3 1] at h1;exact h1
 | some ad=>
   have hnew:Sat ((Row 3 1 (.slice (some ⟨w.heap.size,0,none⟩) 0 0) 0 []).star F) (w.alloc (.cells #[] 3)):=
    Row.mk' (xs:= []) (sp:= []) (by simp) (by simp) (Nat.le_refl _) (by simp) (by simpa using hF.alloc (.cells #[] 3))
   have hle:h.le (w.alloc (.cells #[] 3)):=fun k o e=>(Below.heap_alloc w _ k (Array.getElem?_eq_some_iff.1 (hh k o e)).1).trans (hh k o e)
   have HF:=hQ hnew;have HX:=hQ hx;have HH:=hQ hle;clear hF hx hcell hh hnew hle;go_enter Tryz.func54,Tryz.ntmps54
   obtain⟨i0,hi,hz0,hz1,hz2⟩:=info_parts infoInt;go_wp2_with (at_builtin;refine wpList_append_row rfl _ _ _ rfl 3 i0 (.int .i64 0) 1 8 Tryz.underlying31 hi hz0 hz1 hz2 rfl _ _ _ rfl HF.out h HH.out _ _ _ rfl HX.out (by simp [Value.oneCell']) (by simp only [maxLen];omega) (by omega) ?_;intro v' w1 hsat hgr _;have HSAT:=hQ hsat;clear hsat)
   go_ret;refine⟨_,rfl,?_,((Stays.refl w).alloc _).of_grown hgr⟩;have h1:=HSAT.out;rw [Nat.zero_add,List.nil_append] at h1;exact h1
theorem counts_A(p:Nat)(s:PoolS)(F:Pr)(w:World)(hF:Sat ((PoolA p s).star F) w):
 Calls Tryz.prog 19 #[.pointer (some ⟨p,0,none⟩)] w fun e w'=> ∃v',e= .returned v'∧Sat ((IntsRow v' s.counts).star ((PoolA p s).star F)) w'∧Stays w w':=by
 obtain⟨ok,cv,lv,fb,av,hA⟩:=poolA_iff.1 hF;have hA1:Sat ((Pr.pts p (.cells (poolCells s cv lv fb av) 118)).star ((IntsRow cv s.counts).star ((BoolsRow lv s.last).star ((SetOf fb fun m=>s.state m=1).star ((ActsA p av s.acts).star F))))) w:=hA.perm (by unfold PoolAt;ac_rfl);have q1:w.cell? ⟨p,1,none⟩=some cv:=by rw [cell_of_heap hA1.pts_heap];rfl
 obtain⟨x,⟨a,f,ha,hf,hd,rfl⟩,hl⟩:=hA1.right;have C:=hQ (clone_ints a cv s.counts _ w hF ((Hp.le_un hd).1 hl).1 (Row.rowIn ha) ok.n2);clear hA hA1 hF ha hf hd hl;go_enter Tryz.func19,Tryz.ntmps19
 go_wp2_with fail
 refine C.out.mono ?_;rintro e w1 ⟨v',rfl,h1,hst⟩;have H1:=hQ h1;clear h1;go_wp2;go_ret;exact⟨_,rfl,H1.out,hst⟩
theorem ints_rd {h:Hp}{v:Value}{V:List Int}(hb:Ints h v V):∃a c,v= .slice a V.length c∧∀i,i<V.length→∃b off,a=some ⟨b,off,none⟩∧∀w,h.le w→w.cell? ⟨b,off+i,none⟩=some (.int .i64 (V.getD i 0)):=by
 obtain⟨hl,a,c,e,_,_,hc⟩:=hb;refine⟨a,c,e,fun i hi=> ?_⟩;obtain⟨b,off,e1,e2⟩:=hc (by omega);refine⟨b,off,e1,fun w hw=> ?_⟩;refine Hp.cell_le hw ((e2 i (by omega)).trans ?_);simp [hi]
theorem eqints_same(ha hb:Hp)(va vb:Value)(V:List Int)(h1:Ints ha va V)(h2:Ints hb vb V)(hn:V.length≤65536)(w:World)(l1:ha.le w)(l2:hb.le w):
 Calls Tryz.prog 20 #[va,vb] w fun e w'=>e= .returned (.bool true)∧Only w w':=by
 obtain⟨a,c,rfl,r1⟩:=ints_rd h1;obtain⟨a',c',rfl,r2⟩:=ints_rd h2;have R1:=hQ r1;have R2:=hQ r2;have L1:=hQ l1;have L2:=hQ l2;clear r1 r2 h1 h2 l1 l2;go_enter Tryz.func20,Tryz.ntmps20
 go_wp2;go_loopw [5] (fun i wr=> ∃k:Nat,k≤V.length∧i= .int .i64 k∧Only w wr) (fun i _=>V.length-(intOf i).toNat)
 case atStart=>exact⟨0,Nat.zero_le _,rfl,Only.refl w⟩
 case round=>
  obtain⟨k,hk,rfl,ho⟩:=hrel;rcases Nat.lt_or_ge k V.length with hlt | hge
  · obtain⟨b,off,rfl,c1⟩:=R1.out k hlt
    obtain⟨b',off',rfl,c2⟩:=R2.out k hlt;have q1:=c1 wr (fun k o e=>(ho.heap k (Array.getElem?_eq_some_iff.1 (L1.out k o e)).1).trans (L1.out k o e));have q2:=c2 wr (fun k o e=>(ho.heap k (Array.getElem?_eq_some_iff.1 (L2.out k o e)).1).trans (L2.out k o e));have HO:=hQ ho;clear c1 c2 ho;generalize V.getD k 0=x at*;go_wp2;go_region
    go_wp2;go_roundw
    case rel=>exact⟨k+1,by omega,by go_num,HO.out.drew⟩
    case measure=>simp [intOf];omega
  · have hkl:k=V.length:=by omega
    subst hkl;go_wp2;go_ret;exact⟨rfl,ho⟩
end Go.Proofs.YtkfjilnmnbeokaaGreat.P5
namespace Go.Proofs.YtkfjilnmnbeokaaGreat.Q5
open ChangeShapes WideShapes ChangeAt RowKit Sl Cop D2 D3 J3 G2 J2 X3 Y3 U4 N2 P5
theorem copybytes_any(h:Hp)(v:Value)(l:List Int)(F:Pr)(w:World)(hF:Sat ((Pr.own h).star F) w)(hx:Bytes h v l)(hn:l.length≤140737488355328):
 Calls Tryz.prog 10 #[v] w fun e w'=> ∃v',e= .returned v'∧Sat ((BytesRow v' l).star ((Pr.own h).star F)) w'∧Stays w w':=by
 obtain⟨a,c,rfl,r1⟩:=bytes_rd hx;obtain⟨i0,hi,hz0,hz1,hz2⟩:=info_parts infoByte
 have hmk:∀wx:World,(Instr.makeSlice 39 (.int .i64 0) (.int .i64 (l.length:Int))).run Tryz.prog wx= .ok (.slice (some ⟨wx.heap.size,0,none⟩) 0 l.length) (wx.alloc (.cells (madeCells #[.int .u8 0] l.length) 5)):=by
  intro wx;have:=run_make (P:=Tryz.prog) wx 39 5 i0 (.int .u8 0) Tryz.underlying39 hi hz0 .i64 .i64 0 l.length (by omega) (by omega) (by rw [hz2];omega) (by omega)
  rw [hz1,Int.toNat_natCast,Nat.mul_one] at this;exact this
 have h2:=hQ (row_room 5 (.int .u8 0) l.length (by simp only [maxLen];omega) hF);have R1:=hQ r1;clear hF hx r1;go_enter Tryz.func10,Tryz.ntmps10
 go_wp2;go_loopw [3,4] (fun o i wr=> ∃k:Nat,k≤l.length∧i= .int .i64 k∧Stays w wr∧Sat ((BytesRow o (l.take k)).star ((Pr.own h).star F)) wr) (fun _ i _=>l.length-(intOf i).toNat)
 case atStart=>exact⟨0,Nat.zero_le _,rfl,(Stays.refl w).alloc _,h2.out⟩
 case round=>
  obtain⟨k,hk,rfl,hst,hs⟩:=hrel;have hlt':(l.take k).length=k:=by rw [List.length_take];omega
  obtain⟨ao,co,eo,_,_⟩:=Row.read hs;rw [hlt'] at eo;subst eo;rcases Nat.lt_or_ge k l.length with hlt | hge
  · obtain⟨b,off,rfl,c1⟩:=R1.out k hlt
    have q1:=c1 wr hs.right.own
    have hs1:Sat ((Row 5 1 (.slice ao k co) k ((l.take k).map (Value.int .u8))).star ((Pr.own h).star F)) wr:=by
     have:=hs
     unfold BytesRow at this;rw [hlt'] at this;exact this
    have H1:=hQ (hs1.alloc (.cells #[.int .u8 (l.getD k 0)] 5)).right;have hnew:=hQ (new_cells wr [.int .u8 (l.getD k 0)] 5 _ rfl);have HT:=hQ (show l.take (k+1)=l.take k++ [l.getD k 0] by rw [List.take_succ_eq_append_getElem hlt];simp [hlt]);have zb:=World.block_lt_of_cell? _ _ q1;clear hs hs1 c1;generalize l.getD k 0=x at*
    go_wp2_with (at_builtin;refine wpList_append_sl rfl _ _ _ rfl 5 i0 (.int .u8 0) 1 1 Tryz.underlying39 hi hz0 hz1 hz2 rfl _ _ _ rfl H1.out ⟨wr.heap.size,0,none⟩ 1 1 [.int .u8 x] rfl rfl hnew.out (by simp [Value.oneCell']) (by simp only [maxLen];omega) (by omega) ?_;intro v7 w4 hs4 hg4 _;obtain⟨a7',c7',e7',_,_⟩:=Row.read hs4;subst e7';have HS4:=hQ hs4;have HG4:=hQ hg4;clear hs4 hg4)
    refine⟨⟨k+1,by omega,congrArg (Value.int .i64) (by omega),(hst.alloc _).of_grown HG4.out,?_⟩,by simp [intOf];omega⟩;have hl2:(l.take (k+1)).length=k+1:=by rw [List.length_take];omega
    unfold BytesRow;rw [hl2,HT.out,List.map_append];exact HS4.out
  · have hkl:k=l.length:=by omega
    subst hkl;have HS:=hQ hs;clear hs;go_wp2;go_ret;refine⟨_,rfl,?_,hst⟩;have:=HS.out
    rw [List.take_length] at this;exact this
end Go.Proofs.YtkfjilnmnbeokaaGreat.Q5
namespace Go.Proofs.YtkfjilnmnbeokaaGreat.V5
open ChangeShapes WideShapes ChangeAt RowKit Sl Cop D2 D3 J3 M3 V3 G2 J2 P5
theorem rangeOk_iff {n r:Int}:rangeOk n r=true↔(1≤n∧n≤65536∧2≤r∧r<65536):=by unfold rangeOk;exact decide_eq_true_iff
end Go.Proofs.YtkfjilnmnbeokaaGreat.V5
namespace Go.Proofs.YtkfjilnmnbeokaaGreat.W5
open ChangeShapes WideShapes ChangeAt RowKit Sl Cop D2 D3 J3 V3 G2 J2 X3 Y3 E4 G4 L4 M4 N4 U4 B5 F5 N5 J5
theorem store_key(v:Nat)(kv vv:Value)(hp:Hp)(K V:List Int)(hK:Bytes hp kv K)(hV:Bytes hp vv V)(hk:K.length<1∨24<K.length)(w:World):
 Calls Tryz.prog 36 #[.pointer (some ⟨v,0,none⟩),kv,vv] w fun e w'=>e= .returned (.tuple #[zeroItem,.int .i64 7])∧Only w w':=by
 obtain⟨_,ak,ck,rfl,_⟩:=id hK;obtain⟨_,av,cv,rfl,_,_,_⟩:=id hV;have es:(w.alloc (.cells #[.pointer (some ⟨v,0,none⟩)] 24)).heap.size=w.heap.size+1:=by simp
 have es2:((w.alloc (.cells #[.pointer (some ⟨v,0,none⟩)] 24)).alloc (.cells #[.slice none 0 0,.slice none 0 0,.int .i64 0,.int .i64 0] 89)).heap.size=w.heap.size+1+1:=by simp
 have h1:=(((sat_emp w).alloc (.cells #[.pointer (some ⟨v,0,none⟩)] 24)).alloc (.cells #[.slice none 0 0,.slice none 0 0,.int .i64 0,.int .i64 0] 89)).alloc (.cells #[.int .i64 7] 25);rw [es2,es] at h1;have HO:=hQ ((((Only.refl w).alloc (.cells #[.pointer (some ⟨v,0,none⟩)] 24)).alloc (.cells #[.slice none 0 0,.slice none 0 0,.int .i64 0,.int .i64 0] 89)).alloc (.cells #[.int .i64 7] 25))
 have H1:=hQ h1;clear h1 es es2 hK hV;rcases hk with hk | hk
 · have hd:decide ((K.length:Int)<1)=true:=decide_eq_true (by omega)
   go_enter Tryz.func36,Tryz.ntmps36
   go_wp2;have h2:=H1.out.perm (Pr.left_comm _ _ _);refine bodyPost_ret (results_cell_cell rfl _ _ (w.heap.size+1) _ rfl (run_loadVar_row _ (w.heap.size+1) _ _ _ _ _ h2.pts_heap Tryz.underlying89 rfl infoItemS) (w.heap.size+1+1) (.int .i64 7) rfl (load_errno H1.out.pts_heap)) rfl ?_;exact⟨rfl,HO.out⟩
 · have hd:decide ((24:Int)<(K.length:Int))=true:=decide_eq_true (by omega)
   go_enter Tryz.func36,Tryz.ntmps36
   go_wp2;have h2:=H1.out.perm (Pr.left_comm _ _ _);refine bodyPost_ret (results_cell_cell rfl _ _ (w.heap.size+1) _ rfl (run_loadVar_row _ (w.heap.size+1) _ _ _ _ _ h2.pts_heap Tryz.underlying89 rfl infoItemS) (w.heap.size+1+1) (.int .i64 7) rfl (load_errno H1.out.pts_heap)) rfl ?_;exact⟨rfl,HO.out⟩
end Go.Proofs.YtkfjilnmnbeokaaGreat.W5
namespace Go.Proofs.YtkfjilnmnbeokaaGreat.X5
open ChangeShapes WideShapes ChangeAt RowKit Sl Cop Deep G2 D5 E5 X3 P5 Z3 Q4
theorem bytes_u8:Tryz.prog.bytesOf 5=1:=by kernel_rfl
section
variable {H:Type}{enc:TypeId × Value→H}
def Small(d:DataW H)(t:TypeId):Prop:= ∀m∈d.weights Tryz.prog t,m≤reachBytes
theorem weights_all {e:TypeId}:∀ {l:List (DataW H)} {i:Nat} {d:DataW H},l[i]? =some d→∀m∈d.weights Tryz.prog e,m∈DataW.weightsAll Tryz.prog e l
 | [],_,_,h,_,_=>by simp at h
 | x :: l,0,d,h,m,hm=>by
   simp only [List.getElem?_cons_zero,Option.some.injEq] at h;subst h;simp only [DataW.weightsAll,List.mem_append];exact .inl hm
 | x :: l,i+1,d,h,m,hm=>by
   simp only [List.getElem?_cons_succ] at h;simp only [DataW.weightsAll,List.mem_append];exact .inr (weights_all h m hm)
theorem int_of {W:World}{base n:Nat}{v:Value}{x:DataW H × List MemPlace}(h:DataW.trod enc Tryz.prog W base (fun _=>true) true n 3 [v]=some x):∃z,v= .int .i64 z∧ -9223372036854775808≤z∧z≤9223372036854775807:=by
 cases n with
 | zero=>simp [DataW.trod] at h
 | succ n=>
   unfold DataW.trod at h;rw [Tryz.underlying3] at h;cases v with
   | int k z=>
     simp only at h;split at h
     · rename_i hk
       have e1:IntKind.i64.min= -9223372036854775808:=by decide
       have e2:IntKind.i64.max=9223372036854775807:=by decide
       simp_all [Lit.wf]
     · simp at h
   | _=>simp at h
theorem bytes_sz {W:World}{base n:Nat}{v:Value}{x:DataW H × List MemPlace}(h:DataW.trod enc Tryz.prog W base (fun _=>true) true n 39 [v]=some x):
 ∃l:List Int,Bytes (heapOf W) v l∧U8 l∧(Small x.1 39→l.length≤reachBytes):=by
 rcases open_ints Tryz.underlying39 Tryz.underlying5 cells_u8 h with⟨e,_⟩ | ⟨a,len,cap,zs,e,_,hl,hm,hz,hx,hcell,hwf⟩
 · simp at e
   subst e;exact⟨[],RowIn.nil _ _,fun z hz=>(by cases hz),fun _=>Nat.zero_le _⟩
 · simp at e
   subst e;simp only [if_true] at hz;have hlen:(zs.take len).length=len:=by simp;omega
   refine⟨zs.take len,⟨by simp,some a,cap,by rw [hlen],by omega,hm,fun h0=> ?_⟩,fun z hz'=> ?_,fun hs=> ?_⟩
   · obtain⟨ab,ao,spot⟩:=a
     have hspot:spot=none:=by simpa [Addr.add] using World.cell?_spot (hcell 0 (by omega))
     subst hspot;refine⟨ab,ao,rfl,fun i hi=> ?_⟩;have hc:=hcell i (by omega);rw [Addr.add_lit] at hc;rw [heap_cell hc];have h1:i<zs.length:=by omega
     have h2:i<len:=by omega
     simp [h1,h2]
   · have:=hwf z (List.mem_of_mem_take hz')
     simp only [Lit.wf,Bool.and_eq_true,decide_eq_true_eq] at this;have e1:IntKind.u8.min=0:=by decide
     have e2:IntKind.u8.max=255:=by decide
     rw [e1,e2] at this;exact this
   · subst hx
     have h2:=hs (((lits .u8 (zs.take len)).length+(lits .u8 (zs.drop len)).length)*Tryz.prog.bytesOf 5:Nat) (by
      simp only [DataW.weights,Tryz.underlying39]
      exact List.mem_cons_self)
     rw [bytes_u8] at h2;simp [lits] at h2
     rw [hlen];omega
def ItemCells(h:Hp)(cs:List Value)(y:ItemV):Prop:= ∃kv vv,cs= [kv,vv,.int .i64 y.child,.int .i64 y.size]∧Bytes h kv y.key∧Bytes h vv y.value
def ItemFits(y:ItemV):Prop:=U8 y.key∧U8 y.value∧(-9223372036854775808≤y.child∧y.child≤9223372036854775807)∧(-9223372036854775808≤y.size∧y.size≤9223372036854775807)
def ItemSized(y:ItemV):Prop:=y.key.length≤reachBytes∧y.value.length≤reachBytes
theorem zip_range {α β:Type}(f:Nat→α)(g:Nat→β)(n:Nat):((List.range n).map f).zip ((List.range n).map g)=(List.range n).map fun i=>(f i,g i):=by
 rw [List.zip_map']
theorem rows_of {W:World}{base n:Nat}{t e:TypeId}{k:Nat}(ht:Tryz.prog.underlying t=some (.slice e))(hk:Tryz.prog.cellsOf e=k)(hk0:0<k){v:Value}{x:DataW H × List MemPlace}(h:DataW.trod enc Tryz.prog W base (fun _=>true) true n t [v]=some x):
 ∃(len n':Nat) (C:Nat→List Value) (D:Nat→DataW H) (Pl:Nat→List MemPlace),(∀i,i<len→(C i).length=k∧DataW.trod enc Tryz.prog W base (fun _=>true) true n' e (C i)=some (D i,Pl i))∧
  RowIn (heapOf W) k v len ((List.range len).flatMap C)∧(Small x.1 t→len*Tryz.prog.bytesOf e≤reachBytes∧∀i,i<len→Small (D i) e):=by
 rcases open_slice ht h with⟨e1,e2⟩ | ⟨a,len,cap,m,n',D,Pl,e1,_,hl,hm,hmm,hx,hc⟩
 · simp at e1
   subst e1;exact⟨0,0,fun _=> [],fun _=> .nil,fun _=> [],fun i hi=>absurd hi (by omega),RowIn.nil _ _,fun _=>⟨by simp,fun i hi=>absurd hi (by omega)⟩⟩
 · simp at e1
   subst e1;simp only [if_true] at hmm;subst hmm;rw [hk] at hc;obtain⟨C,hC⟩:=choose_lt (α:=List Value) (n:=m) (p:=fun i cs'=>W.cells? base (a.add (i*k)) k=some cs'∧DataW.trod enc Tryz.prog W base (fun _=>true) true n' e cs'=some (D i,Pl i)) hc
   have hC2:∀i,i<m→(C i).length=k∧∀j,j<k→W.cell? ((a.add (i*k)).add j)=(C i)[j]? :=fun i hi=>by
    obtain⟨_,h2,h3⟩:=World.cells?_some (hC i hi).1;exact⟨h2,h3⟩
   refine⟨len,n',C,D,Pl,fun i hi=>⟨(hC2 i (by omega)).1,(hC i (by omega)).2⟩,⟨?_,some a,m,rfl,hl,hm,fun h0=> ?_⟩,fun hs=>⟨?_,fun i hi w hw=>hs w ?_⟩⟩
   · have e2:∀q,q≤m→((List.range q).flatMap C).length=q*k:=by
      intro q;induction q with
      | zero=>intro _;simp
      | succ q ih=>
        intro hq;rw [List.range_succ,List.flatMap_append,List.length_append,ih (by omega)];simp only [List.flatMap_cons,List.flatMap_nil,List.append_nil,(hC2 q (by omega)).1];rw [Nat.succ_mul]
     exact e2 len hl
   · obtain⟨ab,ao,spot⟩:=a
     have hspot:spot=none:=by
      have h1:=(hC2 0 (by omega)).2 0 hk0;rw [List.getElem?_eq_getElem (by rw [(hC2 0 (by omega)).1];exact hk0)] at h1;have:=World.cell?_spot h1
      simpa [Addr.add] using this
     subst hspot;refine⟨ab,ao,rfl,fun i hi=> ?_⟩
     have e2:∀q,q≤m→∀i,i<q*k→((List.range q).flatMap C)[i]? =(C (i / k))[i % k]? :=by
      intro q;induction q with
      | zero=>intro _ i hi;omega
      | succ q ih=>
        intro hq i hi
        have hlen:((List.range q).flatMap C).length=q*k:=by
         have e3:∀r,r≤m→((List.range r).flatMap C).length=r*k:=by
          intro r;induction r with
          | zero=>intro _;simp
          | succ r ihr=>
            intro hr;rw [List.range_succ,List.flatMap_append,List.length_append,ihr (by omega)];simp only [List.flatMap_cons,List.flatMap_nil,List.append_nil,(hC2 r (by omega)).1];rw [Nat.succ_mul]
         exact e3 q (by omega)
        rw [List.range_succ,List.flatMap_append];rcases Nat.lt_or_ge i (q*k) with h1 | h1
        · rw [List.getElem?_append_left (by rw [hlen];exact h1)]
          exact ih (by omega) i h1
        · rw [List.getElem?_append_right (by rw [hlen];exact h1),hlen]
          have h2:i<q*k+k:=by rw [Nat.succ_mul] at hi;exact hi
          have h3:i / k=q:=by
           have:q≤i / k:=(Nat.le_div_iff_mul_le hk0).2 h1
           have:i / k<q+1:=(Nat.div_lt_iff_lt_mul hk0).2 (by rw [Nat.succ_mul];exact h2)
           omega
          have h4:i % k=i-q*k:=by
           have:=Nat.div_add_mod i k
           rw [h3,Nat.mul_comm] at this;omega
          rw [h3,h4];simp
     rw [e2 len hl i hi];have hik:i / k<len:=(Nat.div_lt_iff_lt_mul hk0).2 hi;have h5:=(hC2 (i / k) (by omega)).2 (i % k) (Nat.mod_lt _ hk0);rw [List.getElem?_eq_getElem (by rw [(hC2 (i / k) (by omega)).1];exact Nat.mod_lt _ hk0)] at h5 ⊢;rw [add_add,Addr.add_lit,show i / k*k+i % k=i by rw [Nat.mul_comm];exact Nat.div_add_mod i k] at h5;exact heap_cell h5
   · subst hx
     have h2:=hs ((((List.range len).map D).length+((List.range (m-len)).map fun j=>D (len+j)).length)*Tryz.prog.bytesOf e:Nat) (by
      simp only [DataW.weights,ht]
      exact List.mem_cons_self)
     simp only [List.length_map,List.length_range] at h2;exact Nat.le_trans (Nat.mul_le_mul_right _ (by omega)) h2
   · subst hx
     simp only [DataW.weights,ht,List.mem_cons,List.mem_append];exact .inr (.inl (weights_all (l:=(List.range len).map D) (i:=i) (by simp [hi]) w hw))
instance:Inhabited ItemV:=⟨⟨[],[],0,0⟩⟩
instance:Inhabited PageV:=⟨⟨0,0,[],[],0⟩⟩
instance:Inhabited NumV:=⟨⟨0,default⟩⟩
def PageFits(g:PageV):Prop:=(∀y∈g.items,ItemFits y)∧U8 g.data∧(-9223372036854775808≤g.kind∧g.kind≤9223372036854775807)∧(-9223372036854775808≤g.level∧g.level≤9223372036854775807)∧(-9223372036854775808≤g.next∧g.next≤9223372036854775807)
def PageSized(g:PageV):Prop:=g.items.length*64≤reachBytes∧(∀y∈g.items,ItemSized y)∧g.data.length≤reachBytes
def PageCells(h:Hp)(cs:List Value)(g:PageV):Prop:= ∃vi vd,cs= [.int .i64 g.kind,.int .i64 g.level,vi,vd,.int .i64 g.next]∧ItemsIn h vi g.items∧Bytes h vd g.data
end
end Go.Proofs.YtkfjilnmnbeokaaGreat.X5
namespace Go.Proofs.YtkfjilnmnbeokaaGreat.Y5
open ChangeShapes WideShapes ChangeAt RowKit Sl Cop D2 D3 J3 V3 G2 J2 X3 Y3 P5 Q5 Z3
abbrev itemC(kv vv:Value)(c s:Int):Obj:= .cells #[kv,vv,.int .i64 c,.int .i64 s] 89
theorem infoItemS:(Tryz.prog.info? 89).map (·.size)=some 4:=by kernel_rfl
theorem pts4 {b T:Nat}{v0 v1 v2 v3:Value}{F:Pr}{w:World}(h:Sat ((Pr.pts b (.cells #[v0,v1,v2,v3] T)).star F) w):
 w.cell? ⟨b,0,none⟩=some v0∧w.cell? ⟨b,1,none⟩=some v1∧w.cell? ⟨b,2,none⟩=some v2∧w.cell? ⟨b,3,none⟩=some v3∧(w.frozen? ⟨b,0,none⟩=false∧w.frozen? ⟨b,1,none⟩=false∧w.frozen? ⟨b,2,none⟩=false∧w.frozen? ⟨b,3,none⟩=false)∧b<w.heap.size:=by
 have h1:=h.pts_heap;exact⟨by rw [cell_of_heap h1];rfl,by rw [cell_of_heap h1];rfl,by rw [cell_of_heap h1];rfl,by rw [cell_of_heap h1];rfl,⟨frozen_of_heap h1 0,frozen_of_heap h1 1,frozen_of_heap h1 2,frozen_of_heap h1 3⟩,h.lt⟩
structure ItsAt(hk:Hp)(xs:List (Value × Value))(l:List ItemV):Prop where
 len:xs.length=l.length
 at':∀i (hx:i<xs.length) (hl:i<l.length),Bytes hk xs[i].1 l[i].key∧Bytes hk xs[i].2 l[i].value
def ItRow(v:Value)(xs:List (Value × Value))(l:List ItemV):Pr:=Row 89 4 v l.length ((xs.zip l).flatMap itCells)
theorem ItsAt.snoc {hk h':Hp}(hd:hk.dis h'){xs:List (Value × Value)}{l:List ItemV}(ha:ItsAt hk xs l){kv vv:Value}{x:ItemV}(hx:ItemIn h' (itemV kv vv x.child x.size) x):ItsAt (hk.un h') (xs++ [(kv,vv)]) (l++ [x]):=by
 obtain⟨k',v',e,h1,h2⟩:=hx;simp only [itemV,Value.agg.injEq,Array.mk.injEq,List.cons.injEq,and_true] at e;obtain⟨rfl,rfl⟩:=e;have hl:=ha.len;refine⟨by simp [hl],fun i hi hj=> ?_⟩;rcases Nat.lt_or_ge i xs.length with hlt | hge
 · rw [List.getElem_append_left hlt,List.getElem_append_left (by omega)]
   obtain⟨y1,y2⟩:=ha.at' i hlt (by omega);exact⟨y1.sub (Hp.sub_un_left _ _),y2.sub (Hp.sub_un_left _ _)⟩
 · simp only [List.length_append,List.length_singleton] at hi
   have:i=xs.length:=by omega
   subst this;rw [List.getElem_append_right (Nat.le_refl _),List.getElem_append_right (by omega)];simp only [Nat.sub_self,hl,List.getElem_singleton];exact⟨h1.sub (Hp.sub_un_right hd),h2.sub (Hp.sub_un_right hd)⟩
theorem items_arena {v:Value}{hk:Hp}{xs:List (Value × Value)}{l:List ItemV}(ha:ItsAt hk xs l){F:Pr}{w:World}(h:Sat ((ItRow v xs l).star ((Pr.own hk).star F)) w):∃h',ItemsIn h' v l∧Sat ((Pr.own h').star F) w:=by
 rw [← Pr.star_assoc] at h;obtain⟨h',hq,hs⟩:=h.toOwn;obtain⟨a,b,hA,hB,s1,s2⟩:=star_sub hq;cases hB;exact⟨h',items_mk' xs ha.len ((Row.rowIn hA).sub s1) fun i hx hl=>⟨(ha.at' i hx hl).1.sub s2,(ha.at' i hx hl).2.sub s2⟩,hs⟩
abbrev pageC(k l:Int)(vi vd:Value)(nx:Int):Obj:= .cells #[.int .i64 k,.int .i64 l,vi,vd,.int .i64 nx] 74
theorem pts5 {b T:Nat}{v0 v1 v2 v3 v4:Value}{F:Pr}{w:World}(h:Sat ((Pr.pts b (.cells #[v0,v1,v2,v3,v4] T)).star F) w):
 w.cell? ⟨b,0,none⟩=some v0∧w.cell? ⟨b,1,none⟩=some v1∧w.cell? ⟨b,2,none⟩=some v2∧w.cell? ⟨b,3,none⟩=some v3∧w.cell? ⟨b,4,none⟩=some v4∧(w.frozen? ⟨b,0,none⟩=false∧w.frozen? ⟨b,1,none⟩=false∧w.frozen? ⟨b,2,none⟩=false∧w.frozen? ⟨b,3,none⟩=false∧w.frozen? ⟨b,4,none⟩=false)∧b<w.heap.size:=by
 have h1:=h.pts_heap;exact⟨by rw [cell_of_heap h1];rfl,by rw [cell_of_heap h1];rfl,by rw [cell_of_heap h1];rfl,by rw [cell_of_heap h1];rfl,by rw [cell_of_heap h1];rfl,⟨frozen_of_heap h1 0,frozen_of_heap h1 1,frozen_of_heap h1 2,frozen_of_heap h1 3,frozen_of_heap h1 4⟩,h.lt⟩
theorem page_arena {hi:Hp}{vi vd:Value}{g:PageV}(h1:ItemsIn hi vi g.items){F:Pr}{w:World}(h:Sat ((BytesRow vd g.data).star ((Pr.own hi).star F)) w):∃h',PageIn h' (pageV g.kind g.level vi vd g.next) g∧Sat ((Pr.own h').star F) w:=by
 rw [← Pr.star_assoc] at h;obtain⟨h',hq,hs⟩:=h.toOwn;obtain⟨a,b,hA,hB,s1,s2⟩:=star_sub hq;cases hB;exact⟨h',⟨vi,vd,rfl,h1.sub s2,(Row.rowIn hA).sub s1⟩,hs⟩
end Go.Proofs.YtkfjilnmnbeokaaGreat.Y5
namespace Go.Proofs.YtkfjilnmnbeokaaGreat.Z5
open ChangeShapes WideShapes ChangeAt RowKit Sl Cop D3 V3 G2 J2 N2 P2
def RangeIn(h:Hp)(v:Value)(r:RangeV):Prop:= ∃lo hi,v= .agg #[lo,hi,.bool r.op]∧Bytes h lo r.lo∧Bytes h hi r.hi
theorem RangeIn.sub {a b:Hp}(hs:a.sub b){v:Value}{r:RangeV}(h:RangeIn a v r):RangeIn b v r:=by
 obtain⟨lo,hi,e,h1,h2⟩:=h;exact⟨lo,hi,e,h1.sub hs,h2.sub hs⟩
theorem _root_.Go.Sl.Hp.le.only {h:Hp}{w w':World}(hle:h.le w)(ho:Only w w'):h.le w':=fun k o hk=>by
 have:=hle k o hk
 rw [ho.heap k (Array.getElem?_eq_some_iff.1 this).1];exact this
end Go.Proofs.YtkfjilnmnbeokaaGreat.Z5
namespace Go.Proofs.YtkfjilnmnbeokaaGreat.B6
open ChangeShapes WideShapes ChangeAt RowKit Sl Cop V5
end Go.Proofs.YtkfjilnmnbeokaaGreat.B6
