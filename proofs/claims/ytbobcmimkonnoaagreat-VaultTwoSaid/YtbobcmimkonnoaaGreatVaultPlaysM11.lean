/- (*Vault).back, where nothing stood on the pages before; the conditions stand as hypotheses. -/
import Derived.Test.YtbobcmimkonnoaaGreatVaultPlaysM10
import Derived.Maps.OwnIn
import Derived.Test.YtbobcmimkonnoaaGreatVaultPlaysM03
import Derived.Test.YtbobcmimkonnoaaGreatVaultPlaysM01
set_option maxRecDepth 100000
set_option maxHeartbeats 16000000
namespace Go.Sl
open Go.Maps
theorem wpListIn_del {Fn:Fence}{nF:Nat}{P:Program}{k:TypeId}{b:Nat}{f:Int→Option Value}{F:Pr}{w:World}{ops:Array Oper}{rest:List Oper}{o:Oper}{a:Act}{Q:Exit→Act→World→Prop}(hgd:o.guard=none)(m x:Operand)(t:TypeId)
 (hop:o.op= .call { callee:= .builtin .delete,args:= #[m,x],argTypes:= #[t,k] })
 (hk:P.underlying k=some (.int .i64)) {e:TypeId} (ht:P.underlying t=some (.map k e)) (n:Int) (hn:1≤n∧n≤65536)
 (hm:a.eval m= .map (some b)) (hx:a.eval x= .int .i64 n) (h:Sat ((MapA P k b f).star F) w)
 (hK:∀w',Sat ((MapA P k b (fun m=>if m=n then none else f m)).star F) w'→w.grownBy w' (some b)→wpListIn Fn nF P ops Q rest (a.put o.dst (.tuple #[])) w'):wpListIn Fn nF P ops Q (o :: rest) a w:=by
 refine wpListIn_plain hgd fun K' hK'=> ?_
 obtain⟨w',hrun,h1,h2⟩:=map_del (ty:=o.type) hk ht hn h
 unfold Oper.wpIn
 refine⟨by simp [Oper.about,hop,resolve,Target.leads,Sem.run_pure],?_⟩
 rw [Oper.semAt_plain Fn _ _ (by rw [hop];intro c hc';cases hc')]
 simp [execOp,hop,resolve,invoke,builtin,hm,hx,hrun,Result.andThen]
 exact hK' _ _ (hK w' h1 h2)
end Go.Sl
namespace Go.Proofs.YtbobcmimkonnoaaGreat.X4
open ChangeShapes WideShapes ChangeAt RowKit Sl Cop Go.Shelf D2 K3 N3 S4 U4 Q3 G2 M2 U3 Y3 Z3 D4 E4 F4 V4
attribute [local go_sem] Oper.semAt_some
theorem backward_any(a:Option Addr)(n c:Nat)(w:World):Calls Tryz.prog 163 #[.slice a n c] w fun e w'=>
 e= .returned (.func (.func 169) #[] #[.pointer (some ⟨w.heap.size,0,none⟩)])∧w'=w.alloc (.cells #[.slice a n c] 156):=by
 go_enter Tryz.func163,Tryz.ntmps163
 go_wp2
 go_ret
 exact⟨rfl,rfl⟩
def struck(f:Int→Option Value)(l:List (Int × WasX)):Int→Option Value:=fun m=>if m∈l.map (fun x=>x.2.no) then none else f m
theorem backs_mem {ws:List WasX}{y:Int × WasX}(h:y∈backs ws):y.2∈ws:=by
 unfold backs at h
 rw [List.mem_reverse,List.mem_map] at h
 obtain⟨⟨X,i⟩,h1,rfl⟩:=h
 have:=(List.mem_zipIdx h1).2.2
 dsimp only at this ⊢
 rw [this]
 exact List.getElem_mem _
end Go.Proofs.YtbobcmimkonnoaaGreat.X4
namespace Go.Proofs.YtbobcmimkonnoaaGreat.Y4
open ChangeShapes WideShapes ChangeAt RowKit Sl Cop D2 K3 N3 Q3 G2 M2 U3 Y3 Z3 D4 E4 F4 V4 X4
end Go.Proofs.YtbobcmimkonnoaaGreat.Y4
namespace Go.Cop
def Bare(s:VaultS):Prop:= ∀n,s.pool.state n=1→s.on n=none
theorem Bare.make {s:VaultS}(h:Bare s){n:Int}(hn:s.pool.state n=1)(h0:s.pool.count n=0)(g:PageV):Bare (s.make n g):=by
 intro m hm
 have hs:=did_state (s:=s.pool) (b:=1) (m:=m) (there_of_state (by omega:s.pool.state n≠0))
 have hm':(s.pool.did n 1).state m=1:=hm
 rw [hm'] at hs
 by_cases hmn:m=n
 · rw [if_pos hmn,h0] at hs
   unfold stateOf at hs
   simp at hs
   split at hs<;>omega
 · rw [if_neg hmn] at hs
   show (if m=n then some g else s.on m)=none
   rw [if_neg hmn]
   exact h m hs.symm
end Go.Cop
namespace Go.Proofs.YtbobcmimkonnoaaGreat.Z4
open ChangeShapes WideShapes ChangeAt RowKit Sl Cop D2 K3 N3 Q3 G2 M2 U3 Y3 Z3 D4 E4 F4 V4 X4 J4
theorem row_cutk {T k n c m:Nat}{a:Option Addr}{xs:List Value}{F:Pr}{w:World}(h:Sat ((Row T k (.slice a n c) n xs).star F) w)(hm:m≤n):Sat ((Row T k (.slice a m c) m (xs.take (m*k))).star F) w:=by
 refine h.mono fun x hx=> ?_
 have hmk:m*k≤n*k:=Nat.mul_le_mul_right _ hm
 obtain⟨hl,(⟨e,hn,hx⟩ | ⟨b,cap,sp,e,h1,h2,h3,h4⟩)⟩:=hx
 · cases e
   have:m=0:=by omega
   subst this
   exact⟨by simp,.inl ⟨rfl,rfl,hx⟩⟩
 · cases e
   refine⟨by rw [List.length_take];omega,.inr ⟨b,c,xs.drop (m*k)++sp,rfl,by rw [List.length_take,List.length_append,List.length_drop];omega,by omega,h3,?_⟩⟩
   rw [← List.append_assoc,List.take_append_drop]
   exact h4
theorem actCells_snoc(l:List (Int × Value))(x:Int × Value):actCells (l++ [x])=actCells l++ [.int .i64 x.1,x.2]:=by
 unfold actCells;rw [List.flatMap_append];rfl
theorem actCells_len(l:List (Int × Value)):(actCells l).length=l.length*2:=by
 induction l with
 | nil=>rfl
 | cons a l ih=>simp only [actCells,List.flatMap_cons,List.length_append,List.length_cons] at ih ⊢;simp at ih ⊢;omega
theorem acts_unsnoc {h:Hp}{axs:List (Int × Value)}{acts:List ActV}{a:ActV}(ha:ActsIn2 h axs (acts++ [a])):∃axs' x,axs=axs'++ [x]∧ActsIn2 h axs' acts∧ActRel h x a:=by
 have hl:=ha.1
 rw [List.length_append] at hl
 have hne:axs≠ []:=fun e=>by rw [e] at hl;simp at hl
 obtain⟨axs',x,rfl⟩:∃axs' x,axs=axs'++ [x]:=⟨axs.dropLast,axs.getLast hne,(List.dropLast_concat_getLast hne).symm⟩
 have hl2:axs'.length=acts.length:=by simpa using hl
 refine⟨axs',x,rfl,⟨hl2,fun i h1 h2=> ?_⟩,?_⟩
 · have:=ha.2 i (by simp;omega) (by simp;omega)
   rw [List.getElem_append_left h1,List.getElem_append_left h2] at this
   exact this
 · have:=ha.2 acts.length (by simp;omega) (by simp)
   rw [List.getElem_append_right (by omega),List.getElem_append_right (Nat.le_refl _)] at this
   simpa [hl2] using this
end Go.Proofs.YtbobcmimkonnoaaGreat.Z4
namespace Go.Cop
end Go.Cop
namespace Go.Proofs.YtbobcmimkonnoaaGreat.B5
open ChangeShapes WideShapes ChangeAt RowKit Sl Cop D2 K3 N3 Q3 G2 M2 U3 Y3 Z3 D4 E4 F4 Y4 Z4 J4
abbrev zeroItem:Value:= .agg #[.slice none 0 0,.slice none 0 0,.int .i64 0,.int .i64 0]
end Go.Proofs.YtbobcmimkonnoaaGreat.B5
namespace Go.Proofs.YtbobcmimkonnoaaGreat.D5
open ChangeShapes WideShapes ChangeAt RowKit Sl Cop D2 K3 N3 Q3 G2 M2 U3 Y3 Z3 D4 E4 F4 J4 B5
end Go.Proofs.YtbobcmimkonnoaaGreat.D5
namespace Go.Cop
def kidsB(next:Int):List Int:=if next=0 then [] else [next]
end Go.Cop
namespace Go.Proofs.YtbobcmimkonnoaaGreat.E5
open ChangeShapes WideShapes ChangeAt RowKit Sl Cop D2 K3 N3 Q3 G2 M2 U3 Y3
end Go.Proofs.YtbobcmimkonnoaaGreat.E5
namespace Go.Cop
def VaultS.freed(s:VaultS)(n:Int):VaultS:= { s with pool:=s.pool.did n (-1),on:=fun m=>if m=n then none else s.on m }
end Go.Cop
namespace Go.Proofs.YtbobcmimkonnoaaGreat.F5
open ChangeShapes WideShapes ChangeAt RowKit Sl Cop D2 K3 N3 Q3 G2 M2 U3 Y3 Z3 D4
theorem onIn_del {h:Hp}{f:Int→Option Value}{on:Int→Option PageV}(hO:OnIn h f on)(n:Int):OnIn h (fun m=>if m=n then none else f m) (fun m=>if m=n then none else on m):=by
 intro m
 dsimp only
 by_cases hm:m=n
 · simp only [hm,if_true]
 · simp only [hm,if_false];exact hO m
theorem was_snoc {h:Hp}{ws:List WasX}{was:List (Int × Option PageV)}(hw:WasIn h ws was){X:WasX}{y:Int × Option PageV}(hr:WasRel h X y):WasIn h (ws++ [X]) (was++ [y]):=by
 refine⟨by simp [hw.1],fun i h1 h2=> ?_⟩
 rcases Nat.lt_or_ge i was.length with hlt | hge
 · have hx:i<ws.length:=by rw [hw.1];exact hlt
   rw [List.getElem_append_left hx,List.getElem_append_left hlt]
   exact hw.2 i hx hlt
 · have h3:i=was.length:=by simp at h2;omega
   subst h3
   have hx:ws.length≤was.length:=by rw [hw.1];omega
   rw [List.getElem_append_right hx,List.getElem_append_right hge]
   simpa using hr
theorem pool_state(p:Nat)(s:PoolS)(n:Int)(F:Pr)(w:World)(hF:Sat ((PoolA p s).star F) w):
 Calls Tryz.prog 47 #[.pointer (some ⟨p,0,none⟩),.int .i64 n] w fun e w'=>e= .returned (.int .i64 (s.state n))∧w=w':=
 state_any p n w s (poolA_rd hF).2.1
theorem free_A(v:Nat)(s:VaultS)(ab:Nat)(mark:Int)(was:List (Int × Option PageV))(n:Int)(hn:1≤n∧n≤65536)(hs:s.pool.state n=1)(hl:was.length≤65536)(F:Pr)(w:World)
 (hF:Sat ((VMA v s ab mark was).star F) w):
 Calls Tryz.prog 155 #[.pointer (some ⟨v,0,none⟩),.pointer (some ⟨ab,0,none⟩),.int .i64 n] w fun e w'=>
  e= .returned (.tuple #[])∧Sat ((VMA v { s with on:=fun m=>if m=n then none else s.on m } ab mark (was++ [(n,s.on n)])).star F) w'∧Stays w w':=by
 obtain⟨x,wv,ws,ok,hws,hF⟩:=vma_iff.1 hF
 have h1:Sat ((PoolA x.p s.pool).star ((Pr.pts v (.cells #[.pointer (some ⟨x.p,0,none⟩),.map (some x.mb),x.av,.int .i64 s.floor] 71)).star
  ((((MapA Tryz.prog 3 x.mb x.f).star ((Row 158 2 x.av s.acts.length (actCells x.axs)).star (Pr.own x.h)))).star (((Pr.pts ab (.cells #[.int .i64 mark,wv] 158)).star (Row 172 7 wv ws.length (ws.flatMap WasX.cells))).star F)))) w:=hF.perm (by unfold VMAt VaultAt;ac_rfl)
 have qv:w.cell? ⟨v,0,none⟩=some (.pointer (some ⟨x.p,0,none⟩)):=by rw [cell_of_heap h1.right.pts_heap];rfl
 have P:=pool_state x.p s.pool n _ w h1
 rw [hs] at P
 have HP:=hQ P
 have N:=hQ (note_at v s x ab mark wv ws n hn ok.on (by rw [hws.1];exact hl) F w hF)
 clear h1 P hF
 go_enter Tryz.func155,Tryz.ntmps155
 go_wp2_with fail
 refine HP.out.mono ?_
 rintro e w1 ⟨rfl,rfl⟩
 go_wp2_with fail
 refine N.out.mono ?_
 rintro e w1 ⟨rfl,⟨wv',X,hX,h4⟩,hst⟩
 have h5:Sat ((MapA Tryz.prog 3 x.mb x.f).star ((Pr.pts v (.cells #[.pointer (some ⟨x.p,0,none⟩),.map (some x.mb),x.av,.int .i64 s.floor] 71)).star
  (((PoolA x.p s.pool).star ((Row 158 2 x.av s.acts.length (actCells x.axs)).star (Pr.own x.h))).star (((Pr.pts ab (.cells #[.int .i64 mark,wv'] 158)).star (Row 172 7 wv' (ws++ [X]).length ((ws++ [X]).flatMap WasX.cells))).star F)))) w1:=h4.perm (by unfold VMAt VaultAt;ac_rfl)
 have q1:w1.cell? ⟨v,1,none⟩=some (.map (some x.mb)):=by rw [cell_of_heap h5.right.pts_heap];rfl
 have H5:=hQ h5
 clear h5 h4 qv N HP
 go_wp2_with (refine wpList_del rfl _ _ _ rfl Tryz.underlying3 Tryz.underlying68 n hn rfl rfl H5.out ?_;intro w2 hs2 hg2;have HS2:=hQ hs2;have HG2:=hQ hg2;clear hs2 hg2)
 trace_state
 first | refine bodyPost_ret (results_none rfl _ _ _) rfl ?_ | go_end0
 refine⟨rfl,vma_iff.2 ⟨{ x with f:=fun m=>if m=n then none else x.f m },wv',ws++ [X],⟨onIn_del ok.on n,ok.acts,ok.f0,ok.fb⟩,was_snoc hws hX,?_⟩,hst.of_grown HG2.out⟩
 exact HS2.out.perm (by unfold VMAt VaultAt;dsimp only;ac_rfl)
end Go.Proofs.YtbobcmimkonnoaaGreat.F5
namespace Go.Cop
def VaultS.freedAll(s:VaultS):List Int→VaultS
 | []=>s
 | n :: ns=>(s.freed n).freedAll ns
end Go.Cop
namespace Go.Proofs.YtbobcmimkonnoaaGreat.G5
open ChangeShapes WideShapes ChangeAt RowKit Sl Cop D2 K3 N3 Q3 G2 M2 U3 Y3 Z3 D4 E5 F5
end Go.Proofs.YtbobcmimkonnoaaGreat.G5
namespace Go.Cop
def pagesV(V:List Int):Nat:=if V.length≤32 then 0 else chunks V
theorem chain_counts {s:VaultS}{V:List Int}:∀ {k j:Nat} {c:Int} {ns:List Int},ChainAt s V k j c ns→∀n∈ns,s.pool.count n=1:=by
 intro k
 induction k with
 | zero=>intro j c ns h;rw [h.2];simp
 | succ k ih=>
   intro j c ns h n hn
   obtain⟨c',ns',rfl,_,h3,_,h5⟩:=h
   rcases List.mem_cons.1 hn with rfl | hn
   · exact h3
   · exact ih h5 n hn
theorem chain_taken {s s':VaultS}{V:List Int}{k j:Nat}{c:Int}{ns ns':List Int}(h:ChainAt s V k j c ns)(ok:PoolOk s.pool)(ht:Taken s s' ns'):ChainAt s' V k j c ns:=by
 refine chain_keep (fun n hn=> ?_) h
 have h1:=chain_counts h n hn
 exact ht.same n (fun hm=>by have:=count_of_free ok (ht.free n hm);omega)
end Go.Cop
namespace Go.Proofs.YtbobcmimkonnoaaGreat.J5
open ChangeShapes WideShapes ChangeAt RowKit Sl Cop D2 K3 N3 Q3 G2 M2 U3 Y3 Z3 D4 E4 F4 Z4 J4 K4 L4 B5 D5 N2
def StoredAt(s:VaultS)(h:Hp)(kv vv:Value)(c:Int)(V:List Int):Prop:=
 IsSl kv∧IsSl vv∧((V.length≤32∧Bytes h vv V)∨((32<V.length∧V.length≤3840)∧vv= .slice none 0 0∧∃ns,ChainAt s V (chunks V) 0 c ns))
theorem StoredAt.sub {s:VaultS}{h h':Hp}{kv vv:Value}{c:Int}{V:List Int}(hs:h.sub h')(x:StoredAt s h kv vv c V):StoredAt s h' kv vv c V:=
 ⟨x.1,x.2.1,x.2.2.imp (fun y=>⟨y.1,y.2.sub hs⟩) id⟩
theorem StoredAt.taken {s s':VaultS}{h:Hp}{kv vv:Value}{c:Int}{V:List Int}{ns:List Int}(ok:PoolOk s.pool)(ht:Taken s s' ns)(x:StoredAt s h kv vv c V):StoredAt s' h kv vv c V:=
 ⟨x.1,x.2.1,x.2.2.imp id (fun⟨y1,y2,m,y3⟩=>⟨y1,y2,m,chain_taken y3 ok ht⟩)⟩
end Go.Proofs.YtbobcmimkonnoaaGreat.J5
namespace Go.Cop
end Go.Cop
namespace Go.Proofs.YtbobcmimkonnoaaGreat.K5
open ChangeShapes WideShapes ChangeAt RowKit Sl Cop D2 K3 N3 Q3 G2 M2 U3 Y3 Z3 D4 E4 E5 F5 G5 J5
def nsOf(s:VaultS)(c:Int)(V:List Int)(ns:List Int):Prop:=(V.length≤32∧ns= [])∨((32<V.length∧V.length≤3840)∧ChainAt s V (chunks V) 0 c ns)
end Go.Proofs.YtbobcmimkonnoaaGreat.K5
