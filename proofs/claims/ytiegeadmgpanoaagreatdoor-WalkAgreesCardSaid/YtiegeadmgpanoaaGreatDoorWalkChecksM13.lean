/- The vault: put, Make's closure, do; the conditions stand as hypotheses. -/
import Derived.Test.YtiegeadmgpanoaaGreatDoorWalkChecksM09
import Derived.Test.YtiegeadmgpanoaaGreatDoorWalkChecksM10
import Derived.Defers
import Derived.Test.YtiegeadmgpanoaaGreatDoorWalkChecksM07
import Derived.Maps.OwnIn
import Derived.Lib.SmallJoins
import Derived.Deep.Slices
import Derived.WideKeyArgs
import Derived.Test.YtiegeadmgpanoaaGreatDoorWalkChecksM05
import Derived.Test.YtiegeadmgpanoaaGreatDoorWalkChecksM01
set_option maxRecDepth 100000
set_option maxHeartbeats 16000000
namespace Go.Proofs.YtiegeadmgpanoaaGreatDoor.C4
open ChangeShapes WideShapes ChangeAt RowKit Sl Cop D2 F3 K3 P3 G2 J2 Q3 V3
theorem page_shape {h:Hp}{pv:Value}{g:PageV}(hg:PageIn h pv g):∃pk pl ai mi ci ad md cd nx,pv=pageV pk pl (.slice ai mi ci) (.slice ad md cd) nx:=by
 obtain⟨vi,vd,e3,e4,e5⟩:=id hg;obtain⟨xs,_,⟨_,ai,ci,e6,_⟩,_⟩:=id e4;obtain⟨_,ad,cd,e7,_⟩:=id e5;subst e6;subst e7;exact⟨_,_,ai,_,ci,ad,_,cd,_,e3⟩
theorem put_at(v:Nat)(s:VaultS)(x:VX)(ab:Nat)(mark:Int)(wv:Value)(ws:List WasX)(n:Int)(hn:1≤n∧n≤65536)(pv:Value)(g:PageV)(hg:PageIn x.h pv g)(hO:OnIn x.h x.f s.on)(hl:ws.length≤65536)(F:Pr)(w:World)
 (hF:Sat ((VMAt v s x ab mark wv ws).star F) w):
 Calls Tryz.prog 72 #[.pointer (some ⟨v,0,none⟩),.pointer (some ⟨ab,0,none⟩),.int .i64 n,pv] w fun e w'=>
  e= .returned (.tuple #[])∧(∃wv' X,WasRel x.h X (n,s.on n)∧Sat ((VMAt v s { x with f:=fun m=>if m=n then some pv else x.f m } ab mark wv' (ws++ [X])).star F) w')∧Stays w w':=by
 obtain⟨pk,pl,ai,mi,ci,ad,md,cd,nx,rfl⟩:=page_shape hg;have h2:=hF.alloc (.cells #[.int .i64 pk,.int .i64 pl,.slice ai mi ci,.slice ad md cd,.int .i64 nx] 83);have h3:=h2.perm (B:=(VMAt v s x ab mark wv ws).star ((Pr.pts w.heap.size (.cells #[.int .i64 pk,.int .i64 pl,.slice ai mi ci,.slice ad md cd,.int .i64 nx] 83)).star F)) (by ac_rfl);have C:=hQ (note_at v s x ab mark wv ws n hn hO hl _ _ h3)
 clear h2 h3 hF hO;go_enter Tryz.func72,Tryz.ntmps72
 go_wp2_with fail
 refine C.out.mono ?_;rintro e w1 ⟨rfl,⟨wv',X,hX,h4⟩,hst⟩
 have h5:Sat ((MapA Tryz.prog 3 x.mb x.f).star ((Pr.pts v (.cells #[.pointer (some ⟨x.p,0,none⟩),.map (some x.mb),x.av,.int .i64 s.floor] 108)).star ((Pr.pts w.heap.size (.cells #[.int .i64 pk,.int .i64 pl,.slice ai mi ci,.slice ad md cd,.int .i64 nx] 83)).star
  (((PoolA x.p s.pool).star ((Row 169 2 x.av s.acts.length (actCells x.axs)).star (Pr.own x.h))).star (((Pr.pts ab (.cells #[.int .i64 mark,wv'] 169)).star (Row 194 7 wv' (ws++ [X]).length ((ws++ [X]).flatMap WasX.cells))).star F))))) w1:=h4.perm (by unfold VMAt VaultAt;ac_rfl)
 have q1:w1.cell? ⟨v,1,none⟩=some (.map (some x.mb)):=by rw [cell_of_heap h5.right.pts_heap];rfl
 have hb:=h5.right.right.pts_heap;have p0:w1.cell? ⟨w.heap.size,0,none⟩=some (.int .i64 pk):=by rw [cell_of_heap hb];rfl
 have p1:w1.cell? ⟨w.heap.size,1,none⟩=some (.int .i64 pl):=by rw [cell_of_heap hb];rfl
 have p2:w1.cell? ⟨w.heap.size,2,none⟩=some (.slice ai mi ci):=by rw [cell_of_heap hb];rfl
 have p3:w1.cell? ⟨w.heap.size,3,none⟩=some (.slice ad md cd):=by rw [cell_of_heap hb];rfl
 have p4:w1.cell? ⟨w.heap.size,4,none⟩=some (.int .i64 nx):=by rw [cell_of_heap hb];rfl
 have H5:=hQ h5;have HX:=hQ hX;have HST:=hQ (((Stays.refl w).alloc _).trans hst);clear h5 h4 hb hX hst C;go_wp2;refine wS 18 [0,1,2,3,4,5] [(6,[],[])] ?_;iterate 6 (refine wpQ_step rfl rfl (fun K hK=> ?_);go_simp;refine hK _ ?_;clear hK K)
 refine wpQ_nil ?_;refine wpRest_act rfl ?_;refine wpList_put rfl _ _ _ _ rfl Tryz.underlying3 Tryz.underlying105 n hn _ rfl rfl rfl H5.out ?_;intro w2 hs2 hg2;have HS2:=hQ hs2;have HG:=hQ ((HST.out.drew).of_grown hg2);clear hs2 hg2;go_wp2;refine onN_mk (wpQ_nil ⟨chk_nil,wpRest_nil ?_⟩);go_wp2;first | refine bodyPost_ret (results_none rfl _ _ _) rfl ?_ | go_end0
 refine⟨rfl,⟨wv',X,HX.out,?_⟩,HG.out⟩;have h6:Sat ((Pr.pts w.heap.size (.cells #[.int .i64 pk,.int .i64 pl,.slice ai mi ci,.slice ad md cd,.int .i64 nx] 83)).star ((VMAt v s { x with f:=fun m=>if m=n then some (pageV pk pl (.slice ai mi ci) (.slice ad md cd) nx) else x.f m } ab mark wv' (ws++ [X])).star F)) w2:=HS2.out.perm (by unfold VMAt VaultAt;dsimp only;ac_rfl);exact h6.right
end Go.Proofs.YtiegeadmgpanoaaGreatDoor.C4
namespace Go.Cop
def VaultS.made(s:VaultS)(n:Int)(g:PageV):VaultS:= { s with pool:=s.pool.did n 1,on:=fun m=>if m=n then some g else s.on m }
end Go.Cop
namespace Go.Proofs.YtiegeadmgpanoaaGreatDoor.D4
open ChangeShapes WideShapes ChangeAt RowKit Sl Cop D2 F3 K3 P3 G2 J2 Q3 V3 C4
def VMA(v:Nat)(s:VaultS)(ab:Nat)(mark:Int)(was:List (Int × Option PageV)):Pr:=
 Pr.ex fun y:VX × Value × List WasX=>(Pr.pure (VOk s y.1∧WasIn y.1.h y.2.2 was)).star (VMAt v s y.1 ab mark y.2.1 y.2.2)
abbrev blobCells(vi vd:Value)(next:Int):Array Value:= #[.int .i64 3,.int .i64 0,vi,vd,.int .i64 next]
end Go.Proofs.YtiegeadmgpanoaaGreatDoor.D4
namespace Go.Cop
def VaultS.acted(s:VaultS)(a:ActV):VaultS:= { s with acts:=s.acts++ [a] }
end Go.Cop
namespace Go.Proofs.YtiegeadmgpanoaaGreatDoor.F4
open ChangeShapes WideShapes ChangeAt RowKit Sl Cop D2 F3 K3 P3 G2 J2 Q3 V3 C4 D4
end Go.Proofs.YtiegeadmgpanoaaGreatDoor.F4
namespace Go.Proofs.YtiegeadmgpanoaaGreatDoor.G4
open ChangeShapes WideShapes ChangeAt RowKit Sl Cop D2 F3 K3 P3 G2 J2 Q3 V3 C4 D4 F4
theorem results_cell_row_tmp {fn:Func}{p u:Tmp}{ty:TypeId}(h:fn.results= #[.cell p ty,.tmp u])(tmps:Array Value)(w:World)(g:Nat)(cs:Array Value)
 (hp:tmps.getD p undef= .pointer (some ⟨g,0,none⟩)) (hr:(loadVar ty ⟨g,0,none⟩).run Tryz.prog w= .ok (.agg cs) w):
 (results fn tmps).run Tryz.prog w= .ok (.tuple #[.agg cs,tmps.getD u undef]) w:=by
 rw [results_cell_tmp h,hp];simp [asAddr,Result.andThen,hr]
theorem read_none(v:Nat)(s:VaultS)(n:Int)(F:Pr)(w:World)(hF:Sat ((VaultA v s).star F) w)(h0:s.pool.count n=0):
 Calls Tryz.prog 45 #[.pointer (some ⟨v,0,none⟩),.int .i64 n] w fun e w'=>e= .returned (.tuple #[zeroPage,.int .i64 15])∧Only w w':=by
 obtain⟨x,ok,hF⟩:=vaultA_iff.1 hF;have ho:Only w (w.alloc (.cells #[.int .i64 0,.int .i64 0,.slice none 0 0,.slice none 0 0,.int .i64 0] 83)):=(Only.refl w).alloc _
 have h1:Sat ((PoolA x.p s.pool).star ((Pr.pts v (.cells #[.pointer (some ⟨x.p,0,none⟩),.map (some x.mb),x.av,.int .i64 s.floor] 108)).star
  ((((MapA Tryz.prog 3 x.mb x.f).star ((Row 169 2 x.av s.acts.length (actCells x.axs)).star (Pr.own x.h)))).star F))) w:=hF.perm (by unfold VaultAt;ac_rfl)
 have qv:w.cell? ⟨v,0,none⟩=some (.pointer (some ⟨x.p,0,none⟩)):=by rw [cell_of_heap h1.right.pts_heap];rfl
 have zv:=h1.right.lt;have hh:=heap_new w (.cells #[.int .i64 0,.int .i64 0,.slice none 0 0,.slice none 0 0,.int .i64 0] 83);have C:=hQ (count_A x.p s.pool n _ _ (h1.only ho));rw [h0] at C;have HH:=hQ hh;have HO:=hQ ho;clear h1 hF ok hh ho;go_enter Tryz.func45,Tryz.ntmps45
 go_wp2_with fail
 refine C.out.mono ?_;rintro e w1 ⟨rfl,rfl⟩;go_wp2;refine bodyPost_ret (results_cell_row_tmp rfl _ _ w.heap.size _ rfl (run_loadVar_row _ w.heap.size _ _ _ _ _ HH.out Tryz.underlying83 rfl infoPage)) rfl ?_;exact⟨rfl,HO.out⟩
theorem read_blob(v:Nat)(s:VaultS)(n:Int)(hn:1≤n∧n≤65536)(d:List Int)(next:Int)(hd:d.length≤65536)(F:Pr)(w:World)(hF:Sat ((VaultA v s).star F) w)(h0:s.pool.count n≠0)(hon:s.on n=some (blobV d next)):
 Calls Tryz.prog 45 #[.pointer (some ⟨v,0,none⟩),.int .i64 n] w fun e w'=>
  Stays w w'∧∃pv,e= .returned (.tuple #[pv,.int .i64 0])∧∃h',PageIn h' pv (blobV d next)∧Sat ((Pr.own h').star ((VaultA v s).star F)) w':=by
 obtain⟨x,ok,hF⟩:=vaultA_iff.1 hF;have ho:Only w (w.alloc (.cells #[.int .i64 0,.int .i64 0,.slice none 0 0,.slice none 0 0,.int .i64 0] 83)):=(Only.refl w).alloc _
 have h1:Sat ((PoolA x.p s.pool).star ((Pr.pts v (.cells #[.pointer (some ⟨x.p,0,none⟩),.map (some x.mb),x.av,.int .i64 s.floor] 108)).star
  ((((MapA Tryz.prog 3 x.mb x.f).star ((Row 169 2 x.av s.acts.length (actCells x.axs)).star (Pr.own x.h)))).star F))) w:=hF.perm (by unfold VaultAt;ac_rfl)
 have qv:w.cell? ⟨v,0,none⟩=some (.pointer (some ⟨x.p,0,none⟩)):=by rw [cell_of_heap h1.right.pts_heap];rfl
 have qm:w.cell? ⟨v,1,none⟩=some (.map (some x.mb)):=by rw [cell_of_heap h1.right.pts_heap];rfl
 have zv:=h1.right.lt;have C:=hQ (count_A x.p s.pool n _ _ (h1.only ho));have hm:=(h1.only ho).perm (B:=(MapA Tryz.prog 3 x.mb x.f).star ((PoolA x.p s.pool).star ((Pr.pts v (.cells #[.pointer (some ⟨x.p,0,none⟩),.map (some x.mb),x.av,.int .i64 s.floor] 108)).star ((Row 169 2 x.av s.acts.length (actCells x.axs)).star ((Pr.own x.h).star F))))) (by ac_rfl);have hO:=ok.on n;rw [hon] at hO
 obtain⟨pv,hf,hpv⟩:=hO;have hne:(s.pool.count n == 0)=false:=by rw [beq_eq_false_iff_ne];exact h0
 have h2:=hF.alloc (.cells #[.int .i64 0,.int .i64 0,.slice none 0 0,.slice none 0 0,.int .i64 0] 83)
 have D:=hQ (copied_blob x.h pv d next hd hpv _ _ h2 (hm.perm (B:=(Pr.own x.h).star ((MapA Tryz.prog 3 x.mb x.f).star ((PoolA x.p s.pool).star ((Pr.pts v (.cells #[.pointer (some ⟨x.p,0,none⟩),.map (some x.mb),x.av,.int .i64 s.floor] 108)).star ((Row 169 2 x.av s.acts.length (actCells x.axs)).star F))))) (by ac_rfl)).own);have HM:=hQ hm;have HO:=hQ ho;have OK:=hQ ok;have HFN:=hQ hf
 clear h1 hF ok ho hm hf hpv h2;go_enter Tryz.func45,Tryz.ntmps45
 go_wp2_with fail
 refine C.out.mono ?_;rintro e w1 ⟨rfl,rfl⟩;generalize s.pool.count n=k at*;go_wp2_with (at_lookup;refine wpList_look rfl _ _ _ false rfl Tryz.underlying3 Tryz.underlying105 zeroPage (zero_page _) n hn rfl rfl HM.out ?_;rw [HFN.out])
 refine D.out.mono ?_;rintro e w1 ⟨pv2,rfl,⟨h',hp',h3⟩,hst⟩;obtain⟨pk,pl,ai,mi,ci,ad,md,cd,nx,rfl⟩:=page_shape hp';have h4:=h3.perm (B:=(Pr.pts w.heap.size (.cells #[.int .i64 0,.int .i64 0,.slice none 0 0,.slice none 0 0,.int .i64 0] 83)).star ((Pr.own h').star ((VaultAt v s x).star F))) (by ac_rfl);have f0:w1.cell? ⟨w.heap.size,0,none⟩=some (.int .i64 0):=by rw [cell_of_heap h4.pts_heap];rfl
 have f1:w1.cell? ⟨w.heap.size,1,none⟩=some (.int .i64 0):=by rw [cell_of_heap h4.pts_heap];rfl
 have f2:w1.cell? ⟨w.heap.size,2,none⟩=some (.slice none 0 0):=by rw [cell_of_heap h4.pts_heap];rfl
 have f3:w1.cell? ⟨w.heap.size,3,none⟩=some (.slice none 0 0):=by rw [cell_of_heap h4.pts_heap];rfl
 have f4:w1.cell? ⟨w.heap.size,4,none⟩=some (.int .i64 0):=by rw [cell_of_heap h4.pts_heap];rfl
 have z0:=frozen_of_heap h4.pts_heap 0;have z1:=frozen_of_heap h4.pts_heap 1;have z2:=frozen_of_heap h4.pts_heap 2;have z3:=frozen_of_heap h4.pts_heap 3;have z4:=frozen_of_heap h4.pts_heap 4;have s6:=((((h4.setCell (i:=0) (.int .i64 pk)).setCell (i:=1) (.int .i64 pl)).setCell (i:=2) (.slice ai mi ci)).setCell (i:=3) (.slice ad md cd)).setCell (i:=4) (.int .i64 nx)
 have s7:Sat ((Pr.pts w.heap.size (.cells #[.int .i64 pk,.int .i64 pl,.slice ai mi ci,.slice ad md cd,.int .i64 nx] 83)).star ((Pr.own h').star ((VaultAt v s x).star F))) _:=s6;have S7:=hQ s7;have HST:=hQ (HO.out.st.trans hst);have HP:=hQ hp';clear h3 h4 s6 s7 hst hp' C D HM HFN;go_wp2
 refine bodyPost_ret (results_cell_row_tmp rfl _ _ w.heap.size _ rfl (run_loadVar_row _ w.heap.size _ _ _ _ _ S7.out.pts_heap Tryz.underlying83 rfl infoPage)) rfl ?_;exact⟨((((HST.out.setCell _ _).setCell _ _).setCell _ _).setCell _ _).setCell _ _,_,rfl,h',HP.out,(vaultA_iff.2 ⟨x,OK.out,S7.out.right.perm (Pr.left_comm _ _ _)⟩).perm (Pr.left_comm _ _ _)⟩
abbrev newV(refs:Int)(pages:Nat):VaultS:=⟨poolOf refs (List.replicate pages 0) 0,fun _=>none,[],0⟩
end Go.Proofs.YtiegeadmgpanoaaGreatDoor.G4
namespace Go.Cop
theorem lasts_of_free {s:PoolS}(ok:PoolOk s){n:Int}(h:s.state n=1):s.lasts n=false:=by
 have h0:=count_of_free ok h;rw [state_there (there_of_state (by omega)),h0] at h;cases hl:s.lasts n with
 | false=>rfl
 | true=>rw [hl] at h;simp [stateOf] at h
theorem did_many {s:PoolS}(ok:PoolOk s){n:Int}(h:s.state n=1):(s.did n 1).many 1+1=s.many 1:=by
 have h0:=count_of_free ok h;have h1:=lasts_of_free ok h;have ht:=there_of_state (by omega:s.state n≠0);have:=turn_many ok (b:=1) ht 1
 rw [h,h0,h1] at this;show (s.turn n 1).many 1+1=_
 simpa [stateOf] using this
def VaultS.make(s:VaultS)(n:Int)(g:PageV):VaultS:=(s.made n g).acted ⟨s.pool.mark,[(n,s.on n)]⟩
inductive Steps : VaultS → VaultS → Prop where
  | refl (s : VaultS) : Steps s s
  | step {s t : VaultS} (n : Int) (g : PageV) : Steps s t → t.pool.state n = 1 → t.pool.count n = 0 → Steps s (t.make n g)
structure Taken(s s':VaultS)(ns:List Int):Prop where
 desc:ns.Pairwise (fun a b=>b<a)
 free:∀n∈ns,s.pool.state n=1
 cnt:∀n∈ns,s'.pool.count n=1
 same:∀n,n ∉ ns→s'.pool.count n=s.pool.count n∧s'.on n=s.on n
 low:∀m,s'.pool.state m=1→∀n∈ns,n<m
 last:s'.pool.last=s.pool.last
 refs:s'.pool.refs=s.pool.refs
 len:s'.pool.counts.length=s.pool.counts.length
 many:s'.pool.many 1+ns.length=s.pool.many 1
 pf:s'.pool.floor=s.pool.floor
 pa:s'.pool.acts.length=s.pool.acts.length+ns.length
 vf:s'.floor=s.floor
 va:s'.acts.length=s.acts.length+ns.length
 steps:Steps s s'
theorem Taken.refl(s:VaultS):Taken s s []:=
 ⟨List.Pairwise.nil,by simp,by simp,fun _ _=>⟨rfl,rfl⟩,by simp,rfl,rfl,rfl,rfl,rfl,rfl,rfl,rfl,.refl s⟩
theorem Taken.step {s t:VaultS}{ns:List Int}(h:Taken s t ns)(ok:PoolOk t.pool){n:Int}(hn:t.pool.state n=1)(hle:∀m,t.pool.state m=1→n≤m)(g:PageV):Taken s (t.make n g) (n :: ns):=by
 have ht:=there_of_state (by omega:t.pool.state n≠0);have h0:=count_of_free ok hn;have hni:n ∉ ns:=fun hm=>by have:=h.cnt n hm;omega
 have hcnt:∀m,(t.make n g).pool.count m=if m=n then 1 else t.pool.count m:=fun m=>by
  have:=did_count (s:=t.pool) (b:=1) (m:=m) ht
  rw [h0] at this;exact this
 refine⟨List.pairwise_cons.2 ⟨fun m hm=>h.low n hn m hm,h.desc⟩,?_,?_,?_,?_,h.last,h.refs,?_,?_,h.pf,?_,h.vf,?_,.step n g h.steps hn h0⟩
 · intro m hm
   rcases List.mem_cons.1 hm with rfl | hm
   · have hs:=(h.same m hni).1
     have hts:s.pool.there m:=⟨ht.1,by have:=ht.2;have:=h.len;omega⟩;have e1:s.pool.lasts m=t.pool.lasts m:=by unfold PoolS.lasts;rw [h.last]
     rw [state_there hts,e1, ← hs, ← state_there ht];exact hn
   · exact h.free m hm
 · intro m hm
   rw [hcnt];rcases List.mem_cons.1 hm with rfl | hm
   · rw [if_pos rfl]
   · split
     · rfl
     · exact h.cnt m hm
 · intro m hm
   have hm1:m≠n:=fun e=>hm (by rw [e];simp)
   have hm2:m ∉ ns:=fun e=>hm (by simp [e])
   rw [hcnt,if_neg hm1];refine⟨(h.same m hm2).1,?_⟩;show (if m=n then some g else t.on m)=_
   rw [if_neg hm1];exact(h.same m hm2).2
 · intro m hm k hk
   have hs:=did_state (s:=t.pool) (b:=1) (m:=m) ht;have hm':(t.pool.did n 1).state m=1:=hm;rw [hm'] at hs;by_cases hmn:m=n
   · rw [if_pos hmn,h0] at hs
     unfold stateOf at hs;simp at hs
     split at hs<;>omega
   · rw [if_neg hmn] at hs
     rcases List.mem_cons.1 hk with rfl | hk
     · have:=hle m hs.symm;omega
     · exact h.low m hs.symm k hk
 · show (t.pool.counts.set _ _).length=_
   rw [List.length_set];exact h.len
 · have h1:=did_many ok hn
   have h2:=h.many;show (t.pool.did n 1).many 1+(ns.length+1)=_
   omega
 · show (t.pool.acts++ [_]).length=_
   rw [List.length_append,h.pa];simp only [List.length_cons,List.length_nil];omega
 · show (t.acts++ [_]).length=_
   rw [List.length_append,h.va];simp only [List.length_cons,List.length_nil];omega
def chunk(V:List Int)(j:Nat):List Int:=(V.drop (480*j)).take 480
def chunks(V:List Int):Nat:=(V.length+479) / 480
theorem chunk_len(V:List Int)(j:Nat):(chunk V j).length=min 480 (V.length-480*j):=by simp [chunk]
def ChainAt(s:VaultS)(V:List Int):Nat→Nat→Int→List Int→Prop
 | 0,_,c,ns=>c=0∧ns= []
 | k+1,j,c,ns=> ∃c' ns',ns=c :: ns'∧(1≤c∧c≤65536)∧s.pool.count c=1∧s.on c=some (blobV (chunk V j) c')∧ChainAt s V k (j+1) c' ns'
theorem chain_keep {s s':VaultS}{V:List Int}:∀ {k j:Nat} {c:Int} {ns:List Int},(∀n∈ns,s'.pool.count n=s.pool.count n∧s'.on n=s.on n)→ChainAt s V k j c ns→ChainAt s' V k j c ns:=by
 intro k;induction k with
 | zero=>intro j c ns _ h;exact h
 | succ k ih=>
   intro j c ns hk h;obtain⟨c',ns',rfl,h2,h3,h4,h5⟩:=h;have h1:=hk c (by simp);exact⟨c',ns',rfl,h2,h1.1.trans h3,h1.2.trans h4,ih (fun n hn=>hk n (by simp [hn])) h5⟩
end Go.Cop
namespace Go.Cop
def heldL(cs:List Int):List Int:=((List.range cs.length).filter fun i=>decide (cs.getD i 0≠0)).map fun i:Nat=>(i:Int)+1
theorem held_nodup(cs:List Int):(heldL cs).Nodup:=by
 unfold heldL;rw [List.nodup_iff_pairwise_ne,List.pairwise_map];refine(List.Pairwise.filter _ List.nodup_range).imp fun {a b} h e=>h (by omega)
theorem held_mem {cs:List Int}{n:Int}:n∈heldL cs↔cntL cs n≠0:=by
 unfold heldL cntL;rw [List.mem_map];constructor
 · rintro⟨i,hi,rfl⟩
   rw [List.mem_filter,List.mem_range] at hi;rw [if_pos (by omega),show ((i:Int)+1).toNat-1=i by omega];simpa using hi.2
 · intro h
   split at h
   · rename_i hb
     refine⟨n.toNat-1,?_,by omega⟩;rw [List.mem_filter,List.mem_range];exact⟨by omega,by simpa using h⟩
   · exact absurd rfl h
theorem list_range(cs:List Int):(List.range cs.length).map (fun i=>cs.getD i 0)=cs:=by
 refine List.ext_getElem (by simp) fun i h1 h2=> ?_
 simp [List.getD_eq_getElem?_getD,h2]
theorem held_len {cs:List Int}(h0:∀c∈cs,0≤c):(heldL cs).length=(cs.filter fun c=>stateOf c (decide (0<c)) == 4).length:=by
 have e:(cs.filter fun c=>stateOf c (decide (0<c)) == 4)=cs.filter fun c=>decide (c≠0):=by
  refine List.filter_congr fun c hc=> ?_
  have:=h0 c hc
  unfold stateOf;by_cases hp:0<c
  · rw [decide_eq_true hp];simp [hp];omega
  · have:c=0:=by omega
    subst this;rfl
 rw [e];conv=>rhs;rw [← list_range cs,List.filter_map]
 unfold heldL;rw [List.length_map,List.length_map];rfl
theorem lacks_iff {cs:List Int}{on:Int→Option PageV}:lacks cs on=true↔∃x∈heldL cs,on x=none:=by
 unfold lacks;rw [List.any_eq_true];constructor
 · rintro⟨i,hi,h⟩
   simp only [Bool.and_eq_true,decide_eq_true_eq] at h;rw [List.mem_range] at hi;refine⟨(i:Int)+1,held_mem.2 ?_,by simpa using h.2⟩;unfold cntL;rw [if_pos (by omega),show ((i:Int)+1).toNat-1=i by omega];exact h.1
 · rintro⟨x,hx,hn⟩
   have hc:=held_mem.1 hx;obtain⟨b1,b2⟩:=cntL_bd hc;refine⟨x.toNat-1,List.mem_range.2 (by omega),?_⟩;unfold cntL at hc;rw [if_pos ⟨b1,b2⟩] at hc;have e:(((x.toNat-1:Nat):Int))+1=x:=by omega
   simp only [Bool.and_eq_true,decide_eq_true_eq,e,hn];exact⟨hc,rfl⟩
theorem count_poolOf(refs:Int)(cs:List Int)(n:Int):({ refs:=refs,counts:=cs,last:=lastsOf cs,acts:= [],floor:=0 }:PoolS).count n=cntL cs n:=by
 unfold PoolS.count cntL PoolS.there;rfl
end Go.Cop
namespace Go.Proofs.YtiegeadmgpanoaaGreatDoor.J4
open ChangeShapes WideShapes ChangeAt RowKit Sl Cop G2 J2 Q3 L3 P3 X3 V3
def numCells(x:(Value × Value) × NumV):List Value:= [.int .i64 x.2.no,.int .i64 x.2.page.kind,.int .i64 x.2.page.level,x.1.1,x.1.2,.int .i64 x.2.page.next]
def NumsIn(h:Hp)(v:Value)(l:List NumV):Prop:=
 ∃xs:List (Value × Value),xs.length=l.length∧RowIn h 6 v l.length ((xs.zip l).flatMap numCells)∧
  ∀i (hx:i<xs.length) (hl:i<l.length),ItemsIn h xs[i].1 l[i].page.items∧Bytes h xs[i].2 l[i].page.data
theorem nums_rd {h:Hp}{v:Value}{l:List NumV}(hi:NumsIn h v l):∃a c,v= .slice a l.length c∧∀i (hl:i<l.length),∃b off ai ci ad cd,a=some ⟨b,off,none⟩∧
 PageIn h (pageV l[i].page.kind l[i].page.level (.slice ai l[i].page.items.length ci) (.slice ad l[i].page.data.length cd) l[i].page.next) l[i].page∧
 ∀w,h.le w→w.cell? ⟨b,off+i*6,none⟩=some (.int .i64 l[i].no)∧w.cell? ⟨b,off+i*6+1,none⟩=some (.int .i64 l[i].page.kind)∧w.cell? ⟨b,off+i*6+2,none⟩=some (.int .i64 l[i].page.level)∧
  w.cell? ⟨b,off+i*6+3,none⟩=some (.slice ai l[i].page.items.length ci)∧w.cell? ⟨b,off+i*6+4,none⟩=some (.slice ad l[i].page.data.length cd)∧w.cell? ⟨b,off+i*6+5,none⟩=some (.int .i64 l[i].page.next):=by
 obtain⟨xs,hxl,⟨hlen,a,c,e,_,hcm,hc⟩,hb⟩:=hi;refine⟨a,c,e,fun i hl=> ?_⟩;obtain⟨b,off,ea,hcell⟩:=hc (by omega);have hxi:i<xs.length:=by omega
 obtain⟨h1,h2⟩:=hb i hxi hl;obtain⟨ai,ci,e1,_,_⟩:=items_rd h1;obtain⟨ad,cd,e2⟩:=bytes_shape h2;have hz:i<(xs.zip l).length:=by simp;omega
 have ez:(xs.zip l)[i]=(xs[i],l[i]):=by simp
 refine⟨b,off,ai,ci,ad,cd,ea,⟨_,_,rfl,e1 ▸ h1,e2 ▸ h2⟩,fun w hw=> ?_⟩
 have at':∀j,j<6→∀v,(numCells (xs[i],l[i]))[j]? =some v→w.cell? ⟨b,off+i*6+j,none⟩=some v:=by
  intro j hj v hv;have h3:=hcell (i*6+j) (by omega);have h4:=flat_at numCells 6 (fun _=>rfl) (xs.zip l) i j hz hj;rw [ez,hv] at h4;rw [Nat.add_assoc];exact Hp.cell_le hw (h3.trans h4)
 have k0:=at' 0 (by omega) _ rfl;have k1:=at' 1 (by omega) _ rfl;have k2:=at' 2 (by omega) _ rfl;have k3:=at' 3 (by omega) _ rfl;have k4:=at' 4 (by omega) _ rfl;have k5:=at' 5 (by omega) _ rfl;dsimp only at k0 k1 k2 k3 k4 k5;rw [e1] at k3;rw [e2] at k4;exact⟨k0,k1,k2,k3,k4,k5⟩
theorem tally_held {refs:Int}{cs:List Int}(ok:PoolOk (poolOf refs cs 0)):(poolOf refs cs 0).tally 4=((heldL cs).length:Int):=by
 unfold PoolS.tally;rw [if_neg (by omega),many_settled cs 4 _ rfl rfl];unfold inState;rw [held_len fun c hc=>(ok.cs c hc).1]
end Go.Proofs.YtiegeadmgpanoaaGreatDoor.J4
namespace Go.Proofs.YtiegeadmgpanoaaGreatDoor.K4
open ChangeShapes WideShapes ChangeAt RowKit Sl Cop D2 F3 K3 P3 G2 J2 Q3 V3 C4 D4 F4 G4
theorem load_errno {w:World}{b:Nat}{x:Int}{fz:Nat × Nat}(h:w.heap[b]? =some (.cells #[.int .i64 x] 32 fz)):(loadVar 32 ⟨b,0,none⟩).run Tryz.prog w= .ok (.int .i64 x) w:=by
 have hc:w.cell? ⟨b,0,none⟩=some (.int .i64 x):=by rw [cell_of_heap h];rfl
 go_simp
theorem infoItemS:(Tryz.prog.info? 89).map (·.size)=some 4:=by kernel_rfl
theorem results_cell_cell {fn:Func}{p u:Tmp}{ty tu:TypeId}(h:fn.results= #[.cell p ty,.cell u tu])(tmps:Array Value)(w:World)(g:Nat)(x:Value)
 (hp:tmps.getD p undef= .pointer (some ⟨g,0,none⟩)) (hr:(loadVar ty ⟨g,0,none⟩).run Tryz.prog w= .ok x w) (g2:Nat) (y:Value) (hu:tmps.getD u undef= .pointer (some ⟨g2,0,none⟩)) (hr2:(loadVar tu ⟨g2,0,none⟩).run Tryz.prog w= .ok y w):
 (results fn tmps).run Tryz.prog w= .ok (.tuple #[x,y]) w:=by
 have hp':tmps[p]?.getD undef= .pointer (some ⟨g,0,none⟩):=by simpa using hp
 have hu':tmps[u]?.getD undef= .pointer (some ⟨g2,0,none⟩):=by simpa using hu
 simp [results,h,hp',hu',asAddr,Sem.run_bind,Result.andThen,hr,hr2]
end Go.Proofs.YtiegeadmgpanoaaGreatDoor.K4
namespace Go.Proofs.YtiegeadmgpanoaaGreatDoor.L4
open ChangeShapes WideShapes ChangeAt RowKit Sl Cop Go.Shelf D2 F3 K3 P3 G2 J2 Q3 V3 C4 D4 F4 G4
attribute [local go_sem] Oper.semAt_some
def encW(x:Int × WasX):Array Value:= #[.int .i64 x.1,.agg x.2.cells.toArray]
def backs(ws:List WasX):List (Int × WasX):=(ws.zipIdx.map fun x=>((x.2:Int),x.1)).reverse
def BackOwn(sb:Nat)(wv:Value)(h:Hp):Pr:=(Pr.pts sb (.cells #[wv] 167)).star (Pr.own h)
end Go.Proofs.YtiegeadmgpanoaaGreatDoor.L4
namespace Go.Proofs.YtiegeadmgpanoaaGreatDoor.M4
open ChangeShapes WideShapes ChangeAt RowKit Sl Cop D2 F3 K3 P3 G2 J2 Q3 V3 C4 D4 F4 G4 K4
theorem row_room {F:Pr}{w:World}(T:Nat)(z:Value)(n:Nat)(hn:n≤maxLen)(h:Sat F w):
 Sat ((Row T 1 (.slice (some ⟨w.heap.size,0,none⟩) 0 n) 0 []).star F) (w.alloc (.cells (madeCells #[z] n) T)):=by
 have h1:=h.alloc (.cells (madeCells #[z] n) T);refine Row.mk' (xs:= []) (sp:=List.replicate n z) (by simp) (by simp) (Nat.zero_le _) hn ?_;rw [List.nil_append, ← made_rep];exact h1
theorem load_long(v:Nat)(s:VaultS)(ak:Option Addr)(mk ck:Nat)(c:Int)(V:List Int)(ns:List Int)(hch:ChainAt s V (chunks V) 0 c ns)(hv:32<V.length∧V.length≤3840)(F:Pr)(w:World)(hF:Sat ((VaultA v s).star F) w):
 Calls Tryz.prog 50 #[.pointer (some ⟨v,0,none⟩),.agg #[.slice ak mk ck,.slice none 0 0,.int .i64 c,.int .i64 V.length]] w fun e w'=>
  Stays w w'∧∃o,e= .returned (.tuple #[o,.int .i64 0])∧Sat ((BytesRow o V).star ((VaultA v s).star F)) w':=by
 have h1:=hF.alloc (.cells #[.slice ak mk ck,.slice none 0 0,.int .i64 c,.int .i64 V.length] 89);have es:(w.alloc (.cells #[.slice ak mk ck,.slice none 0 0,.int .i64 c,.int .i64 V.length] 89)).heap.size=w.heap.size+1:=by simp
 have h2:=row_room 5 (.int .u8 0) V.length (by simp only [maxLen];omega) h1;rw [es] at h2;obtain⟨i0,hi,hz0,hz1,hz2⟩:=info_parts infoByte
 have hmk:∀wx:World,(Instr.makeSlice 42 (.int .i64 0) (.int .i64 (V.length:Int))).run Tryz.prog wx= .ok (.slice (some ⟨wx.heap.size,0,none⟩) 0 V.length) (wx.alloc (.cells (madeCells #[.int .u8 0] V.length) 5)):=by
  intro wx;have:=run_makeSlice (P:=Tryz.prog) wx 42 5 i0 (.int .u8 0) Tryz.underlying42 hi hz0 .i64 .i64 0 V.length (by omega) (by omega) (by rw [hz1];omega) (by rw [hz2];omega) (by omega)
  rw [hz1,Int.toNat_natCast,Nat.mul_one] at this;exact this
 have hN:V.length≤480*chunks V∧480*chunks V<V.length+480:=by unfold chunks;omega
 have H2:=hQ h2;have HCH:=hQ hch;clear h1 h2 hF es hch;go_enter Tryz.func50,Tryz.ntmps50
 go_wp2;go_loopw [6,7] (fun o n wr=> ∃(j:Nat) (c':Int) (ns':List Int),j≤chunks V∧n= .int .i64 c'∧Stays w wr∧ChainAt s V (chunks V-j) j c' ns'∧Sat ((BytesRow o (V.take (480*j))).star ((Pr.pts w.heap.size (.cells #[.slice ak mk ck,.slice none 0 0,.int .i64 c,.int .i64 V.length] 89)).star ((VaultA v s).star F))) wr) (fun o _ _=>match o with | .slice _ n _=>V.length-n | _=>0)
 case atStart=>
  exact⟨0,c,ns,Nat.zero_le _,rfl,((Stays.refl w).alloc _).alloc _,HCH.out,H2.out⟩
 case round=>
  obtain⟨j,c',ns',hj,rfl,hst,hch2,hinv⟩:=hrel;have f3:wr.cell? ⟨w.heap.size,3,none⟩=some (.int .i64 V.length):=by rw [cell_of_heap hinv.right.pts_heap];rfl
  have hA:(V.take (480*j)).length=min (480*j) V.length:=List.length_take;obtain⟨ao,co,eo,_,_⟩:=Row.read hinv;subst eo;rcases Nat.lt_or_ge j (chunks V) with hlt | hge
  · obtain⟨k,hk⟩:∃k,chunks V-j=k+1:=⟨chunks V-j-1,by omega⟩
    rw [hk] at hch2;obtain⟨c2,ns2,rfl,hb,hc1,hon,hch3⟩:=hch2;have hA2:(V.take (480*j)).length=480*j:=by omega
    have hD:=chunk_len V j
    have hlast:(k=0∧c2=0∧V.length-480*j≤480)∨(1≤c2∧¬V.length-480*j≤480):=by
     cases k with
     | zero=>exact .inl ⟨rfl,hch3.1,by omega⟩
     | succ k=>
       obtain⟨_,_,_,h3,_⟩:=hch3;exact .inr ⟨h3.1,by omega⟩
    have h4:=hinv.perm (B:=(VaultA v s).star ((BytesRow (.slice ao (V.take (480*j)).length co) (V.take (480*j))).star ((Pr.pts w.heap.size (.cells #[.slice ak mk ck,.slice none 0 0,.int .i64 c,.int .i64 V.length] 89)).star F))) (by ac_rfl);have C:=hQ (read_blob v s c' hb (chunk V j) c2 (by omega) _ _ h4 (by omega) hon);have HCH3:=hQ hch3;have hAL:480*j<V.length:=by omega
    have HT:=hQ (show V.take (480*(j+1))=V.take (480*j)++chunk V j by unfold chunk;rw [show 480*(j+1)=480*j+480 by omega,List.take_add]);have HK:=hQ hk;clear hinv h4 hch3 hon hA hk;go_wp2_with fail
    refine C.out.mono ?_;rintro e w3 ⟨hst3,pv,rfl,h',hpv,h5⟩;obtain⟨vi,vd,rfl,hi0,hb0⟩:=hpv;obtain⟨ai,ci,rfl,_⟩:=items_none hi0;obtain⟨_,ad,cd,hvd,_,_,_⟩:=id hb0;subst hvd
    have h6:Sat ((BytesRow (.slice ao (V.take (480*j)).length co) (V.take (480*j))).star ((Pr.pts w.heap.size (.cells #[.slice ak mk ck,.slice none 0 0,.int .i64 c,.int .i64 V.length] 89)).star ((Pr.own h').star ((VaultA v s).star F)))) w3:=h5.perm (by ac_rfl);have h7:=h6.alloc (.cells #[.int .i64 3,.int .i64 0,.slice ai 0 ci,.slice ad (chunk V j).length cd,.int .i64 c2] 83)
    have h8b:Sat ((BytesRow (.slice ao (V.take (480*j)).length co) (V.take (480*j))).star ((Pr.pts w.heap.size (.cells #[.slice ak mk ck,.slice none 0 0,.int .i64 c,.int .i64 V.length] 89)).star ((Pr.own h').star ((Pr.pts w3.heap.size (.cells #[.int .i64 3,.int .i64 0,.slice ai 0 ci,.slice ad (chunk V j).length cd,.int .i64 c2] 83)).star ((VaultA v s).star F))))) _:=h7.perm (by ac_rfl)
    have h8:Sat ((Row 5 1 (.slice ao (V.take (480*j)).length co) (V.take (480*j)).length ((V.take (480*j)).map (Value.int .u8))).star ((Pr.pts w.heap.size (.cells #[.slice ak mk ck,.slice none 0 0,.int .i64 c,.int .i64 V.length] 89)).star ((Pr.own h').star ((Pr.pts w3.heap.size (.cells #[.int .i64 3,.int .i64 0,.slice ai 0 ci,.slice ad (chunk V j).length cd,.int .i64 c2] 83)).star ((VaultA v s).star F))))) _:=h8b
    have g3:w3.cell? ⟨w.heap.size,3,none⟩=some (.int .i64 V.length):=by rw [cell_of_heap h6.right.pts_heap];rfl
    have zI:=h6.right.lt;have hle':=h8.right.right.own;have H8:=hQ h8;have HLE:=hQ hle';have HB0:=hQ (show RowIn h' 1 (.slice ad (chunk V j).length cd) (chunk V j).length ((chunk V j).map (Value.int .u8)) from hb0);have HST:=hQ ((hst.trans hst3).alloc (.cells #[.int .i64 3,.int .i64 0,.slice ai 0 ci,.slice ad (chunk V j).length cd,.int .i64 c2] 83));clear h5 h6 h7 h8 hle' hb0 hi0 C hst hst3 f3
    have hnews:∀u∈(chunk V j).map (Value.int .u8),u.oneCell'=true:=by simp [Value.oneCell']
    have HN:=hQ hnews;have HLEN:=hQ (show (V.take (480*(j+1))).length=(V.take (480*j)).length+(chunk V j).length by rw [HT.out,List.length_append]);clear hnews;generalize (V.take (480*j)).length=A at*;generalize (chunk V j).length=D at*;rcases hlast with⟨hk0,rfl,hla⟩ | ⟨hc2,hla⟩
    · have hs:(V.length:Int)-(A:Int)=(D:Int):=by omega
      have hd1:1≤D∧D≤480:=by omega
      have hAb:A≤3840:=by omega
      have hAl:A<V.length:=by omega
      have HF:=hQ (And.intro hA2 hD);clear hA2 hD hla hAL hN;have hm:min (D:Int) 480=D:=by omega
      have hd2:(D:Int)≤480:=by omega
      have hd3:decide ((D:Int)≤480)=true:=by simpa using hd2
      go_wp2_with (at_builtin;refine wpList_append_row rfl _ _ _ rfl 5 i0 (.int .u8 0) 1 1 Tryz.underlying42 hi hz0 hz1 hz2 rfl _ _ _ rfl H8.out h' HLE.out _ _ _ rfl HB0.out HN.out (by simp only [maxLen];omega) (by omega) ?_;intro v' w1 hsat hgr _;have g4:w1.cell? ⟨w3.heap.size,4,none⟩=some (.int .i64 0):=(by rw [cell_of_heap hsat.right.right.right.pts_heap];rfl);have HSAT:=hQ hsat;clear hsat)
      go_roundw
      case rel=>
       have hk1:=HK.out;refine⟨j+1,0,ns2,by omega,rfl,HST.out.of_grown hgr,?_,?_⟩
       · rw [show chunks V-(j+1)=k by omega];exact HCH3.out
       · have h9:=HSAT.out
         rw [← List.map_append, ← HT.out, ← HLEN.out] at h9;change Sat ((BytesRow v' (V.take (480*(j+1)))).star _) _ at h9
         have h10:Sat ((Pr.pts w3.heap.size (.cells #[.int .i64 3,.int .i64 0,.slice ai 0 ci,.slice ad D cd,.int .i64 0] 83)).star ((Pr.own h').star ((BytesRow v' (V.take (480*(j+1)))).star ((Pr.pts w.heap.size (.cells #[.slice ak mk ck,.slice none 0 0,.int .i64 c,.int .i64 V.length] 89)).star ((VaultA v s).star F))))) _:=h9.perm (by ac_rfl);exact h10.right.right
      case measure=>
       obtain⟨a3,c3,e3,_,_⟩:=Row.read HSAT.out;subst e3;have hf:=HF.out;dsimp only;rw [List.length_take];omega
    · have hd1:D=480:=by omega
      have hs:¬(V.length:Int)-(A:Int)≤480:=by omega
      have hAb:A≤3840:=by omega
      have hAl:A<V.length:=by omega
      have HF:=hQ (And.intro hA2 hD);clear hA2 hD hla hAL hN;subst hd1;have hm:min ((V.length:Int)-(A:Int)) 480=480:=by omega
      have hd3:decide ((V.length:Int)-(A:Int)≤480)=false:=by simpa using hs
      have hne:(c2 == 0)=false:=by rw [beq_eq_false_iff_ne];omega
      go_wp2_with (at_builtin;refine wpList_append_row rfl _ _ _ rfl 5 i0 (.int .u8 0) 1 1 Tryz.underlying42 hi hz0 hz1 hz2 rfl _ _ _ rfl H8.out h' HLE.out _ _ _ rfl HB0.out HN.out (by simp only [maxLen];omega) (by omega) ?_;intro v' w1 hsat hgr _;have g4:w1.cell? ⟨w3.heap.size,4,none⟩=some (.int .i64 c2):=(by rw [cell_of_heap hsat.right.right.right.pts_heap];rfl);have HSAT:=hQ hsat;clear hsat)
      go_roundw
      case rel=>
       have hk1:=HK.out;refine⟨j+1,c2,ns2,by omega,rfl,HST.out.of_grown hgr,?_,?_⟩
       · rw [show chunks V-(j+1)=k by omega];exact HCH3.out
       · have h9:=HSAT.out
         rw [← List.map_append, ← HT.out, ← HLEN.out] at h9;change Sat ((BytesRow v' (V.take (480*(j+1)))).star _) _ at h9
         have h10:Sat ((Pr.pts w3.heap.size (.cells #[.int .i64 3,.int .i64 0,.slice ai 0 ci,.slice ad 480 cd,.int .i64 c2] 83)).star ((Pr.own h').star ((BytesRow v' (V.take (480*(j+1)))).star ((Pr.pts w.heap.size (.cells #[.slice ak mk ck,.slice none 0 0,.int .i64 c,.int .i64 V.length] 89)).star ((VaultA v s).star F))))) _:=h9.perm (by ac_rfl);exact h10.right.right
      case measure=>
       obtain⟨a3,c3,e3,_,_⟩:=Row.read HSAT.out;subst e3;have hf:=HF.out;dsimp only;rw [List.length_take];omega
  · have hjN:j=chunks V:=by omega
    subst hjN;have ht:V.take (480*chunks V)=V:=List.take_of_length_le hN.1;rw [ht] at hinv;have HINV:=hQ hinv;have HL:=hQ (show (V.take (480*chunks V)).length=V.length by rw [ht]);clear hinv hA ht;generalize (V.take (480*chunks V)).length=A at*;have hAV:=HL.out;subst hAV;go_wp2;go_ret2
    have h9:Sat ((Pr.pts w.heap.size (.cells #[.slice ak mk ck,.slice none 0 0,.int .i64 c,.int .i64 V.length] 89)).star ((BytesRow (.slice ao V.length co) V).star ((VaultA v s).star F))) wr:=HINV.out.perm (Pr.left_comm _ _ _);exact⟨hst,_,rfl,h9.right⟩
end Go.Proofs.YtiegeadmgpanoaaGreatDoor.M4
namespace Go.Sl
open Go.Maps
end Go.Sl
namespace Go.Proofs.YtiegeadmgpanoaaGreatDoor.N4
open ChangeShapes WideShapes ChangeAt RowKit Sl Cop Go.Shelf D2 F3 K3 M3 N3 P3 G2 J2 Q3 V3 C4 D4 F4 G4 L4
attribute [local go_sem] Oper.semAt_some
def struck(f:Int→Option Value)(l:List (Int × WasX)):Int→Option Value:=fun m=>if m∈l.map (fun x=>x.2.no) then none else f m
end Go.Proofs.YtiegeadmgpanoaaGreatDoor.N4
namespace Go.Proofs.YtiegeadmgpanoaaGreatDoor.P4
open ChangeShapes WideShapes ChangeAt RowKit Sl Cop D2 F3 K3 P3 G2 J2 Q3 V3 C4 D4 F4 G4 K4 M4
def pagesOf(n:Int):Int:=if n≤32 then 0 else(n-1) / 480+1
def longV:List Int:=(List.replicate 500 0).set 499 7
end Go.Proofs.YtiegeadmgpanoaaGreatDoor.P4
namespace Go.Proofs.YtiegeadmgpanoaaGreatDoor.Q4
open ChangeShapes WideShapes ChangeAt RowKit Sl
def heapOf(w:World):Hp:=fun k=>w.heap[k]?
theorem sat_heap(w:World):Sat (Pr.own (heapOf w)) w:=⟨heapOf w,rfl,fun _ _ e=>e⟩
theorem heap_of_sat {w w':World}(h:Sat (Pr.own (heapOf w)) w'):∀k,k<w.heap.size→w'.heap[k]? =w.heap[k]? :=by
 obtain⟨x,rfl,hl⟩:=h;intro k hk;have e:heapOf w k=some w.heap[k]:=Array.getElem?_eq_getElem hk;rw [hl k _ e];exact e.symm
theorem kept_of {w w':World}(hs:Stays w w')(h:∀k,k<w.heap.size→w'.heap[k]? =w.heap[k]?)(may:MemPlace→Prop):w.keptBut w' may:=by
 refine⟨hs.os,hs.output,fun i hi=> ?_⟩;rw [h i hi];cases w.heap[i]? with
 | none=>rfl
 | some o=>cases o<;>simp
end Go.Proofs.YtiegeadmgpanoaaGreatDoor.Q4
namespace Go.Proofs.YtiegeadmgpanoaaGreatDoor.S4
open ChangeShapes WideShapes ChangeAt RowKit Sl Cop Deep G2 Q4
theorem laidOut:laidOutB Tryz.prog=true:=by kernel_rfl
theorem heap_cell {w:World}{b i:Nat}{v:Value}(h:w.cell? ⟨b,i,none⟩=some v):(heapOf w).cell b i=some v:=by
 unfold World.cell? at h;unfold Hp.cell heapOf;simp only at h;cases hb:w.heap[b]? with
 | none=>rw [hb] at h;simp at h
 | some o=>
   rw [hb] at h;cases o<;>simp_all
section
variable {H:Type}{enc:TypeId × Value→H}
theorem cells_u8:Tryz.prog.cellsOf 5=1:=by kernel_rfl
theorem stays {W W':World}(hh:∀k,k<W.heap.size→W'.heap[k]? =W.heap[k]?){t:TypeId}(hr:Tryz.prog.readableRec t=true)(ht:t<Tryz.prog.types.size){v:Value}{d:DataW H}{p:List MemPlace}
 (h:DataW.Trod enc Tryz.prog W 0 (fun _=>true) true t v d p) (hp:∀x∈p,x.block<W.heap.size):DataW.Trod enc Tryz.prog W' 0 (fun x=>decide (x<W.heap.size)) true t v d p:=
 WideElems.Trod_stays (P:=Tryz.prog) laidOut hr ht h
  (fun x hx=>by
    have hlt:=hp x hx
    cases x with
    | cell b o=>
      show W'.cell? ⟨b,o,none⟩=W.cell? ⟨b,o,none⟩
      unfold World.cell?
      rw [hh b hlt]
    | map b=>exact hh b hlt)
  (fun x hx=>by simpa using hp x hx)
end
end Go.Proofs.YtiegeadmgpanoaaGreatDoor.S4
namespace Go.Proofs.YtiegeadmgpanoaaGreatDoor.V4
open ChangeShapes WideShapes ChangeAt RowKit Sl Cop D2 F3 K3 P3 G2 J2 Q3 V3 C4 D4 F4 G4 L4 N4
end Go.Proofs.YtiegeadmgpanoaaGreatDoor.V4
namespace Go.Cop
def Bare(s:VaultS):Prop:= ∀n,s.pool.state n=1→s.on n=none
theorem Bare.make {s:VaultS}(h:Bare s){n:Int}(hn:s.pool.state n=1)(h0:s.pool.count n=0)(g:PageV):Bare (s.make n g):=by
 intro m hm;have hs:=did_state (s:=s.pool) (b:=1) (m:=m) (there_of_state (by omega:s.pool.state n≠0));have hm':(s.pool.did n 1).state m=1:=hm;rw [hm'] at hs;by_cases hmn:m=n
 · rw [if_pos hmn,h0] at hs
   unfold stateOf at hs;simp at hs
   split at hs<;>omega
 · rw [if_neg hmn] at hs
   show (if m=n then some g else s.on m)=none
   rw [if_neg hmn];exact h m hs.symm
end Go.Cop
namespace Go.Proofs.YtiegeadmgpanoaaGreatDoor.X4
open ChangeShapes WideShapes ChangeAt RowKit Sl Cop D2 F3 K3 P3 G2 J2 Q3 V3 C4 D4 F4 G4 L4 N4 K4
end Go.Proofs.YtiegeadmgpanoaaGreatDoor.X4
namespace Go.Cop
end Go.Cop
namespace Go.Proofs.YtiegeadmgpanoaaGreatDoor.Y4
open ChangeShapes WideShapes ChangeAt RowKit Sl Cop D2 F3 K3 P3 G2 J2 Q3 V3 C4 D4 F4 G4 V4 X4 K4
abbrev zeroItem:Value:= .agg #[.slice none 0 0,.slice none 0 0,.int .i64 0,.int .i64 0]
end Go.Proofs.YtiegeadmgpanoaaGreatDoor.Y4
namespace Go.Proofs.YtiegeadmgpanoaaGreatDoor.Z4
open ChangeShapes WideShapes ChangeAt RowKit Sl Cop D2 F3 K3 P3 G2 J2 Q3 V3 C4 D4 F4 G4 K4 Y4
theorem load_short(v:Nat)(ak:Option Addr)(mk ck:Nat)(c:Int)(vv:Value)(hp:Hp)(V:List Int)(hV:Bytes hp vv V)(hv:V.length≤32)(F:Pr)(w:World)(hF:Sat F w)(hle:hp.le w):
 Calls Tryz.prog 50 #[.pointer (some ⟨v,0,none⟩),.agg #[.slice ak mk ck,vv,.int .i64 c,.int .i64 V.length]] w fun e w'=>
  Stays w w'∧∃o,e= .returned (.tuple #[o,.int .i64 0])∧Sat ((BytesRow o V).star F) w':=by
 obtain⟨_,av,cv,rfl,_,_,_⟩:=id hV;have h1:=hF.alloc (.cells #[.slice ak mk ck,.slice av V.length cv,.int .i64 c,.int .i64 V.length] 89)
 have hle2:hp.le (w.alloc (.cells #[.slice ak mk ck,.slice av V.length cv,.int .i64 c,.int .i64 V.length] 89)):=
  fun k o e=>(((Only.refl w).alloc _).heap k (Array.getElem?_eq_some_iff.1 (hle k o e)).1).trans (hle k o e)
 have C:=hQ (bclone_any hp _ V _ _ h1 hle2 hV (by omega));clear h1 hle2 hF hle hV;go_enter Tryz.func50,Tryz.ntmps50
 go_wp2_with fail
 refine C.out.mono ?_;rintro e w1 ⟨o,rfl,h2,hst⟩;have H2:=hQ (h2.perm (Pr.left_comm _ _ _)).right;clear h2 C;go_wp2;go_ret2;exact⟨((Stays.refl w).alloc _).trans hst,o,rfl,H2.out⟩
end Go.Proofs.YtiegeadmgpanoaaGreatDoor.Z4
namespace Go.Cop
def kidsB(next:Int):List Int:=if next=0 then [] else [next]
end Go.Cop
namespace Go.Proofs.YtiegeadmgpanoaaGreatDoor.B5
open ChangeShapes WideShapes ChangeAt RowKit Sl Cop D2 F3 K3 P3 G2 J2 Q3 V3
end Go.Proofs.YtiegeadmgpanoaaGreatDoor.B5
namespace Go.Cop
def pagesV(V:List Int):Nat:=if V.length≤32 then 0 else chunks V
theorem chain_counts {s:VaultS}{V:List Int}:∀ {k j:Nat} {c:Int} {ns:List Int},ChainAt s V k j c ns→∀n∈ns,s.pool.count n=1:=by
 intro k;induction k with
 | zero=>intro j c ns h;rw [h.2];simp
 | succ k ih=>
   intro j c ns h n hn;obtain⟨c',ns',rfl,_,h3,_,h5⟩:=h;rcases List.mem_cons.1 hn with rfl | hn
   · exact h3
   · exact ih h5 n hn
theorem chain_taken {s s':VaultS}{V:List Int}{k j:Nat}{c:Int}{ns ns':List Int}(h:ChainAt s V k j c ns)(ok:PoolOk s.pool)(ht:Taken s s' ns'):ChainAt s' V k j c ns:=by
 refine chain_keep (fun n hn=> ?_) h;have h1:=chain_counts h n hn;exact ht.same n (fun hm=>by have:=count_of_free ok (ht.free n hm);omega)
end Go.Cop
namespace Go.Proofs.YtiegeadmgpanoaaGreatDoor.C5
open ChangeShapes WideShapes ChangeAt RowKit Sl Cop D2 F3 K3 P3 G2 J2 Q3 V3 C4 D4 F4 G4 X4 K4 M4 P4 Y4 Z4 N2
def StoredAt(s:VaultS)(h:Hp)(kv vv:Value)(c:Int)(V:List Int):Prop:=
 IsSl kv∧IsSl vv∧((V.length≤32∧Bytes h vv V)∨((32<V.length∧V.length≤3840)∧vv= .slice none 0 0∧∃ns,ChainAt s V (chunks V) 0 c ns))
theorem StoredAt.sub {s:VaultS}{h h':Hp}{kv vv:Value}{c:Int}{V:List Int}(hs:h.sub h')(x:StoredAt s h kv vv c V):StoredAt s h' kv vv c V:=
 ⟨x.1,x.2.1,x.2.2.imp (fun y=>⟨y.1,y.2.sub hs⟩) id⟩
theorem StoredAt.taken {s s':VaultS}{h:Hp}{kv vv:Value}{c:Int}{V:List Int}{ns:List Int}(ok:PoolOk s.pool)(ht:Taken s s' ns)(x:StoredAt s h kv vv c V):StoredAt s' h kv vv c V:=
 ⟨x.1,x.2.1,x.2.2.imp id (fun⟨y1,y2,m,y3⟩=>⟨y1,y2,m,chain_taken y3 ok ht⟩)⟩
theorem load_all(v:Nat)(s:VaultS)(h:Hp)(kv vv:Value)(c:Int)(V:List Int)(hs:StoredAt s h kv vv c V)(F:Pr)(w:World)(hF:Sat ((VaultA v s).star ((Pr.own h).star F)) w):
 Calls Tryz.prog 50 #[.pointer (some ⟨v,0,none⟩),.agg #[kv,vv,.int .i64 c,.int .i64 V.length]] w fun e w'=>
  Stays w w'∧∃o,e= .returned (.tuple #[o,.int .i64 0])∧Sat ((BytesRow o V).star ((VaultA v s).star ((Pr.own h).star F))) w':=by
 obtain⟨⟨ak,mk,ck,rfl⟩,_,(⟨h1,h2⟩ | ⟨h1,rfl,ns,h2⟩)⟩:=hs
 · refine load_short v ak mk ck c vv h V h2 h1 _ w hF ?_
   exact(hF.perm (Pr.left_comm _ _ _)).own
 · exact load_long v s ak mk ck c V ns h2 h1 _ w hF
end Go.Proofs.YtiegeadmgpanoaaGreatDoor.C5
namespace Go.Cop
def VaultS.freed(s:VaultS)(n:Int):VaultS:= { s with pool:=s.pool.did n (-1),on:=fun m=>if m=n then none else s.on m }
end Go.Cop
namespace Go.Proofs.YtiegeadmgpanoaaGreatDoor.D5
open ChangeShapes WideShapes ChangeAt RowKit Sl Cop D2 F3 K3 P3 G2 J2 Q3 V3 C4 D4
end Go.Proofs.YtiegeadmgpanoaaGreatDoor.D5
namespace Go.Cop
def VaultS.freedAll(s:VaultS):List Int→VaultS
 | []=>s
 | n :: ns=>(s.freed n).freedAll ns
end Go.Cop
namespace Go.Proofs.YtiegeadmgpanoaaGreatDoor.E5
open ChangeShapes WideShapes ChangeAt RowKit Sl Cop D2 F3 K3 P3 G2 J2 Q3 V3 C4 D4 B5 D5
end Go.Proofs.YtiegeadmgpanoaaGreatDoor.E5
namespace Go.Cop
end Go.Cop
namespace Go.Proofs.YtiegeadmgpanoaaGreatDoor.F5
open ChangeShapes WideShapes ChangeAt RowKit Sl Cop D2 F3 K3 P3 G2 J2 Q3 V3 C4 D4 F4 B5 D5 E5 C5
def nsOf(s:VaultS)(c:Int)(V:List Int)(ns:List Int):Prop:=(V.length≤32∧ns= [])∨((32<V.length∧V.length≤3840)∧ChainAt s V (chunks V) 0 c ns)
end Go.Proofs.YtiegeadmgpanoaaGreatDoor.F5
namespace Go.Proofs.YtiegeadmgpanoaaGreatDoor.G5
open ChangeShapes WideShapes ChangeAt RowKit Sl Cop D2 F3 K3 P3 G2 J2 Q3 V3
abbrev Ints(h:Hp)(v:Value)(l:List Int):Prop:=RowIn h 1 v l.length (l.map (Value.int .i64))
theorem clone_ints(h:Hp)(v:Value)(l:List Int)(F:Pr)(w:World)(hF:Sat F w)(hh:h.le w)(hx:Ints h v l)(hn:l.length≤65536):
 Calls Tryz.prog 84 #[v] w fun e w'=> ∃v',e= .returned v'∧Sat ((IntsRow v' l).star F) w'∧Stays w w':=by
 obtain⟨_,ad,c,rfl,hnc,hcm,hcell⟩:=id hx;have he:∀wx:World,(binOp .eql 22 (.slice ad l.length c) (.slice none 0 0)).run Tryz.prog wx= .ok (.bool ad.isNone) wx:=fun wx=>Lib.run_eql_slice_nil wx _ _ ad _ c 0 0 Tryz.underlying22
 cases ad with
 | none=>
   have hl:l.length=0:=by
    rcases Nat.eq_zero_or_pos l.length with h0 | h0
    · exact h0
    · obtain⟨b,off,e1,_⟩:=hcell (by omega);cases e1
   have hl2:l= []:=List.eq_nil_of_length_eq_zero hl;have HF:=hQ hF;have HL:=hQ hl2;clear hF hx hcell hh hl2 hl;go_enter Tryz.func84,Tryz.ntmps84
   go_wp2;go_ret;refine⟨_,rfl,?_,Stays.refl w⟩;have h1:=HF.out;have h2:=HL.out;subst h2;rw [← Sat.emp, ← Row.nil 3 1] at h1;exact h1
 | some ad=>
   have hnew:Sat ((Row 3 1 (.slice (some ⟨w.heap.size,0,none⟩) 0 0) 0 []).star F) (w.alloc (.cells #[] 3)):=
    Row.mk' (xs:= []) (sp:= []) (by simp) (by simp) (Nat.le_refl _) (by simp) (by simpa using hF.alloc (.cells #[] 3))
   have hle:h.le (w.alloc (.cells #[] 3)):=fun k o e=>(Below.heap_alloc w _ k (Array.getElem?_eq_some_iff.1 (hh k o e)).1).trans (hh k o e)
   have HF:=hQ hnew;have HX:=hQ hx;have HH:=hQ hle;clear hF hx hcell hh hnew hle;go_enter Tryz.func84,Tryz.ntmps84
   obtain⟨i0,hi,hz0,hz1,hz2⟩:=info_parts infoInt;go_wp2_with (at_builtin;refine wpList_append_row rfl _ _ _ rfl 3 i0 (.int .i64 0) 1 8 Tryz.underlying22 hi hz0 hz1 hz2 rfl _ _ _ rfl HF.out h HH.out _ _ _ rfl HX.out (by simp [Value.oneCell']) (by simp only [maxLen];omega) (by omega) ?_;intro v' w1 hsat hgr _;have HSAT:=hQ hsat;clear hsat)
   go_ret;refine⟨_,rfl,?_,((Stays.refl w).alloc _).of_grown hgr⟩;have h1:=HSAT.out;rw [Nat.zero_add,List.nil_append] at h1;exact h1
theorem counts_A(p:Nat)(s:PoolS)(F:Pr)(w:World)(hF:Sat ((PoolA p s).star F) w):
 Calls Tryz.prog 44 #[.pointer (some ⟨p,0,none⟩)] w fun e w'=> ∃v',e= .returned v'∧Sat ((IntsRow v' s.counts).star ((PoolA p s).star F)) w'∧Stays w w':=by
 obtain⟨ok,cv,lv,fb,av,hA⟩:=poolA_iff.1 hF;have hA1:Sat ((Pr.pts p (.cells (poolCells s cv lv fb av) 159)).star ((IntsRow cv s.counts).star ((BoolsRow lv s.last).star ((SetOf fb fun m=>s.state m=1).star ((ActsA p av s.acts).star F))))) w:=hA.perm (by unfold PoolAt;ac_rfl);have q1:w.cell? ⟨p,1,none⟩=some cv:=by rw [cell_of_heap hA1.pts_heap];rfl
 obtain⟨x,⟨a,f,ha,hf,hd,rfl⟩,hl⟩:=hA1.right;have C:=hQ (clone_ints a cv s.counts _ w hF ((Hp.le_un hd).1 hl).1 (Row.rowIn ha) ok.n2);clear hA hA1 hF ha hf hd hl;go_enter Tryz.func44,Tryz.ntmps44
 go_wp2_with fail
 refine C.out.mono ?_;rintro e w1 ⟨v',rfl,h1,hst⟩;have H1:=hQ h1;clear h1;go_wp2;go_ret;exact⟨_,rfl,H1.out,hst⟩
theorem ints_rd {h:Hp}{v:Value}{V:List Int}(hb:Ints h v V):∃a c,v= .slice a V.length c∧∀i,i<V.length→∃b off,a=some ⟨b,off,none⟩∧∀w,h.le w→w.cell? ⟨b,off+i,none⟩=some (.int .i64 (V.getD i 0)):=by
 obtain⟨hl,a,c,e,_,_,hc⟩:=hb;refine⟨a,c,e,fun i hi=> ?_⟩;obtain⟨b,off,e1,e2⟩:=hc (by omega);refine⟨b,off,e1,fun w hw=> ?_⟩;refine Hp.cell_le hw ((e2 i (by omega)).trans ?_);simp [hi]
theorem eqints_same(ha hb:Hp)(va vb:Value)(V:List Int)(h1:Ints ha va V)(h2:Ints hb vb V)(hn:V.length≤65536)(w:World)(l1:ha.le w)(l2:hb.le w):
 Calls Tryz.prog 24 #[va,vb] w fun e w'=>e= .returned (.bool true)∧Only w w':=by
 obtain⟨a,c,rfl,r1⟩:=ints_rd h1;obtain⟨a',c',rfl,r2⟩:=ints_rd h2;have R1:=hQ r1;have R2:=hQ r2;have L1:=hQ l1;have L2:=hQ l2;clear r1 r2 h1 h2 l1 l2;go_enter Tryz.func24,Tryz.ntmps24
 go_wp2;go_loopw [5] (fun i wr=> ∃k:Nat,k≤V.length∧i= .int .i64 k∧Only w wr) (fun i _=>V.length-(intOf i).toNat)
 case atStart=>exact⟨0,Nat.zero_le _,rfl,Only.refl w⟩
 case round=>
  obtain⟨k,hk,rfl,ho⟩:=hrel;rcases Nat.lt_or_ge k V.length with hlt | hge
  · obtain⟨b,off,rfl,c1⟩:=R1.out k hlt
    obtain⟨b',off',rfl,c2⟩:=R2.out k hlt;have q1:=c1 wr (fun k o e=>(ho.heap k (Array.getElem?_eq_some_iff.1 (L1.out k o e)).1).trans (L1.out k o e));have q2:=c2 wr (fun k o e=>(ho.heap k (Array.getElem?_eq_some_iff.1 (L2.out k o e)).1).trans (L2.out k o e));have HO:=hQ ho;clear c1 c2 ho;generalize V.getD k 0=x at*;go_wp2;go_region
    go_wp2;go_roundw
    case rel=>exact⟨k+1,by omega,by go_num,HO.out.drew⟩
    case measure=>simp [intOf];omega
  · have hkl:k=V.length:=by omega
    subst hkl;go_wp2;go_ret;exact⟨rfl,ho⟩
end Go.Proofs.YtiegeadmgpanoaaGreatDoor.G5
