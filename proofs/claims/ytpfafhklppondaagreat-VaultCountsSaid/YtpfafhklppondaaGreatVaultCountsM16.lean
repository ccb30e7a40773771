/- The vault: do, when the act is done; the conditions stand as hypotheses. -/
import Derived.Test.YtpfafhklppondaaGreatVaultCountsM13
import Derived.Defers
import Derived.Test.YtpfafhklppondaaGreatVaultCountsM11
import Derived.Test.YtpfafhklppondaaGreatVaultCountsM14
import Derived.Maps.OwnIn
import Derived.Test.YtpfafhklppondaaGreatVaultCountsM01
set_option maxRecDepth 100000
set_option maxHeartbeats 16000000
namespace Go.Cop
def VaultS.acted(s:VaultS)(a:ActV):VaultS:= { s with acts:=s.acts++ [a] }
end Go.Cop
namespace Go.Proofs.YtpfafhklppondaaGreat.B5
open ChangeShapes WideShapes ChangeAt RowKit Sl Cop M2 P3 X3 G4 Q2 X2 J4 L4 V4 Y4
theorem acts_snoc {h:Hp}{xs:List (Int × Value)}{acts:List ActV}(ha:ActsIn2 h xs acts){x:Int × Value}{y:ActV}(hr:ActRel h x y):ActsIn2 h (xs++ [x]) (acts++ [y]):=by
 refine⟨by simp [ha.1],fun i h1 h2=> ?_⟩;rcases Nat.lt_or_ge i acts.length with hlt | hge
 · have hx:i<xs.length:=by rw [ha.1];exact hlt
   rw [List.getElem_append_left hx,List.getElem_append_left hlt];exact ha.2 i hx hlt
 · have h3:i=acts.length:=by simp at h2;omega
   subst h3;have hx:xs.length≤acts.length:=by rw [ha.1];omega
   rw [List.getElem_append_right hx,List.getElem_append_right hge];simpa using hr
end Go.Proofs.YtpfafhklppondaaGreat.B5
namespace Go.Cop
theorem zip_at {s:PoolS}(ok:PoolOk s){i:Nat}(hi:i<s.counts.length):s.there (i+1)∧s.state (i+1)=stateOf s.counts[i] (s.last[i]'(by rw [ok.len];exact hi)):=by
 have ht:s.there ((i:Int)+1):=⟨by omega,by omega⟩;refine⟨ht,?_⟩;have hl:i<s.last.length:=by rw [ok.len];exact hi
 rw [state_there ht];unfold PoolS.count PoolS.lasts;rw [if_pos ht,show ((i:Int)+1).toNat-1=i by omega,List.getD_eq_getElem?_getD,List.getD_eq_getElem?_getD,List.getElem?_eq_getElem hi,List.getElem?_eq_getElem hl];rfl
theorem free_of_many {s:PoolS}(ok:PoolOk s){k:Int}(h:s.many k≠0):∃n,s.state n=k:=by
 unfold PoolS.many at h;cases hl:(s.counts.zip s.last).filter fun x=>stateOf x.1 x.2 == k with
 | nil=>rw [hl] at h;simp at h
 | cons x l=>
   have hx:x∈(s.counts.zip s.last).filter fun x=>stateOf x.1 x.2 == k:=by rw [hl];simp
   obtain⟨h1,h2⟩:=List.mem_filter.1 hx;obtain⟨i,hi,e⟩:=List.getElem_of_mem h1;have hc:i<s.counts.length:=by simp at hi;omega
   refine⟨(i:Int)+1,?_⟩;rw [(zip_at ok hc).2];rw [List.getElem_zip] at e;subst e;simpa using h2
theorem lasts_of_free {s:PoolS}(ok:PoolOk s){n:Int}(h:s.state n=1):s.lasts n=false:=by
 have h0:=count_of_free ok h;rw [state_there (there_of_state (by omega)),h0] at h;cases hl:s.lasts n with
 | false=>rfl
 | true=>rw [hl] at h;simp [stateOf] at h
theorem did_many {s:PoolS}(ok:PoolOk s){n:Int}(h:s.state n=1):(s.did n 1).many 1+1=s.many 1:=by
 have h0:=count_of_free ok h;have h1:=lasts_of_free ok h;have ht:=there_of_state (by omega:s.state n≠0);have:=turn_many ok (b:=1) ht 1
 rw [h,h0,h1] at this;show (s.turn n 1).many 1+1=_
 simpa [stateOf] using this
def VaultS.make(s:VaultS)(n:Int)(g:PageV):VaultS:=(s.made n g).acted ⟨s.pool.mark,[(n,s.on n)]⟩
inductive Steps : VaultS → VaultS → Prop where
  | refl (s : VaultS) : Steps s s
  | step {s t : VaultS} (n : Int) (g : PageV) : Steps s t → t.pool.state n = 1 → t.pool.count n = 0 → Steps s (t.make n g)
structure Taken(s s':VaultS)(ns:List Int):Prop where
 desc:ns.Pairwise (fun a b=>b<a)
 free:∀n∈ns,s.pool.state n=1
 cnt:∀n∈ns,s'.pool.count n=1
 same:∀n,n ∉ ns→s'.pool.count n=s.pool.count n∧s'.on n=s.on n
 low:∀m,s'.pool.state m=1→∀n∈ns,n<m
 last:s'.pool.last=s.pool.last
 refs:s'.pool.refs=s.pool.refs
 len:s'.pool.counts.length=s.pool.counts.length
 many:s'.pool.many 1+ns.length=s.pool.many 1
 pf:s'.pool.floor=s.pool.floor
 pa:s'.pool.acts.length=s.pool.acts.length+ns.length
 vf:s'.floor=s.floor
 va:s'.acts.length=s.acts.length+ns.length
 steps:Steps s s'
theorem Taken.refl(s:VaultS):Taken s s []:=
 ⟨List.Pairwise.nil,by simp,by simp,fun _ _=>⟨rfl,rfl⟩,by simp,rfl,rfl,rfl,rfl,rfl,rfl,rfl,rfl,.refl s⟩
theorem Taken.step {s t:VaultS}{ns:List Int}(h:Taken s t ns)(ok:PoolOk t.pool){n:Int}(hn:t.pool.state n=1)(hle:∀m,t.pool.state m=1→n≤m)(g:PageV):Taken s (t.make n g) (n :: ns):=by
 have ht:=there_of_state (by omega:t.pool.state n≠0);have h0:=count_of_free ok hn;have hni:n ∉ ns:=fun hm=>by have:=h.cnt n hm;omega
 have hcnt:∀m,(t.make n g).pool.count m=if m=n then 1 else t.pool.count m:=fun m=>by
  have:=did_count (s:=t.pool) (b:=1) (m:=m) ht
  rw [h0] at this;exact this
 refine⟨List.pairwise_cons.2 ⟨fun m hm=>h.low n hn m hm,h.desc⟩,?_,?_,?_,?_,h.last,h.refs,?_,?_,h.pf,?_,h.vf,?_,.step n g h.steps hn h0⟩
 · intro m hm
   rcases List.mem_cons.1 hm with rfl | hm
   · have hs:=(h.same m hni).1
     have hts:s.pool.there m:=⟨ht.1,by have:=ht.2;have:=h.len;omega⟩;have e1:s.pool.lasts m=t.pool.lasts m:=by unfold PoolS.lasts;rw [h.last]
     rw [state_there hts,e1, ← hs, ← state_there ht];exact hn
   · exact h.free m hm
 · intro m hm
   rw [hcnt];rcases List.mem_cons.1 hm with rfl | hm
   · rw [if_pos rfl]
   · split
     · rfl
     · exact h.cnt m hm
 · intro m hm
   have hm1:m≠n:=fun e=>hm (by rw [e];simp)
   have hm2:m ∉ ns:=fun e=>hm (by simp [e])
   rw [hcnt,if_neg hm1];refine⟨(h.same m hm2).1,?_⟩;show (if m=n then some g else t.on m)=_
   rw [if_neg hm1];exact(h.same m hm2).2
 · intro m hm k hk
   have hs:=did_state (s:=t.pool) (b:=1) (m:=m) ht;have hm':(t.pool.did n 1).state m=1:=hm;rw [hm'] at hs;by_cases hmn:m=n
   · rw [if_pos hmn,h0] at hs
     unfold stateOf at hs;simp at hs
     split at hs<;>omega
   · rw [if_neg hmn] at hs
     rcases List.mem_cons.1 hk with rfl | hk
     · have:=hle m hs.symm;omega
     · exact h.low m hs.symm k hk
 · show (t.pool.counts.set _ _).length=_
   rw [List.length_set];exact h.len
 · have h1:=did_many ok hn
   have h2:=h.many;show (t.pool.did n 1).many 1+(ns.length+1)=_
   omega
 · show (t.pool.acts++ [_]).length=_
   rw [List.length_append,h.pa];simp only [List.length_cons,List.length_nil];omega
 · show (t.acts++ [_]).length=_
   rw [List.length_append,h.va];simp only [List.length_cons,List.length_nil];omega
def chunk(V:List Int)(j:Nat):List Int:=(V.drop (480*j)).take 480
def chunks(V:List Int):Nat:=(V.length+479) / 480
def ChainAt(s:VaultS)(V:List Int):Nat→Nat→Int→List Int→Prop
 | 0,_,c,ns=>c=0∧ns= []
 | k+1,j,c,ns=> ∃c' ns',ns=c :: ns'∧(1≤c∧c≤65536)∧s.pool.count c=1∧s.on c=some (blobV (chunk V j) c')∧ChainAt s V k (j+1) c' ns'
theorem chain_len {s:VaultS}{V:List Int}:∀ {k j:Nat} {c:Int} {ns:List Int},ChainAt s V k j c ns→ns.length=k:=by
 intro k;induction k with
 | zero=>intro j c ns h;rw [h.2];rfl
 | succ k ih=>
   intro j c ns h;obtain⟨c',ns',rfl,_,_,_,h5⟩:=h;simp [ih h5]
theorem chain_keep {s s':VaultS}{V:List Int}:∀ {k j:Nat} {c:Int} {ns:List Int},(∀n∈ns,s'.pool.count n=s.pool.count n∧s'.on n=s.on n)→ChainAt s V k j c ns→ChainAt s' V k j c ns:=by
 intro k;induction k with
 | zero=>intro j c ns _ h;exact h
 | succ k ih=>
   intro j c ns hk h;obtain⟨c',ns',rfl,h2,h3,h4,h5⟩:=h;have h1:=hk c (by simp);exact⟨c',ns',rfl,h2,h1.1.trans h3,h1.2.trans h4,ih (fun n hn=>hk n (by simp [hn])) h5⟩
end Go.Cop
namespace Go.Proofs.YtpfafhklppondaaGreat.D5
open ChangeShapes WideShapes ChangeAt RowKit Sl Cop M2 P3 X3 G4 Q2 X2 J4 L4 V4 Y4 B5
theorem results_cell_row_tmp {fn:Func}{p u:Tmp}{ty:TypeId}(h:fn.results= #[.cell p ty,.tmp u])(tmps:Array Value)(w:World)(g:Nat)(cs:Array Value)
 (hp:tmps.getD p undef= .pointer (some ⟨g,0,none⟩)) (hr:(loadVar ty ⟨g,0,none⟩).run Tryz.prog w= .ok (.agg cs) w):
 (results fn tmps).run Tryz.prog w= .ok (.tuple #[.agg cs,tmps.getD u undef]) w:=by
 rw [results_cell_tmp h,hp];simp [asAddr,Result.andThen,hr]
theorem read_none(v:Nat)(s:VaultS)(n:Int)(F:Pr)(w:World)(hF:Sat ((VaultA v s).star F) w)(h0:s.pool.count n=0):
 Calls Tryz.prog 38 #[.pointer (some ⟨v,0,none⟩),.int .i64 n] w fun e w'=>e= .returned (.tuple #[zeroPage,.int .i64 15])∧Only w w':=by
 obtain⟨x,ok,hF⟩:=vaultA_iff.1 hF;have ho:Only w (w.alloc (.cells #[.int .i64 0,.int .i64 0,.slice none 0 0,.slice none 0 0,.int .i64 0] 37)):=(Only.refl w).alloc _
 have h1:Sat ((PoolA x.p s.pool).star ((Pr.pts v (.cells #[.pointer (some ⟨x.p,0,none⟩),.map (some x.mb),x.av,.int .i64 s.floor] 62)).star
  ((((MapA Tryz.prog 3 x.mb x.f).star ((Row 153 2 x.av s.acts.length (actCells x.axs)).star (Pr.own x.h)))).star F))) w:=hF.perm (by unfold VaultAt;ac_rfl)
 have qv:w.cell? ⟨v,0,none⟩=some (.pointer (some ⟨x.p,0,none⟩)):=by rw [cell_of_heap h1.right.pts_heap];rfl
 have zv:=h1.right.lt;have hh:=heap_new w (.cells #[.int .i64 0,.int .i64 0,.slice none 0 0,.slice none 0 0,.int .i64 0] 37);have C:=hQ (count_A x.p s.pool n _ _ (h1.only ho));rw [h0] at C;have HH:=hQ hh;have HO:=hQ ho;clear h1 hF ok hh ho;go_enter Tryz.func38,Tryz.ntmps38
 go_wp2_with fail
 refine C.out.mono ?_;rintro e w1 ⟨rfl,rfl⟩;go_wp2;refine bodyPost_ret (results_cell_row_tmp rfl _ _ w.heap.size _ rfl (run_loadVar_row _ w.heap.size _ _ _ _ _ HH.out Tryz.underlying37 rfl infoPage)) rfl ?_;exact⟨rfl,HO.out⟩
abbrev newV(refs:Int)(pages:Nat):VaultS:=⟨poolOf refs (List.replicate pages 0) 0,fun _=>none,[],0⟩
theorem vnew_any(pages:Nat)(refs:Int)(h:1≤pages∧pages≤65536∧2≤refs∧refs<65536)(F:Pr)(w:World)(hF:Sat F w):
 Calls Tryz.prog 7 #[.int .i64 pages,.int .i64 refs] w fun e w'=>
  Stays w w'∧∃v,e= .returned (.tuple #[.pointer (some ⟨v,0,none⟩),.int .i64 0])∧Sat ((VaultA v (newV refs pages)).star F) w':=by
 have C:=hQ (G4.new_any pages refs (by omega) F w hF);rw [Int.toNat_natCast] at C;clear hF;go_enter Tryz.func7,Tryz.ntmps7
 go_wp2_with fail
 refine C.out.mono ?_;rintro e w1 ⟨p,rfl,h1,hst⟩;have h2:=map_made (P:=Tryz.prog) (k:=3) h1;have es:(w1.alloc (.map #[] 0)).heap.size=w1.heap.size+1:=by simp
 have h3:=h2.alloc (.cells #[.pointer (some ⟨p,0,none⟩),.map (some w1.heap.size),.slice none 0 0,.int .i64 0] 62);rw [es] at h3;have H3:=hQ h3;have HST:=hQ ((hst.alloc (.map #[] 0)).alloc (.cells #[.pointer (some ⟨p,0,none⟩),.map (some w1.heap.size),.slice none 0 0,.int .i64 0] 62));clear h1 h2 h3 hst C es
 have hmk:∀wx:World,(Instr.makeMap 59 none).run Tryz.prog wx= .ok (.map (some wx.heap.size)) (wx.alloc (.map #[] 0)):=fun wx=>run_makeMap _ wx
 go_wp2;go_ret2;refine⟨HST.out,w1.heap.size+1,rfl,vaultA_iff.2 ⟨⟨p,w1.heap.size,.slice none 0 0,fun _=>none,[],Hp.nil⟩,⟨fun n=>rfl,⟨rfl,fun i h=>absurd h (by simp)⟩,Int.le_refl _,by simp⟩,H3.out.perm ?_⟩⟩;unfold VaultAt;rw [own_nil,show (Row 153 2 (.slice none 0 0) (newV refs pages).acts.length (actCells []))=Pr.emp from Row.nil _ _,Pr.emp_star,Pr.star_emp];ac_rfl
end Go.Proofs.YtpfafhklppondaaGreat.D5
namespace Go.Proofs.YtpfafhklppondaaGreat.E5
open ChangeShapes WideShapes ChangeAt RowKit Sl Cop M2 P3 X3 G4 Q2 X2 J4 L4 V4 Y4 B5 D5
theorem vault_ok {v:Nat}{s:VaultS}{F:Pr}{w:World}(h:Sat ((VaultA v s).star F) w):PoolOk s.pool∧0≤s.floor∧s.floor+s.acts.length≤1099511627776:=by
 obtain⟨x,ok,h1⟩:=vaultA_iff.1 h
 have h2:Sat ((PoolA x.p s.pool).star ((Pr.pts v (.cells #[.pointer (some ⟨x.p,0,none⟩),.map (some x.mb),x.av,.int .i64 s.floor] 62)).star
  ((((MapA Tryz.prog 3 x.mb x.f).star ((Row 153 2 x.av s.acts.length (actCells x.axs)).star (Pr.own x.h)))).star F))) w:=h1.perm (by unfold VaultAt;ac_rfl)
 exact⟨(poolA_rd h2).1,ok.f0,ok.fb⟩
theorem vmark_A(v:Nat)(s:VaultS)(F:Pr)(w:World)(hF:Sat ((VaultA v s).star F) w):
 Calls Tryz.prog 85 #[.pointer (some ⟨v,0,none⟩)] w fun e w'=>e= .returned (.int .i64 (s.floor+s.acts.length))∧Only w w':=by
 obtain⟨_,b1,b2⟩:=vault_ok hF;obtain⟨x,ok,h1⟩:=vaultA_iff.1 hF
 have h2:Sat ((Row 153 2 x.av s.acts.length (actCells x.axs)).star ((Pr.pts v (.cells #[.pointer (some ⟨x.p,0,none⟩),.map (some x.mb),x.av,.int .i64 s.floor] 62)).star
  ((((MapA Tryz.prog 3 x.mb x.f).star ((PoolA x.p s.pool).star (Pr.own x.h)))).star F))) w:=h1.perm (by unfold VaultAt;ac_rfl)
 obtain⟨aa,ca,ea,_,_⟩:=Row.read h2;have q2:w.cell? ⟨v,2,none⟩=some (.slice aa s.acts.length ca):=by rw [cell_of_heap h2.right.pts_heap, ← ea];rfl
 have q3:w.cell? ⟨v,3,none⟩=some (.int .i64 s.floor):=by rw [cell_of_heap h2.right.pts_heap];rfl
 clear h2 h1 hF ok ea;generalize s.floor=fl at*;generalize s.acts.length=al at*;go_enter Tryz.func85,Tryz.ntmps85
 go_wp2;go_region
 go_wp2;go_ret;exact⟨rfl,(Only.refl w).drew⟩
theorem infoItemS:(Tryz.prog.info? 49).map (·.size)=some 4:=by kernel_rfl
end Go.Proofs.YtpfafhklppondaaGreat.E5
namespace Go.Proofs.YtpfafhklppondaaGreat.F5
open ChangeShapes WideShapes ChangeAt RowKit Sl Cop Go.Shelf M2 P3 X3 G4 Q2 X2 J4 L4 V4 Y4 B5 D5
attribute [local go_sem] Oper.semAt_some
def encW(x:Int × WasX):Array Value:= #[.int .i64 x.1,.agg x.2.cells.toArray]
def backs(ws:List WasX):List (Int × WasX):=(ws.zipIdx.map fun x=>((x.2:Int),x.1)).reverse
theorem backs_len(ws:List WasX):(backs ws).length=ws.length:=by simp [backs]
theorem backs_at(ws:List WasX)(k:Nat)(hk:k<ws.length):(backs ws)[k]'(by rw [backs_len];exact hk)=(((ws.length-1-k:Nat):Int),ws[ws.length-1-k]'(by omega)):=by
 simp [backs]
theorem was_cells_at(ws:List WasX)(k j:Nat)(hk:k<ws.length)(hj:j<7):(ws.flatMap WasX.cells)[k*7+j]? =ws[k].cells[j]? :=by
 induction ws generalizing k with
 | nil=>simp at hk
 | cons x ws ih=>
   have hx:x.cells.length=7:=rfl;cases k with
   | zero=>simp only [List.flatMap_cons,Nat.zero_mul,Nat.zero_add,List.getElem_cons_zero];rw [List.getElem?_append_left (by omega)]
   | succ k=>
     simp only [List.flatMap_cons,List.getElem_cons_succ];rw [List.getElem?_append_right (by omega),hx,show (k+1)*7+j-7=k*7+j by omega];exact ih k (by simpa using hk)
def BackOwn(sb:Nat)(wv:Value)(h:Hp):Pr:=(Pr.pts sb (.cells #[wv] 151)).star (Pr.own h)
theorem backward1(sb:Nat)(wv:Value)(h:Hp)(ws:List WasX)(hrow:RowIn h 7 wv ws.length (ws.flatMap WasX.cells))(hl:ws.length≤65536):
 IterSl Tryz.prog 167 #[.pointer (some ⟨sb,0,none⟩)] encW (backs ws) (BackOwn sb wv h):=by
 intro l J Jx W hY h0;refine(callsIn_wide (n:=3)).1 ?_;refine callsIn_of_wp Tryz.func167 rfl trivial ?_ rfl;simp only [Tryz.ntmps167,List.size_toArray,List.length_cons,List.length_nil,Nat.reduceAdd,Nat.reduceSub,Array.replicate_succ,Array.replicate_zero,List.push_toArray,List.append_toArray,List.nil_append,List.cons_append];obtain⟨_,aw,cw,rfl,_,_,hc⟩:=hrow
 have facts:∀(A:Pr) (wr:World),Sat (A.star (BackOwn sb (.slice aw ws.length cw) h)) wr→wr.cell? ⟨sb,0,none⟩=some (.slice aw ws.length cw)∧sb<wr.heap.size∧h.le wr:=by
  intro A wr hs;unfold BackOwn at hs;have h1:Sat ((Pr.pts sb (.cells #[.slice aw ws.length cw] 151)).star ((Pr.own h).star A)) wr:=hs.perm (by ac_rfl);exact⟨by rw [cell_of_heap h1.pts_heap];rfl,h1.lt,h1.right.own⟩
 have F0:=facts _ _ h0;obtain⟨q1,z1,_⟩:=F0;have HF:=hQ facts;have HY:=hQ hY;have H0:=hQ h0;have HC:=hQ hc;clear facts hY h0 hc;gi_wp2
 gi_loopw [3] (fun i wr=> ∃r:Nat,r≤ws.length∧i= .int .i64 ((r:Int)-1)∧Stays W wr∧Sat ((J ((backs ws).take (ws.length-r))).star (BackOwn sb (.slice aw ws.length cw) h)) wr) (fun i _=>(intOf i+1).toNat)
 case atStart=>exact⟨ws.length,Nat.le_refl _,rfl,Stays.refl _,by rw [Nat.sub_self];exact H0.out⟩
 case round=>
  obtain⟨r,hr,rfl,hR,hs⟩:=hrel;cases r with
  | zero=>
    gi_wp2
    go_end0
    refine⟨⟨_,rfl⟩,hR,.inl ⟨_,rfl,?_⟩⟩;rw [Nat.sub_zero,List.take_of_length_le (by rw [backs_len];exact Nat.le_refl _)] at hs;exact hs
  | succ r=>
    obtain⟨q1,z1,hle⟩:=HF.out _ _ hs;obtain⟨b,off,e1,hcell⟩:=HC.out (by omega);subst e1;have hlt:r<ws.length:=by omega
    have cells:∀j,j<7→wr.cell? ⟨b,off+r*7+j,none⟩=ws[r].cells[j]? :=fun j hj=>by
     have h1:=hcell (r*7+j) (by omega);rw [was_cells_at ws r j hlt hj] at h1;have h2:∃u,ws[r].cells[j]? =some u:=⟨ws[r].cells[j]'(by show j<7;exact hj),List.getElem?_eq_getElem _⟩;obtain⟨u,hu⟩:=h2;rw [hu] at h1 ⊢;rw [Nat.add_assoc];exact Hp.cell_le hle h1
    have hat:=backs_at ws (ws.length-(r+1)) (by omega);have hidx:ws.length-1-(ws.length-(r+1))=r:=by omega
    simp only [hidx] at hat
    have hcat:(backs ws).take (ws.length-r)=(backs ws).take (ws.length-(r+1))++ [((r:Int),ws[r])]:=by
     rw [show ws.length-r=ws.length-(r+1)+1 by omega,List.take_succ_eq_append_getElem (by rw [backs_len];omega),hat]
    have hpre:(backs ws).take (ws.length-(r+1))++ [((r:Int),ws[r])]<+:backs ws:=by
     rw [← hcat];exact List.take_prefix _ _
    have HCAT:=hQ hcat;have HP:=hQ hpre;have HS:=hQ hs;clear hat hidx hcat hpre hs hcell;generalize ws[r]=X at*;obtain⟨no,pk,pl,vi,vd,nx,th⟩:=X;have c0:wr.cell? ⟨b,off+r*7,none⟩=some (.int .i64 no):=cells 0 (by omega);have c1:wr.cell? ⟨b,off+r*7+1,none⟩=some (.int .i64 pk):=cells 1 (by omega);have c2:wr.cell? ⟨b,off+r*7+2,none⟩=some (.int .i64 pl):=cells 2 (by omega)
    have c3:wr.cell? ⟨b,off+r*7+3,none⟩=some vi:=cells 3 (by omega);have c4:wr.cell? ⟨b,off+r*7+4,none⟩=some vd:=cells 4 (by omega);have c5:wr.cell? ⟨b,off+r*7+5,none⟩=some (.int .i64 nx):=cells 5 (by omega);have c6:wr.cell? ⟨b,off+r*7+6,none⟩=some (.bool th):=cells 6 (by omega);clear cells;rw [show ((r+1:Nat):Int)-1=(r:Int) by omega];gi_wp2
    refine at_yield (HY.out Pr.emp ((backs ws).take (ws.length-(r+1))) ((r:Int),⟨no,pk,pl,vi,vd,nx,th⟩) _ HP.out (HS.out.perm (Pr.star_emp _).symm)) ?_;rintro e w' ⟨hR',(⟨rfl,hs'⟩ | ⟨rfl,hs'⟩)⟩<;>rw [Pr.star_emp] at hs'
    · refine⟨_,rfl,?_⟩
      rw [← HCAT.out] at hs';have HS':=hQ hs';clear hs';gi_wp2
      go_roundw
      case rel=>exact⟨r,by omega,rfl,hR.trans hR',HS'.out⟩
      case measure=>simp [intOf]
    · refine⟨_,rfl,?_⟩
      have HS':=hQ hs';clear hs';gi_wp2
      refine bodyPost_ret (results_none rfl _ _ _) rfl ?_;exact⟨⟨_,rfl⟩,hR.trans hR',.inr ⟨_,HP.out,HS'.out⟩⟩
end Go.Proofs.YtpfafhklppondaaGreat.F5
namespace Go.Cop
def heldL(cs:List Int):List Int:=((List.range cs.length).filter fun i=>decide (cs.getD i 0≠0)).map fun i:Nat=>(i:Int)+1
theorem count_poolOf(refs:Int)(cs:List Int)(n:Int):({ refs:=refs,counts:=cs,last:=lastsOf cs,acts:= [],floor:=0 }:PoolS).count n=cntL cs n:=by
 unfold PoolS.count cntL PoolS.there;rfl
end Go.Cop
namespace Go.Proofs.YtpfafhklppondaaGreat.G5
open ChangeShapes WideShapes ChangeAt RowKit Sl Cop Q2 X2 J4 Y3 G4 P4 L4
def numCells(x:(Value × Value) × NumV):List Value:= [.int .i64 x.2.no,.int .i64 x.2.page.kind,.int .i64 x.2.page.level,x.1.1,x.1.2,.int .i64 x.2.page.next]
def NumsIn(h:Hp)(v:Value)(l:List NumV):Prop:=
 ∃xs:List (Value × Value),xs.length=l.length∧RowIn h 6 v l.length ((xs.zip l).flatMap numCells)∧
  ∀i (hx:i<xs.length) (hl:i<l.length),ItemsIn h xs[i].1 l[i].page.items∧Bytes h xs[i].2 l[i].page.data
theorem nums_rd {h:Hp}{v:Value}{l:List NumV}(hi:NumsIn h v l):∃a c,v= .slice a l.length c∧∀i (hl:i<l.length),∃b off ai ci ad cd,a=some ⟨b,off,none⟩∧
 PageIn h (pageV l[i].page.kind l[i].page.level (.slice ai l[i].page.items.length ci) (.slice ad l[i].page.data.length cd) l[i].page.next) l[i].page∧
 ∀w,h.le w→w.cell? ⟨b,off+i*6,none⟩=some (.int .i64 l[i].no)∧w.cell? ⟨b,off+i*6+1,none⟩=some (.int .i64 l[i].page.kind)∧w.cell? ⟨b,off+i*6+2,none⟩=some (.int .i64 l[i].page.level)∧
  w.cell? ⟨b,off+i*6+3,none⟩=some (.slice ai l[i].page.items.length ci)∧w.cell? ⟨b,off+i*6+4,none⟩=some (.slice ad l[i].page.data.length cd)∧w.cell? ⟨b,off+i*6+5,none⟩=some (.int .i64 l[i].page.next):=by
 obtain⟨xs,hxl,⟨hlen,a,c,e,_,hcm,hc⟩,hb⟩:=hi;refine⟨a,c,e,fun i hl=> ?_⟩;obtain⟨b,off,ea,hcell⟩:=hc (by omega);have hxi:i<xs.length:=by omega
 obtain⟨h1,h2⟩:=hb i hxi hl;obtain⟨ai,ci,e1,_,_⟩:=items_rd h1;obtain⟨ad,cd,e2⟩:=bytes_shape h2;have hz:i<(xs.zip l).length:=by simp;omega
 have ez:(xs.zip l)[i]=(xs[i],l[i]):=by simp
 refine⟨b,off,ai,ci,ad,cd,ea,⟨_,_,rfl,e1 ▸ h1,e2 ▸ h2⟩,fun w hw=> ?_⟩
 have at':∀j,j<6→∀v,(numCells (xs[i],l[i]))[j]? =some v→w.cell? ⟨b,off+i*6+j,none⟩=some v:=by
  intro j hj v hv;have h3:=hcell (i*6+j) (by omega);have h4:=flat_at numCells 6 (fun _=>rfl) (xs.zip l) i j hz hj;rw [ez,hv] at h4;rw [Nat.add_assoc];exact Hp.cell_le hw (h3.trans h4)
 have k0:=at' 0 (by omega) _ rfl;have k1:=at' 1 (by omega) _ rfl;have k2:=at' 2 (by omega) _ rfl;have k3:=at' 3 (by omega) _ rfl;have k4:=at' 4 (by omega) _ rfl;have k5:=at' 5 (by omega) _ rfl;dsimp only at k0 k1 k2 k3 k4 k5;rw [e1] at k3;rw [e2] at k4;exact⟨k0,k1,k2,k3,k4,k5⟩
end Go.Proofs.YtpfafhklppondaaGreat.G5
namespace Go.Sl
open Go.Maps
theorem wpListIn_del {Fn:Fence}{nF:Nat}{P:Program}{k:TypeId}{b:Nat}{f:Int→Option Value}{F:Pr}{w:World}{ops:Array Oper}{rest:List Oper}{o:Oper}{a:Act}{Q:Exit→Act→World→Prop}(hgd:o.guard=none)(m x:Operand)(t:TypeId)
 (hop:o.op= .call { callee:= .builtin .delete,args:= #[m,x],argTypes:= #[t,k] })
 (hk:P.underlying k=some (.int .i64)) {e:TypeId} (ht:P.underlying t=some (.map k e)) (n:Int) (hn:1≤n∧n≤65536)
 (hm:a.eval m= .map (some b)) (hx:a.eval x= .int .i64 n) (h:Sat ((MapA P k b f).star F) w)
 (hK:∀w',Sat ((MapA P k b (fun m=>if m=n then none else f m)).star F) w'→w.grownBy w' (some b)→wpListIn Fn nF P ops Q rest (a.put o.dst (.tuple #[])) w'):wpListIn Fn nF P ops Q (o :: rest) a w:=by
 refine wpListIn_plain hgd fun K' hK'=> ?_
 obtain⟨w',hrun,h1,h2⟩:=map_del (ty:=o.type) hk ht hn h;unfold Oper.wpIn;refine⟨by simp [Oper.about,hop,resolve,Target.leads,Sem.run_pure],?_⟩;rw [Oper.semAt_plain Fn _ _ (by rw [hop];intro c hc';cases hc')];simp [execOp,hop,resolve,invoke,builtin,hm,hx,hrun,Result.andThen]
 exact hK' _ _ (hK w' h1 h2)
end Go.Sl
namespace Go.Proofs.YtpfafhklppondaaGreat.J5
open ChangeShapes WideShapes ChangeAt RowKit Sl Cop Go.Shelf M2 P3 X3 Z3 F4 G4 Q2 X2 J4 L4 V4 Y4 B5 D5 F5
attribute [local go_sem] Oper.semAt_some
theorem backward_any(a:Option Addr)(n c:Nat)(w:World):Calls Tryz.prog 161 #[.slice a n c] w fun e w'=>
 e= .returned (.func (.func 167) #[] #[.pointer (some ⟨w.heap.size,0,none⟩)])∧w'=w.alloc (.cells #[.slice a n c] 151):=by
 go_enter Tryz.func161,Tryz.ntmps161
 go_wp2;go_ret;exact⟨rfl,rfl⟩
def struck(f:Int→Option Value)(l:List (Int × WasX)):Int→Option Value:=fun m=>if m∈l.map (fun x=>x.2.no) then none else f m
theorem backs_mem {ws:List WasX}{y:Int × WasX}(h:y∈backs ws):y.2∈ws:=by
 unfold backs at h;rw [List.mem_reverse,List.mem_map] at h;obtain⟨⟨X,i⟩,h1,rfl⟩:=h;have:=(List.mem_zipIdx h1).2.2
 dsimp only at this ⊢;rw [this];exact List.getElem_mem _
end Go.Proofs.YtpfafhklppondaaGreat.J5
namespace Go.Proofs.YtpfafhklppondaaGreat.K5
open ChangeShapes WideShapes ChangeAt RowKit Sl Cop M2 P3 X3 G4 Q2 X2 J4 L4 V4 Y4 B5 D5 E5
theorem row_room {F:Pr}{w:World}(T:Nat)(z:Value)(n:Nat)(hn:n≤maxLen)(h:Sat F w):
 Sat ((Row T 1 (.slice (some ⟨w.heap.size,0,none⟩) 0 n) 0 []).star F) (w.alloc (.cells (madeCells #[z] n) T)):=by
 have h1:=h.alloc (.cells (madeCells #[z] n) T);refine Row.mk' (xs:= []) (sp:=List.replicate n z) (by simp) (by simp) (Nat.zero_le _) hn ?_;rw [List.nil_append, ← made_rep];exact h1
end Go.Proofs.YtpfafhklppondaaGreat.K5
namespace Go.Proofs.YtpfafhklppondaaGreat.L5
open ChangeShapes WideShapes ChangeAt RowKit Sl Cop M2 P3 X3 G4 Q2 X2 J4 L4 V4 Y4 B5 D5 F5 J5
end Go.Proofs.YtpfafhklppondaaGreat.L5
