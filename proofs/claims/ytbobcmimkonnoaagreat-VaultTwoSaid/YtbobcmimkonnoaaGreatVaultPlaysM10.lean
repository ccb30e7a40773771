/- The vault: what Make does; the conditions stand as hypotheses. -/
import Derived.Test.YtbobcmimkonnoaaGreatVaultPlaysM09
import Derived.Defers
import Derived.Lib.SmallJoins
import Derived.Deep.Slices
import Derived.WideKeyArgs
import Derived.Test.YtbobcmimkonnoaaGreatVaultPlaysM08
import Derived.Test.YtbobcmimkonnoaaGreatVaultPlaysM01
set_option maxRecDepth 100000
set_option maxHeartbeats 16000000
namespace Go.Cop
def VaultS.made(s:VaultS)(n:Int)(g:PageV):VaultS:= { s with pool:=s.pool.did n 1,on:=fun m=>if m=n then some g else s.on m }
end Go.Cop
namespace Go.Proofs.YtbobcmimkonnoaaGreat.D4
open ChangeShapes WideShapes ChangeAt RowKit Sl Cop D2 K3 N3 Q3 G2 M2 U3 Y3 Z3
def VMA(v:Nat)(s:VaultS)(ab:Nat)(mark:Int)(was:List (Int × Option PageV)):Pr:=
 Pr.ex fun y:VX × Value × List WasX=>(Pr.pure (VOk s y.1∧WasIn y.1.h y.2.2 was)).star (VMAt v s y.1 ab mark y.2.1 y.2.2)
theorem vma_iff {v:Nat}{s:VaultS}{ab:Nat}{mark:Int}{was:List (Int × Option PageV)}{F:Pr}{w:World}:
 Sat ((VMA v s ab mark was).star F) w↔∃x wv ws,VOk s x∧WasIn x.h ws was∧Sat ((VMAt v s x ab mark wv ws).star F) w:=by
 unfold VMA
 rw [Sat.ex]
 constructor
 · rintro⟨⟨x,wv,ws⟩,h⟩
   rw [Pr.star_assoc] at h
   obtain⟨⟨h1,h2⟩,h3⟩:=Sat.pure.1 h
   exact⟨x,wv,ws,h1,h2,h3⟩
 · rintro⟨x,wv,ws,h1,h2,h3⟩
   refine⟨(x,wv,ws),?_⟩
   rw [Pr.star_assoc]
   exact Sat.pure.2 ⟨⟨h1,h2⟩,h3⟩
abbrev blobCells(vi vd:Value)(next:Int):Array Value:= #[.int .i64 3,.int .i64 0,vi,vd,.int .i64 next]
end Go.Proofs.YtbobcmimkonnoaaGreat.D4
namespace Go.Cop
def VaultS.acted(s:VaultS)(a:ActV):VaultS:= { s with acts:=s.acts++ [a] }
end Go.Cop
namespace Go.Proofs.YtbobcmimkonnoaaGreat.E4
open ChangeShapes WideShapes ChangeAt RowKit Sl Cop D2 K3 N3 Q3 G2 M2 U3 Y3 Z3 D4
theorem acts_snoc {h:Hp}{xs:List (Int × Value)}{acts:List ActV}(ha:ActsIn2 h xs acts){x:Int × Value}{y:ActV}(hr:ActRel h x y):ActsIn2 h (xs++ [x]) (acts++ [y]):=by
 refine⟨by simp [ha.1],fun i h1 h2=> ?_⟩
 rcases Nat.lt_or_ge i acts.length with hlt | hge
 · have hx:i<xs.length:=by rw [ha.1];exact hlt
   rw [List.getElem_append_left hx,List.getElem_append_left hlt]
   exact ha.2 i hx hlt
 · have h3:i=acts.length:=by simp at h2;omega
   subst h3
   have hx:xs.length≤acts.length:=by rw [ha.1];omega
   rw [List.getElem_append_right hx,List.getElem_append_right hge]
   simpa using hr
end Go.Proofs.YtbobcmimkonnoaaGreat.E4
namespace Go.Proofs.YtbobcmimkonnoaaGreat.F4
open ChangeShapes WideShapes ChangeAt RowKit Sl Cop D2 K3 N3 Q3 G2 M2 U3 Y3 Z3 D4 E4
theorem results_cell_row_tmp {fn:Func}{p u:Tmp}{ty:TypeId}(h:fn.results= #[.cell p ty,.tmp u])(tmps:Array Value)(w:World)(g:Nat)(cs:Array Value)
 (hp:tmps.getD p undef= .pointer (some ⟨g,0,none⟩)) (hr:(loadVar ty ⟨g,0,none⟩).run Tryz.prog w= .ok (.agg cs) w):
 (results fn tmps).run Tryz.prog w= .ok (.tuple #[.agg cs,tmps.getD u undef]) w:=by
 rw [results_cell_tmp h,hp]
 simp [asAddr,Result.andThen,hr]
theorem read_none(v:Nat)(s:VaultS)(n:Int)(F:Pr)(w:World)(hF:Sat ((VaultA v s).star F) w)(h0:s.pool.count n=0):
 Calls Tryz.prog 44 #[.pointer (some ⟨v,0,none⟩),.int .i64 n] w fun e w'=>e= .returned (.tuple #[zeroPage,.int .i64 15])∧Only w w':=by
 obtain⟨x,ok,hF⟩:=vaultA_iff.1 hF
 have ho:Only w (w.alloc (.cells #[.int .i64 0,.int .i64 0,.slice none 0 0,.slice none 0 0,.int .i64 0] 31)):=(Only.refl w).alloc _
 have h1:Sat ((PoolA x.p s.pool).star ((Pr.pts v (.cells #[.pointer (some ⟨x.p,0,none⟩),.map (some x.mb),x.av,.int .i64 s.floor] 71)).star
  ((((MapA Tryz.prog 3 x.mb x.f).star ((Row 158 2 x.av s.acts.length (actCells x.axs)).star (Pr.own x.h)))).star F))) w:=hF.perm (by unfold VaultAt;ac_rfl)
 have qv:w.cell? ⟨v,0,none⟩=some (.pointer (some ⟨x.p,0,none⟩)):=by rw [cell_of_heap h1.right.pts_heap];rfl
 have zv:=h1.right.lt
 have hh:=heap_new w (.cells #[.int .i64 0,.int .i64 0,.slice none 0 0,.slice none 0 0,.int .i64 0] 31)
 have C:=hQ (count_A x.p s.pool n _ _ (h1.only ho))
 rw [h0] at C
 have HH:=hQ hh
 have HO:=hQ ho
 clear h1 hF ok hh ho
 go_enter Tryz.func44,Tryz.ntmps44
 go_wp2_with fail
 refine C.out.mono ?_
 rintro e w1 ⟨rfl,rfl⟩
 go_wp2
 refine bodyPost_ret (results_cell_row_tmp rfl _ _ w.heap.size _ rfl (run_loadVar_row _ w.heap.size _ _ _ _ _ HH.out Tryz.underlying31 rfl infoPage)) rfl ?_
 exact⟨rfl,HO.out⟩
abbrev newV(refs:Int)(pages:Nat):VaultS:=⟨poolOf refs (List.replicate pages 0) 0,fun _=>none,[],0⟩
theorem vnew_any(pages:Nat)(refs:Int)(h:1≤pages∧pages≤65536∧2≤refs∧refs<65536)(F:Pr)(w:World)(hF:Sat F w):
 Calls Tryz.prog 12 #[.int .i64 pages,.int .i64 refs] w fun e w'=>
  Stays w w'∧∃v,e= .returned (.tuple #[.pointer (some ⟨v,0,none⟩),.int .i64 0])∧Sat ((VaultA v (newV refs pages)).star F) w':=by
 have C:=hQ (Q3.new_any pages refs (by omega) F w hF)
 rw [Int.toNat_natCast] at C
 clear hF
 go_enter Tryz.func12,Tryz.ntmps12
 go_wp2_with fail
 refine C.out.mono ?_
 rintro e w1 ⟨p,rfl,h1,hst⟩
 have h2:=map_made (P:=Tryz.prog) (k:=3) h1
 have es:(w1.alloc (.map #[] 0)).heap.size=w1.heap.size+1:=by simp
 have h3:=h2.alloc (.cells #[.pointer (some ⟨p,0,none⟩),.map (some w1.heap.size),.slice none 0 0,.int .i64 0] 71)
 rw [es] at h3
 have H3:=hQ h3
 have HST:=hQ ((hst.alloc (.map #[] 0)).alloc (.cells #[.pointer (some ⟨p,0,none⟩),.map (some w1.heap.size),.slice none 0 0,.int .i64 0] 71))
 clear h1 h2 h3 hst C es
 have hmk:∀wx:World,(Instr.makeMap 68 none).run Tryz.prog wx= .ok (.map (some wx.heap.size)) (wx.alloc (.map #[] 0)):=fun wx=>run_makeMap _ wx
 go_wp2
 go_ret2
 refine⟨HST.out,w1.heap.size+1,rfl,vaultA_iff.2 ⟨⟨p,w1.heap.size,.slice none 0 0,fun _=>none,[],Hp.nil⟩,⟨fun n=>rfl,⟨rfl,fun i h=>absurd h (by simp)⟩,Int.le_refl _,by simp⟩,H3.out.perm ?_⟩⟩
 unfold VaultAt
 rw [own_nil,show (Row 158 2 (.slice none 0 0) (newV refs pages).acts.length (actCells []))=Pr.emp from Row.nil _ _,Pr.emp_star,Pr.star_emp]
 ac_rfl
end Go.Proofs.YtbobcmimkonnoaaGreat.F4
namespace Go.Cop
def heldL(cs:List Int):List Int:=((List.range cs.length).filter fun i=>decide (cs.getD i 0≠0)).map fun i:Nat=>(i:Int)+1
theorem count_poolOf(refs:Int)(cs:List Int)(n:Int):({ refs:=refs,counts:=cs,last:=lastsOf cs,acts:= [],floor:=0 }:PoolS).count n=cntL cs n:=by
 unfold PoolS.count cntL PoolS.there
 rfl
end Go.Cop
namespace Go.Proofs.YtbobcmimkonnoaaGreat.G4
open ChangeShapes WideShapes ChangeAt RowKit Sl Cop G2 M2 U3 P3 Q3 X3 Y3
def numCells(x:(Value × Value) × NumV):List Value:= [.int .i64 x.2.no,.int .i64 x.2.page.kind,.int .i64 x.2.page.level,x.1.1,x.1.2,.int .i64 x.2.page.next]
def NumsIn(h:Hp)(v:Value)(l:List NumV):Prop:=
 ∃xs:List (Value × Value),xs.length=l.length∧RowIn h 6 v l.length ((xs.zip l).flatMap numCells)∧
  ∀i (hx:i<xs.length) (hl:i<l.length),ItemsIn h xs[i].1 l[i].page.items∧Bytes h xs[i].2 l[i].page.data
theorem nums_rd {h:Hp}{v:Value}{l:List NumV}(hi:NumsIn h v l):∃a c,v= .slice a l.length c∧∀i (hl:i<l.length),∃b off ai ci ad cd,a=some ⟨b,off,none⟩∧
 PageIn h (pageV l[i].page.kind l[i].page.level (.slice ai l[i].page.items.length ci) (.slice ad l[i].page.data.length cd) l[i].page.next) l[i].page∧
 ∀w,h.le w→w.cell? ⟨b,off+i*6,none⟩=some (.int .i64 l[i].no)∧w.cell? ⟨b,off+i*6+1,none⟩=some (.int .i64 l[i].page.kind)∧w.cell? ⟨b,off+i*6+2,none⟩=some (.int .i64 l[i].page.level)∧
  w.cell? ⟨b,off+i*6+3,none⟩=some (.slice ai l[i].page.items.length ci)∧w.cell? ⟨b,off+i*6+4,none⟩=some (.slice ad l[i].page.data.length cd)∧w.cell? ⟨b,off+i*6+5,none⟩=some (.int .i64 l[i].page.next):=by
 obtain⟨xs,hxl,⟨hlen,a,c,e,_,hcm,hc⟩,hb⟩:=hi
 refine⟨a,c,e,fun i hl=> ?_⟩
 obtain⟨b,off,ea,hcell⟩:=hc (by omega)
 have hxi:i<xs.length:=by omega
 obtain⟨h1,h2⟩:=hb i hxi hl
 obtain⟨ai,ci,e1,_,_⟩:=items_rd h1
 obtain⟨ad,cd,e2⟩:=bytes_shape h2
 have hz:i<(xs.zip l).length:=by simp;omega
 have ez:(xs.zip l)[i]=(xs[i],l[i]):=by simp
 refine⟨b,off,ai,ci,ad,cd,ea,⟨_,_,rfl,e1 ▸ h1,e2 ▸ h2⟩,fun w hw=> ?_⟩
 have at':∀j,j<6→∀v,(numCells (xs[i],l[i]))[j]? =some v→w.cell? ⟨b,off+i*6+j,none⟩=some v:=by
  intro j hj v hv
  have h3:=hcell (i*6+j) (by omega)
  have h4:=flat_at numCells 6 (fun _=>rfl) (xs.zip l) i j hz hj
  rw [ez,hv] at h4
  rw [Nat.add_assoc]
  exact Hp.cell_le hw (h3.trans h4)
 have k0:=at' 0 (by omega) _ rfl
 have k1:=at' 1 (by omega) _ rfl
 have k2:=at' 2 (by omega) _ rfl
 have k3:=at' 3 (by omega) _ rfl
 have k4:=at' 4 (by omega) _ rfl
 have k5:=at' 5 (by omega) _ rfl
 dsimp only at k0 k1 k2 k3 k4 k5
 rw [e1] at k3
 rw [e2] at k4
 exact⟨k0,k1,k2,k3,k4,k5⟩
end Go.Proofs.YtbobcmimkonnoaaGreat.G4
namespace Go.Cop
theorem lasts_of_free {s:PoolS}(ok:PoolOk s){n:Int}(h:s.state n=1):s.lasts n=false:=by
 have h0:=count_of_free ok h
 rw [state_there (there_of_state (by omega)),h0] at h
 cases hl:s.lasts n with
 | false=>rfl
 | true=>rw [hl] at h;simp [stateOf] at h
theorem did_many {s:PoolS}(ok:PoolOk s){n:Int}(h:s.state n=1):(s.did n 1).many 1+1=s.many 1:=by
 have h0:=count_of_free ok h
 have h1:=lasts_of_free ok h
 have ht:=there_of_state (by omega:s.state n≠0)
 have:=turn_many ok (b:=1) ht 1
 rw [h,h0,h1] at this
 show (s.turn n 1).many 1+1=_
 simpa [stateOf] using this
def VaultS.make(s:VaultS)(n:Int)(g:PageV):VaultS:=(s.made n g).acted ⟨s.pool.mark,[(n,s.on n)]⟩
inductive Steps : VaultS → VaultS → Prop where
  | refl (s : VaultS) : Steps s s
  | step {s t : VaultS} (n : Int) (g : PageV) : Steps s t → t.pool.state n = 1 → t.pool.count n = 0 → Steps s (t.make n g)
structure Taken(s s':VaultS)(ns:List Int):Prop where
 desc:ns.Pairwise (fun a b=>b<a)
 free:∀n∈ns,s.pool.state n=1
 cnt:∀n∈ns,s'.pool.count n=1
 same:∀n,n ∉ ns→s'.pool.count n=s.pool.count n∧s'.on n=s.on n
 low:∀m,s'.pool.state m=1→∀n∈ns,n<m
 last:s'.pool.last=s.pool.last
 refs:s'.pool.refs=s.pool.refs
 len:s'.pool.counts.length=s.pool.counts.length
 many:s'.pool.many 1+ns.length=s.pool.many 1
 pf:s'.pool.floor=s.pool.floor
 pa:s'.pool.acts.length=s.pool.acts.length+ns.length
 vf:s'.floor=s.floor
 va:s'.acts.length=s.acts.length+ns.length
 steps:Steps s s'
theorem Taken.refl(s:VaultS):Taken s s []:=
 ⟨List.Pairwise.nil,by simp,by simp,fun _ _=>⟨rfl,rfl⟩,by simp,rfl,rfl,rfl,rfl,rfl,rfl,rfl,rfl,.refl s⟩
theorem Taken.step {s t:VaultS}{ns:List Int}(h:Taken s t ns)(ok:PoolOk t.pool){n:Int}(hn:t.pool.state n=1)(hle:∀m,t.pool.state m=1→n≤m)(g:PageV):Taken s (t.make n g) (n :: ns):=by
 have ht:=there_of_state (by omega:t.pool.state n≠0)
 have h0:=count_of_free ok hn
 have hni:n ∉ ns:=fun hm=>by have:=h.cnt n hm;omega
 have hcnt:∀m,(t.make n g).pool.count m=if m=n then 1 else t.pool.count m:=fun m=>by
  have:=did_count (s:=t.pool) (b:=1) (m:=m) ht
  rw [h0] at this
  exact this
 refine⟨List.pairwise_cons.2 ⟨fun m hm=>h.low n hn m hm,h.desc⟩,?_,?_,?_,?_,h.last,h.refs,?_,?_,h.pf,?_,h.vf,?_,.step n g h.steps hn h0⟩
 · intro m hm
   rcases List.mem_cons.1 hm with rfl | hm
   · have hs:=(h.same m hni).1
     have hts:s.pool.there m:=⟨ht.1,by have:=ht.2;have:=h.len;omega⟩
     have e1:s.pool.lasts m=t.pool.lasts m:=by unfold PoolS.lasts;rw [h.last]
     rw [state_there hts,e1, ← hs, ← state_there ht]
     exact hn
   · exact h.free m hm
 · intro m hm
   rw [hcnt]
   rcases List.mem_cons.1 hm with rfl | hm
   · rw [if_pos rfl]
   · split
     · rfl
     · exact h.cnt m hm
 · intro m hm
   have hm1:m≠n:=fun e=>hm (by rw [e];simp)
   have hm2:m ∉ ns:=fun e=>hm (by simp [e])
   rw [hcnt,if_neg hm1]
   refine⟨(h.same m hm2).1,?_⟩
   show (if m=n then some g else t.on m)=_
   rw [if_neg hm1]
   exact(h.same m hm2).2
 · intro m hm k hk
   have hs:=did_state (s:=t.pool) (b:=1) (m:=m) ht
   have hm':(t.pool.did n 1).state m=1:=hm
   rw [hm'] at hs
   by_cases hmn:m=n
   · rw [if_pos hmn,h0] at hs
     unfold stateOf at hs
     simp at hs
     split at hs<;>omega
   · rw [if_neg hmn] at hs
     rcases List.mem_cons.1 hk with rfl | hk
     · have:=hle m hs.symm;omega
     · exact h.low m hs.symm k hk
 · show (t.pool.counts.set _ _).length=_
   rw [List.length_set];exact h.len
 · have h1:=did_many ok hn
   have h2:=h.many
   show (t.pool.did n 1).many 1+(ns.length+1)=_
   omega
 · show (t.pool.acts++ [_]).length=_
   rw [List.length_append,h.pa]
   simp only [List.length_cons,List.length_nil];omega
 · show (t.acts++ [_]).length=_
   rw [List.length_append,h.va]
   simp only [List.length_cons,List.length_nil];omega
def chunk(V:List Int)(j:Nat):List Int:=(V.drop (480*j)).take 480
def chunks(V:List Int):Nat:=(V.length+479) / 480
def ChainAt(s:VaultS)(V:List Int):Nat→Nat→Int→List Int→Prop
 | 0,_,c,ns=>c=0∧ns= []
 | k+1,j,c,ns=> ∃c' ns',ns=c :: ns'∧(1≤c∧c≤65536)∧s.pool.count c=1∧s.on c=some (blobV (chunk V j) c')∧ChainAt s V k (j+1) c' ns'
theorem chain_len {s:VaultS}{V:List Int}:∀ {k j:Nat} {c:Int} {ns:List Int},ChainAt s V k j c ns→ns.length=k:=by
 intro k
 induction k with
 | zero=>intro j c ns h;rw [h.2];rfl
 | succ k ih=>
   intro j c ns h
   obtain⟨c',ns',rfl,_,_,_,h5⟩:=h
   simp [ih h5]
theorem chain_keep {s s':VaultS}{V:List Int}:∀ {k j:Nat} {c:Int} {ns:List Int},(∀n∈ns,s'.pool.count n=s.pool.count n∧s'.on n=s.on n)→ChainAt s V k j c ns→ChainAt s' V k j c ns:=by
 intro k
 induction k with
 | zero=>intro j c ns _ h;exact h
 | succ k ih=>
   intro j c ns hk h
   obtain⟨c',ns',rfl,h2,h3,h4,h5⟩:=h
   have h1:=hk c (by simp)
   exact⟨c',ns',rfl,h2,h1.1.trans h3,h1.2.trans h4,ih (fun n hn=>hk n (by simp [hn])) h5⟩
end Go.Cop
namespace Go.Proofs.YtbobcmimkonnoaaGreat.J4
open ChangeShapes WideShapes ChangeAt RowKit Sl Cop D2 K3 N3 Q3 G2 M2 U3 Y3 Z3 D4 E4 F4
theorem vault_ok {v:Nat}{s:VaultS}{F:Pr}{w:World}(h:Sat ((VaultA v s).star F) w):PoolOk s.pool∧0≤s.floor∧s.floor+s.acts.length≤1099511627776:=by
 obtain⟨x,ok,h1⟩:=vaultA_iff.1 h
 have h2:Sat ((PoolA x.p s.pool).star ((Pr.pts v (.cells #[.pointer (some ⟨x.p,0,none⟩),.map (some x.mb),x.av,.int .i64 s.floor] 71)).star
  ((((MapA Tryz.prog 3 x.mb x.f).star ((Row 158 2 x.av s.acts.length (actCells x.axs)).star (Pr.own x.h)))).star F))) w:=h1.perm (by unfold VaultAt;ac_rfl)
 exact⟨(poolA_rd h2).1,ok.f0,ok.fb⟩
theorem vmark_A(v:Nat)(s:VaultS)(F:Pr)(w:World)(hF:Sat ((VaultA v s).star F) w):
 Calls Tryz.prog 54 #[.pointer (some ⟨v,0,none⟩)] w fun e w'=>e= .returned (.int .i64 (s.floor+s.acts.length))∧Only w w':=by
 obtain⟨_,b1,b2⟩:=vault_ok hF
 obtain⟨x,ok,h1⟩:=vaultA_iff.1 hF
 have h2:Sat ((Row 158 2 x.av s.acts.length (actCells x.axs)).star ((Pr.pts v (.cells #[.pointer (some ⟨x.p,0,none⟩),.map (some x.mb),x.av,.int .i64 s.floor] 71)).star
  ((((MapA Tryz.prog 3 x.mb x.f).star ((PoolA x.p s.pool).star (Pr.own x.h)))).star F))) w:=h1.perm (by unfold VaultAt;ac_rfl)
 obtain⟨aa,ca,ea,_,_⟩:=Row.read h2
 have q2:w.cell? ⟨v,2,none⟩=some (.slice aa s.acts.length ca):=by rw [cell_of_heap h2.right.pts_heap, ← ea];rfl
 have q3:w.cell? ⟨v,3,none⟩=some (.int .i64 s.floor):=by rw [cell_of_heap h2.right.pts_heap];rfl
 clear h2 h1 hF ok ea
 generalize s.floor=fl at*
 generalize s.acts.length=al at*
 go_enter Tryz.func54,Tryz.ntmps54
 go_wp2
 go_region
 go_wp2
 go_ret
 exact⟨rfl,(Only.refl w).drew⟩
theorem infoItemS:(Tryz.prog.info? 58).map (·.size)=some 4:=by kernel_rfl
end Go.Proofs.YtbobcmimkonnoaaGreat.J4
namespace Go.Proofs.YtbobcmimkonnoaaGreat.K4
open ChangeShapes WideShapes ChangeAt RowKit Sl Cop D2 K3 N3 Q3 G2 M2 U3 Y3 Z3 D4 E4 F4 J4
theorem row_room {F:Pr}{w:World}(T:Nat)(z:Value)(n:Nat)(hn:n≤maxLen)(h:Sat F w):
 Sat ((Row T 1 (.slice (some ⟨w.heap.size,0,none⟩) 0 n) 0 []).star F) (w.alloc (.cells (madeCells #[z] n) T)):=by
 have h1:=h.alloc (.cells (madeCells #[z] n) T)
 refine Row.mk' (xs:= []) (sp:=List.replicate n z) (by simp) (by simp) (Nat.zero_le _) hn ?_
 rw [List.nil_append, ← made_rep]
 exact h1
end Go.Proofs.YtbobcmimkonnoaaGreat.K4
namespace Go.Proofs.YtbobcmimkonnoaaGreat.L4
open ChangeShapes WideShapes ChangeAt RowKit Sl Cop D2 K3 N3 Q3 G2 M2 U3 Y3 Z3 D4 E4 F4 J4 K4
def pagesOf(n:Int):Int:=if n≤32 then 0 else(n-1) / 480+1
def longV:List Int:=(List.replicate 500 0).set 499 7
end Go.Proofs.YtbobcmimkonnoaaGreat.L4
namespace Go.Proofs.YtbobcmimkonnoaaGreat.P4
open ChangeShapes WideShapes ChangeAt RowKit Sl
def heapOf(w:World):Hp:=fun k=>w.heap[k]?
theorem sat_heap(w:World):Sat (Pr.own (heapOf w)) w:=⟨heapOf w,rfl,fun _ _ e=>e⟩
theorem heap_of_sat {w w':World}(h:Sat (Pr.own (heapOf w)) w'):∀k,k<w.heap.size→w'.heap[k]? =w.heap[k]? :=by
 obtain⟨x,rfl,hl⟩:=h
 intro k hk
 have e:heapOf w k=some w.heap[k]:=Array.getElem?_eq_getElem hk
 rw [hl k _ e]
 exact e.symm
theorem kept_of {w w':World}(hs:Stays w w')(h:∀k,k<w.heap.size→w'.heap[k]? =w.heap[k]?)(may:MemPlace→Prop):w.keptBut w' may:=by
 refine⟨hs.os,hs.output,fun i hi=> ?_⟩
 rw [h i hi]
 cases w.heap[i]? with
 | none=>rfl
 | some o=>cases o<;>simp
end Go.Proofs.YtbobcmimkonnoaaGreat.P4
namespace Go.Proofs.YtbobcmimkonnoaaGreat.Q4
open ChangeShapes WideShapes ChangeAt RowKit Sl Cop Deep G2 P4
theorem laidOut:laidOutB Tryz.prog=true:=by kernel_rfl
theorem heap_cell {w:World}{b i:Nat}{v:Value}(h:w.cell? ⟨b,i,none⟩=some v):(heapOf w).cell b i=some v:=by
 unfold World.cell? at h
 unfold Hp.cell heapOf
 simp only at h
 cases hb:w.heap[b]? with
 | none=>rw [hb] at h;simp at h
 | some o=>
   rw [hb] at h
   cases o<;>simp_all
section
variable {H:Type}{enc:TypeId × Value→H}
theorem cells_u8:Tryz.prog.cellsOf 5=1:=by kernel_rfl
theorem stays {W W':World}(hh:∀k,k<W.heap.size→W'.heap[k]? =W.heap[k]?){t:TypeId}(hr:Tryz.prog.readableRec t=true)(ht:t<Tryz.prog.types.size){v:Value}{d:DataW H}{p:List MemPlace}
 (h:DataW.Trod enc Tryz.prog W 0 (fun _=>true) true t v d p) (hp:∀x∈p,x.block<W.heap.size):DataW.Trod enc Tryz.prog W' 0 (fun x=>decide (x<W.heap.size)) true t v d p:=
 WideElems.Trod_stays (P:=Tryz.prog) laidOut hr ht h
  (fun x hx=>by
    have hlt:=hp x hx
    cases x with
    | cell b o=>
      show W'.cell? ⟨b,o,none⟩=W.cell? ⟨b,o,none⟩
      unfold World.cell?
      rw [hh b hlt]
    | map b=>exact hh b hlt)
  (fun x hx=>by simpa using hp x hx)
end
end Go.Proofs.YtbobcmimkonnoaaGreat.Q4
namespace Go.Cop
def Trail(s:PoolS):List Int→List (Int × Int)→List Int→Prop
 | c0,[],c1=>c0=c1
 | c0,a :: l,c1=>({ s with counts:=c0 }:PoolS).there a.1∧0≤({ s with counts:=c0 }:PoolS).count a.1∧({ s with counts:=c0 }:PoolS).count a.1≤65536∧(-65536≤a.2∧a.2≤65536)∧
     Trail s (({ s with counts:=c0 }:PoolS).turn a.1 a.2).counts l c1
theorem trail_snoc {s:PoolS}{a:Int × Int}:∀ {l:List (Int × Int)} {c0 c:List Int},Trail s c0 (l++ [a]) c→∃c',Trail s c0 l c'∧({ s with counts:=c' }:PoolS).there a.1∧
 0≤({ s with counts:=c' }:PoolS).count a.1∧({ s with counts:=c' }:PoolS).count a.1≤65536∧(-65536≤a.2∧a.2≤65536)∧c=(({ s with counts:=c' }:PoolS).turn a.1 a.2).counts:=by
 intro l
 induction l with
 | nil=>intro c0 c h;obtain⟨h1,h2,h3,h4,h5⟩:=h;exact⟨c0,rfl,h1,h2,h3,h4,h5.symm⟩
 | cons x l ih=>
   intro c0 c h
   obtain⟨h1,h2,h3,h4,h5⟩:=h
   obtain⟨c',h6,h7⟩:=ih h5
   exact⟨c',⟨h1,h2,h3,h4,h6⟩,h7⟩
theorem trail_then {s:PoolS}{a:Int × Int}:∀ {l:List (Int × Int)} {c0 c:List Int},Trail s c0 l c→({ s with counts:=c }:PoolS).there a.1→
 0≤({ s with counts:=c }:PoolS).count a.1→({ s with counts:=c }:PoolS).count a.1≤65536→(-65536≤a.2∧a.2≤65536)→Trail s c0 (l++ [a]) (({ s with counts:=c }:PoolS).turn a.1 a.2).counts:=by
 intro l
 induction l with
 | nil=>intro c0 c h h1 h2 h3 h4;cases h;exact⟨h1,h2,h3,h4,rfl⟩
 | cons x l ih=>
   intro c0 c h h1 h2 h3 h4
   obtain⟨g1,g2,g3,g4,g5⟩:=h
   exact⟨g1,g2,g3,g4,ih g5 h1 h2 h3 h4⟩
theorem turn_back {s:PoolS}{n b:Int}(h:s.there n):(s.turn n b).turn n (-b)=s:=by
 have hc:=turn_count (b:=b) (m:=n) h
 rw [if_pos rfl] at hc
 have hx:s.count n=s.counts.getD (n.toNat-1) 0:=by unfold PoolS.count;rw [if_pos h]
 obtain⟨h1,h2⟩:=h
 have:(s.turn n b).turn n (-b)= { s with counts:=((s.turn n b).counts).set (n.toNat-1) ((s.turn n b).count n+ -b) }:=rfl
 rw [this,hc]
 have e:(s.turn n b).counts.set (n.toNat-1) (s.count n+b+ -b)=s.counts:=by
  show (s.counts.set _ _).set _ _=_
  rw [List.set_set,show s.count n+b+ -b=s.count n by omega,hx]
  apply List.ext_getElem?
  intro i
  by_cases hi:i=n.toNat-1
  · subst hi
    rw [List.getElem?_set_self (by omega),List.getD_eq_getElem?_getD,List.getElem?_eq_getElem (by omega)]
    rfl
  · rw [List.getElem?_set_ne (by omega)]
 rw [e]
end Go.Cop
namespace Go.Proofs.YtbobcmimkonnoaaGreat.S4
open ChangeShapes WideShapes ChangeAt RowKit Sl Cop D2 K3 L3 M3 N3
theorem poolA_act {p:Nat}{s:PoolS}{F:Pr}{w:World}(h:Sat ((PoolA p s).star F) w){k:Nat}(hk:k<s.acts.length):
 ∃ab c bp bn bb,∃h0:Hp,h0.le w∧w.cell? ⟨p,9,none⟩=some (.slice (some ⟨ab,0,none⟩) s.acts.length c)∧
  w.cell? ⟨ab,k,none⟩=some (.func (.func 165) #[] #[.pointer (some ⟨bp,0,none⟩),.pointer (some ⟨bn,0,none⟩),.pointer (some ⟨bb,0,none⟩)])∧
  h0.cell bp 0=some (.pointer (some ⟨p,0,none⟩))∧h0.cell bn 0=some (.int .i64 s.acts[k].1)∧h0.cell bb 0=some (.int .i64 s.acts[k].2):=by
 obtain⟨ok,cv,lv,fb,av,hA⟩:=poolA_iff.1 h
 have hA1:Sat ((ActsA p av s.acts).star ((Pr.pts p (.cells (poolCells s cv lv fb av) 124)).star ((IntsRow cv s.counts).star ((BoolsRow lv s.last).star ((SetOf fb fun m=>s.state m=1).star F))))) w:=hA.perm (by unfold PoolAt;ac_rfl)
 unfold ActsA at hA1
 obtain⟨⟨fs,hx⟩,h2⟩:=Sat.ex.1 hA1
 rw [Pr.star_assoc] at h2
 obtain⟨⟨l1,l2⟩,h3⟩:=Sat.pure.1 h2
 dsimp only at h3 l1 l2
 rw [Pr.star_assoc] at h3
 obtain⟨a,c,hav,_,hrow⟩:=Row.read h3
 obtain⟨ab,hab,hc⟩:=hrow (by omega)
 subst hab
 subst hav
 obtain⟨bp,bn,bb,e,g1,g2,g3⟩:=l2 k hk (by omega)
 refine⟨ab,c,bp,bn,bb,hx,h3.right.own,by rw [cell_of_heap h3.right.right.pts_heap];rfl,?_,g1,g2,g3⟩
 rw [(hc k (by omega)).1,List.getElem?_eq_getElem (by omega),e]
end Go.Proofs.YtbobcmimkonnoaaGreat.S4
namespace Go.Proofs.YtbobcmimkonnoaaGreat.U4
open ChangeShapes WideShapes ChangeAt RowKit Sl Cop D2 K3 L3 M3 N3 S4
theorem cap_of {p:Nat}{s:PoolS}{cv lv:Value}{fb:Nat}{av:Value}{F:Pr}{w:World}{a:Option Addr}{c:Nat}(h:Sat ((PoolAt p s cv lv fb av).star F) w)(h9:w.cell? ⟨p,9,none⟩=some (.slice a s.acts.length c)):s.acts.length≤c:=by
 have hA1:Sat ((Pr.pts p (.cells (poolCells s cv lv fb av) 124)).star ((ActsA p av s.acts).star ((IntsRow cv s.counts).star ((BoolsRow lv s.last).star ((SetOf fb fun m=>s.state m=1).star F))))) w:=h.perm (by unfold PoolAt;ac_rfl)
 have e:w.cell? ⟨p,9,none⟩=some av:=by rw [cell_of_heap hA1.pts_heap];rfl
 rw [e] at h9
 cases h9
 have h2:=hA1.right
 unfold ActsA at h2
 obtain⟨⟨fs,hx⟩,h3⟩:=Sat.ex.1 h2
 rw [Pr.star_assoc] at h3
 obtain⟨_,h4⟩:=Sat.pure.1 h3
 dsimp only at h4
 rw [Pr.star_assoc] at h4
 obtain⟨_,(⟨e1,e2,_⟩ | ⟨b',cap',sp,e1,_,e2,_,_⟩)⟩:=Row.open' h4
 · simp only [Value.slice.injEq] at e1;omega
 · simp only [Value.slice.injEq] at e1;omega
theorem row_cut {T n c m:Nat}{a:Option Addr}{xs:List Value}{F:Pr}{w:World}(h:Sat ((Row T 1 (.slice a n c) n xs).star F) w)(hm:m≤n):Sat ((Row T 1 (.slice a m c) m (xs.take m)).star F) w:=by
 refine h.mono fun x hx=> ?_
 obtain⟨hl,(⟨e,hn,hx⟩ | ⟨b,cap,sp,e,h1,h2,h3,h4⟩)⟩:=hx
 · cases e
   have:m=0:=by omega
   subst this
   exact⟨by simp,.inl ⟨rfl,rfl,hx⟩⟩
 · cases e
   refine⟨by simp;omega,.inr ⟨b,c,xs.drop m++sp,rfl,by simp;omega,by omega,h3,?_⟩⟩
   rw [← List.append_assoc,List.take_append_drop]
   exact h4
theorem acts_cut {p:Nat}{s:PoolS}{cv lv:Value}{fb:Nat}{a:Option Addr}{c m:Nat}{F:Pr}{w:World}(ok:PoolOk s)(hm:m≤s.acts.length)
 (h:Sat ((PoolAt p s cv lv fb (.slice a s.acts.length c)).star F) w):Sat ((PoolA p { s with acts:=s.acts.take m }).star F) (w.setCell ⟨p,9,none⟩ (.slice a m c)):=by
 have hlen:(s.acts.take m).length=m:=by rw [List.length_take];omega
 have ok':PoolOk { s with acts:=s.acts.take m }:=⟨ok.n1,ok.n2,ok.len,ok.r1,ok.r2,ok.cs,ok.fl,by
  have:=ok.mb
  show s.floor+((s.acts.take m).length:Nat)≤ _
  rw [hlen];omega⟩
 refine poolA_iff.2 ⟨ok',cv,lv,fb,.slice a m c,?_⟩
 have hA1:Sat ((ActsA p (.slice a s.acts.length c) s.acts).star ((Pr.pts p (.cells (poolCells s cv lv fb (.slice a s.acts.length c)) 124)).star ((IntsRow cv s.counts).star ((BoolsRow lv s.last).star ((SetOf fb fun m=>s.state m=1).star F))))) w:=h.perm (by unfold PoolAt;ac_rfl)
 unfold ActsA at hA1
 obtain⟨⟨fs,hx⟩,h2⟩:=Sat.ex.1 hA1
 rw [Pr.star_assoc] at h2
 obtain⟨⟨l1,l2⟩,h3⟩:=Sat.pure.1 h2
 dsimp only at l1 l2 h3
 rw [Pr.star_assoc] at h3
 have h4:=row_cut h3 hm
 have h5:Sat ((Pr.pts p (.cells (poolCells s cv lv fb (.slice a s.acts.length c)) 124)).star ((Row 179 1 (.slice a m c) m (fs.take m)).star ((Pr.own hx).star ((IntsRow cv s.counts).star ((BoolsRow lv s.last).star ((SetOf fb fun m=>s.state m=1).star F)))))) w:=h4.perm (by ac_rfl)
 have h6:Sat ((Pr.pts p (.cells (poolCells s cv lv fb (.slice a m c)) 124)).star ((Row 179 1 (.slice a m c) m (fs.take m)).star ((Pr.own hx).star ((IntsRow cv s.counts).star ((BoolsRow lv s.last).star ((SetOf fb fun m=>s.state m=1).star F)))))) (w.setCell ⟨p,9,none⟩ (.slice a m c)):=h5.setCell (i:=9) (.slice a m c)
 have h7:Sat (((Row 179 1 (.slice a m c) m (fs.take m)).star (Pr.own hx)).star ((Pr.pts p (.cells (poolCells s cv lv fb (.slice a m c)) 124)).star ((IntsRow cv s.counts).star ((BoolsRow lv s.last).star ((SetOf fb fun m=>s.state m=1).star F))))) (w.setCell ⟨p,9,none⟩ (.slice a m c)):=h6.perm (by ac_rfl)
 have h8:Sat ((ActsA p (.slice a m c) (s.acts.take m)).star ((Pr.pts p (.cells (poolCells s cv lv fb (.slice a m c)) 124)).star ((IntsRow cv s.counts).star ((BoolsRow lv s.last).star ((SetOf fb fun m=>s.state m=1).star F))))) (w.setCell ⟨p,9,none⟩ (.slice a m c)):=by
  unfold ActsA
  refine Sat.ex.2 ⟨(fs.take m,hx),?_⟩
  rw [Pr.star_assoc]
  refine Sat.pure.2 ⟨⟨by rw [List.length_take,List.length_take,l1],fun i hi hf=> ?_⟩,?_⟩
  · have h1:i<s.acts.length:=by rw [hlen] at hi;omega
    rw [List.getElem_take,List.getElem_take]
    exact l2 i h1 (by omega)
  · rw [hlen];exact h7
 exact h8.perm (show _=((Pr.pts p (.cells (poolCells s cv lv fb (.slice a m c)) 124)).star ((IntsRow cv s.counts).star ((BoolsRow lv s.last).star ((SetOf fb fun m=>s.state m=1).star (ActsA p (.slice a m c) (s.acts.take m)))))).star F from by ac_rfl)
theorem undo_any(p:Nat)(s:PoolS)(m:Nat)(cm:List Int)(F:Pr)(w:World)(hF:Sat ((PoolA p s).star F) w)(hm:m≤s.acts.length)(ht:Trail s cm (s.acts.drop m) s.counts):
 Calls Tryz.prog 162 #[.pointer (some ⟨p,0,none⟩),.int .i64 (s.floor+m)] w fun e w'=>
  e= .returned (.bool true)∧Sat ((PoolA p { s with counts:=cm,acts:=s.acts.take m }).star F) w'∧Stays w w':=by
 obtain⟨ok,_,h10,⟨aa,cc,h9⟩,_⟩:=poolA_rd hF
 have C:=hQ (mark_A p s F w hF)
 have b1:=ok.fl
 have b2:=ok.mb
 have em:s.mark=s.floor+s.acts.length:=rfl
 rw [em] at C
 have HF:=hQ hF
 have HT:=hQ ht
 clear hF ht ok em
 go_enter Tryz.func162,Tryz.ntmps162
 go_wp2_with fail
 refine C.out.mono ?_
 rintro e w1 ⟨rfl,hst,hh⟩
 have h9':w1.cell? ⟨p,9,none⟩=some (.slice aa s.acts.length cc):=by unfold World.cell? at h9 ⊢;rw [hh];exact h9
 have h10':w1.cell? ⟨p,10,none⟩=some (.int .i64 s.floor):=by unfold World.cell? at h10 ⊢;rw [hh];exact h10
 have H1:=hQ (HF.out.ext (w':=w1) (fun _ _=>by rw [hh]))
 have hd:decide (s.acts.length<m)=false:=by rw [decide_eq_false_iff_not];omega
 have hd2:¬s.acts.length<m:=by omega
 clear h9 h10 hh C
 go_wp2
 clear hd hd2
 go_loopw [5] (fun i wr=> ∃(j:Nat) (c:List Int),j≤s.acts.length-m∧i= .int .i64 ((m:Int)+j-1)∧Stays w wr∧Trail s cm ((s.acts.drop m).take j) c∧Sat ((PoolA p { s with counts:=c }).star F) wr) (fun i _=>(intOf i+1).toNat)
 case atStart=>
  refine⟨s.acts.length-m,s.counts,Nat.le_refl _,?_,hst,?_,H1.out⟩
  · congr 1;omega
  · rw [List.take_of_length_le (by simp)];exact HT.out
 case round=>
  obtain⟨j,c,hj,rfl,hst2,htr,hinv⟩:=hrel
  obtain⟨ok2,_,h10,⟨a3,c3,h9⟩,_⟩:=poolA_rd hinv
  dsimp only at h10 h9
  cases j with
  | zero=>
    have hz:cm=c:=htr
    subst hz
    have zp:wr.frozen? ⟨p,9,none⟩=false:=by
     obtain⟨_,cv,lv,fb,av,hA⟩:=poolA_iff.1 hinv
     unfold PoolAt at hA
     rw [Pr.star_assoc] at hA
     exact frozen_of_heap hA.pts_heap 9
    have hcap:s.acts.length≤c3:=by
     obtain⟨_,cv,lv,fb,av,hA⟩:=poolA_iff.1 hinv
     exact cap_of (s:= { s with counts:=cm }) hA h9
    have HI:=hQ hinv
    clear hinv htr ok2
    go_wp2
    refine wp_region_staged (sz:=57) (by kernel_rfl) [0,1,2,3,4,5,6,7,8,9,10,11,12,13] [(14,[],[12])] rfl (by kernel_rfl) (by kernel_rfl) (by kernel_rfl) ?_
    have hw:IntKind.i64.wrap (s.floor+(m:Int)-s.floor)=(m:Int):=by rw [show s.floor+(m:Int)-s.floor=(m:Int) by omega,IntKind.wrap_i64];omega
    have hcond:(0:Int)≤(m:Int)∧(m:Int)≤(c3:Int):=by omega
    iterate 14 (refine wpQ_step rfl rfl (fun K hK=> ?_);go_simp;(try simp only [hw]);(try rw [if_pos hcond]);refine hK _ ?_;clear hK K)
    refine wpQ_nil ?_
    refine wpRest_act rfl ?_
    go_wp2
    refine onN_mk (wpQ_nil ⟨?_,wpRest_nil ?_⟩)
    · refine chk_cons ?_ chk_nil<;>(refine yieldF_of rfl rfl rfl rfl ?_;go_simp;try omega)
    go_wp2
    go_ret
    obtain⟨ok2,cv,lv,fb,av,hA⟩:=poolA_iff.1 HI.out
    have e9:wr.cell? ⟨p,9,none⟩=some av:=by
     have h9':Sat ((Pr.pts p (.cells (poolCells { s with counts:=cm } cv lv fb av) 124)).star ((ActsA p av s.acts).star ((IntsRow cv cm).star ((BoolsRow lv s.last).star ((SetOf fb fun m=>({ s with counts:=cm }:PoolS).state m=1).star F))))) wr:=hA.perm (by unfold PoolAt;ac_rfl)
     rw [cell_of_heap h9'.pts_heap];rfl
    rw [h9] at e9
    simp only [Option.some.injEq] at e9
    subst e9
    exact⟨rfl,acts_cut (s:= { s with counts:=cm }) ok2 hm (hA.drew),(hst2.drew).setCell _ _⟩
  | succ j=>
    have hlt:m+j<s.acts.length:=by omega
    have etk:(s.acts.drop m).take (j+1)=(s.acts.drop m).take j++ [s.acts[m+j]]:=by
     rw [List.take_succ_eq_append_getElem (by simp;omega)]
     simp
    rw [etk] at htr
    obtain⟨c',t1,t2,t3,t4,t5,t6⟩:=trail_snoc htr
    obtain⟨ab,c4,bp,bn,bb,h0,hle,g9,gk,g1,g2,g3⟩:=poolA_act hinv (k:=m+j) hlt
    dsimp only at g9 gk g1 g2 g3
    have e2:({ s with counts:=c }:PoolS)=({ s with counts:=c' }:PoolS).turn s.acts[m+j].1 s.acts[m+j].2:=by rw [t6];rfl
    have hcn:=turn_count (b:=s.acts[m+j].2) (m:=s.acts[m+j].1) t2
    rw [if_pos rfl] at hcn
    have A:=act1_any p ({ s with counts:=c }:PoolS) s.acts[m+j].1 s.acts[m+j].2 bp bn bb h0 g1 g2 g3 F wr hle hinv (by rw [e2];exact turn_there.2 t2) (by rw [e2,hcn];omega) (by rw [e2,hcn];omega) t5
    have e3:({ s with counts:=c }:PoolS).turn s.acts[m+j].1 (-s.acts[m+j].2)= { s with counts:=c' }:=by rw [e2];exact turn_back t2
    rw [e3] at A
    have HA:=hQ A
    have HTR:=hQ t1
    clear A e3 hcn e2 t1 t2 t3 t4 t5 t6 htr etk hinv ok2 h9 g1 g2 g3
    go_wp2_with fail
    refine HA.out.mono ?_
    rintro e w2 ⟨rfl,hs,hst3⟩
    go_wp2
    rw [show (m:Int)+((j:Int)+1)-1-1=(m:Int)+j-1 by omega]
    go_roundw
    case rel=>exact⟨j,c',by omega,rfl,hst2.trans hst3,HTR.out,hs⟩
    case measure=>simp [intOf];omega
end Go.Proofs.YtbobcmimkonnoaaGreat.U4
namespace Go.Proofs.YtbobcmimkonnoaaGreat.V4
open ChangeShapes WideShapes ChangeAt RowKit Sl Cop Go.Shelf D2 K3 N3 Q3 G2 M2 U3 Y3 Z3 D4 E4 F4
attribute [local go_sem] Oper.semAt_some
def encW(x:Int × WasX):Array Value:= #[.int .i64 x.1,.agg x.2.cells.toArray]
def backs(ws:List WasX):List (Int × WasX):=(ws.zipIdx.map fun x=>((x.2:Int),x.1)).reverse
theorem backs_len(ws:List WasX):(backs ws).length=ws.length:=by simp [backs]
theorem backs_at(ws:List WasX)(k:Nat)(hk:k<ws.length):(backs ws)[k]'(by rw [backs_len];exact hk)=(((ws.length-1-k:Nat):Int),ws[ws.length-1-k]'(by omega)):=by
 simp [backs]
theorem was_cells_at(ws:List WasX)(k j:Nat)(hk:k<ws.length)(hj:j<7):(ws.flatMap WasX.cells)[k*7+j]? =ws[k].cells[j]? :=by
 induction ws generalizing k with
 | nil=>simp at hk
 | cons x ws ih=>
   have hx:x.cells.length=7:=rfl
   cases k with
   | zero=>simp only [List.flatMap_cons,Nat.zero_mul,Nat.zero_add,List.getElem_cons_zero];rw [List.getElem?_append_left (by omega)]
   | succ k=>
     simp only [List.flatMap_cons,List.getElem_cons_succ]
     rw [List.getElem?_append_right (by omega),hx,show (k+1)*7+j-7=k*7+j by omega]
     exact ih k (by simpa using hk)
def BackOwn(sb:Nat)(wv:Value)(h:Hp):Pr:=(Pr.pts sb (.cells #[wv] 156)).star (Pr.own h)
theorem backward1(sb:Nat)(wv:Value)(h:Hp)(ws:List WasX)(hrow:RowIn h 7 wv ws.length (ws.flatMap WasX.cells))(hl:ws.length≤65536):
 IterSl Tryz.prog 169 #[.pointer (some ⟨sb,0,none⟩)] encW (backs ws) (BackOwn sb wv h):=by
 intro l J Jx W hY h0
 refine(callsIn_wide (n:=3)).1 ?_
 refine callsIn_of_wp Tryz.func169 rfl trivial ?_ rfl
 simp only [Tryz.ntmps169,List.size_toArray,List.length_cons,List.length_nil,Nat.reduceAdd,Nat.reduceSub,Array.replicate_succ,Array.replicate_zero,List.push_toArray,List.append_toArray,List.nil_append,List.cons_append]
 obtain⟨_,aw,cw,rfl,_,_,hc⟩:=hrow
 have facts:∀(A:Pr) (wr:World),Sat (A.star (BackOwn sb (.slice aw ws.length cw) h)) wr→wr.cell? ⟨sb,0,none⟩=some (.slice aw ws.length cw)∧sb<wr.heap.size∧h.le wr:=by
  intro A wr hs
  unfold BackOwn at hs
  have h1:Sat ((Pr.pts sb (.cells #[.slice aw ws.length cw] 156)).star ((Pr.own h).star A)) wr:=hs.perm (by ac_rfl)
  exact⟨by rw [cell_of_heap h1.pts_heap];rfl,h1.lt,h1.right.own⟩
 have F0:=facts _ _ h0
 obtain⟨q1,z1,_⟩:=F0
 have HF:=hQ facts
 have HY:=hQ hY
 have H0:=hQ h0
 have HC:=hQ hc
 clear facts hY h0 hc
 gi_wp2
 gi_loopw [3] (fun i wr=> ∃r:Nat,r≤ws.length∧i= .int .i64 ((r:Int)-1)∧Stays W wr∧Sat ((J ((backs ws).take (ws.length-r))).star (BackOwn sb (.slice aw ws.length cw) h)) wr) (fun i _=>(intOf i+1).toNat)
 case atStart=>exact⟨ws.length,Nat.le_refl _,rfl,Stays.refl _,by rw [Nat.sub_self];exact H0.out⟩
 case round=>
  obtain⟨r,hr,rfl,hR,hs⟩:=hrel
  cases r with
  | zero=>
    gi_wp2
    go_end0
    refine⟨⟨_,rfl⟩,hR,.inl ⟨_,rfl,?_⟩⟩
    rw [Nat.sub_zero,List.take_of_length_le (by rw [backs_len];exact Nat.le_refl _)] at hs
    exact hs
  | succ r=>
    obtain⟨q1,z1,hle⟩:=HF.out _ _ hs
    obtain⟨b,off,e1,hcell⟩:=HC.out (by omega)
    subst e1
    have hlt:r<ws.length:=by omega
    have cells:∀j,j<7→wr.cell? ⟨b,off+r*7+j,none⟩=ws[r].cells[j]? :=fun j hj=>by
     have h1:=hcell (r*7+j) (by omega)
     rw [was_cells_at ws r j hlt hj] at h1
     have h2:∃u,ws[r].cells[j]? =some u:=⟨ws[r].cells[j]'(by show j<7;exact hj),List.getElem?_eq_getElem _⟩
     obtain⟨u,hu⟩:=h2
     rw [hu] at h1 ⊢
     rw [Nat.add_assoc]
     exact Hp.cell_le hle h1
    have hat:=backs_at ws (ws.length-(r+1)) (by omega)
    have hidx:ws.length-1-(ws.length-(r+1))=r:=by omega
    simp only [hidx] at hat
    have hcat:(backs ws).take (ws.length-r)=(backs ws).take (ws.length-(r+1))++ [((r:Int),ws[r])]:=by
     rw [show ws.length-r=ws.length-(r+1)+1 by omega,List.take_succ_eq_append_getElem (by rw [backs_len];omega),hat]
    have hpre:(backs ws).take (ws.length-(r+1))++ [((r:Int),ws[r])]<+:backs ws:=by
     rw [← hcat];exact List.take_prefix _ _
    have HCAT:=hQ hcat
    have HP:=hQ hpre
    have HS:=hQ hs
    clear hat hidx hcat hpre hs hcell
    generalize ws[r]=X at*
    obtain⟨no,pk,pl,vi,vd,nx,th⟩:=X
    have c0:wr.cell? ⟨b,off+r*7,none⟩=some (.int .i64 no):=cells 0 (by omega)
    have c1:wr.cell? ⟨b,off+r*7+1,none⟩=some (.int .i64 pk):=cells 1 (by omega)
    have c2:wr.cell? ⟨b,off+r*7+2,none⟩=some (.int .i64 pl):=cells 2 (by omega)
    have c3:wr.cell? ⟨b,off+r*7+3,none⟩=some vi:=cells 3 (by omega)
    have c4:wr.cell? ⟨b,off+r*7+4,none⟩=some vd:=cells 4 (by omega)
    have c5:wr.cell? ⟨b,off+r*7+5,none⟩=some (.int .i64 nx):=cells 5 (by omega)
    have c6:wr.cell? ⟨b,off+r*7+6,none⟩=some (.bool th):=cells 6 (by omega)
    clear cells
    rw [show ((r+1:Nat):Int)-1=(r:Int) by omega]
    gi_wp2
    refine at_yield (HY.out Pr.emp ((backs ws).take (ws.length-(r+1))) ((r:Int),⟨no,pk,pl,vi,vd,nx,th⟩) _ HP.out (HS.out.perm (Pr.star_emp _).symm)) ?_
    rintro e w' ⟨hR',(⟨rfl,hs'⟩ | ⟨rfl,hs'⟩)⟩<;>rw [Pr.star_emp] at hs'
    · refine⟨_,rfl,?_⟩
      rw [← HCAT.out] at hs'
      have HS':=hQ hs'
      clear hs'
      gi_wp2
      go_roundw
      case rel=>exact⟨r,by omega,rfl,hR.trans hR',HS'.out⟩
      case measure=>simp [intOf]
    · refine⟨_,rfl,?_⟩
      have HS':=hQ hs'
      clear hs'
      gi_wp2
      refine bodyPost_ret (results_none rfl _ _ _) rfl ?_
      exact⟨⟨_,rfl⟩,hR.trans hR',.inr ⟨_,HP.out,HS'.out⟩⟩
end Go.Proofs.YtbobcmimkonnoaaGreat.V4
