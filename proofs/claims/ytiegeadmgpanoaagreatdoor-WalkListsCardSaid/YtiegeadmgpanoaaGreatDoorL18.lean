/- The library's Backward over what was, its iterator; the conditions stand as hypotheses. -/
import Derived.Test.YtiegeadmgpanoaaGreatDoorL14
import Derived.Maps.OwnIn
set_option maxRecDepth 100000
set_option maxHeartbeats 16000000
namespace Go.Proofs.YtiegeadmgpanoaaGreatDoor.D2
open ChangeShapes WideShapes ChangeAt RowKit Sl fB Go.Shelf L3 Z3
attribute [local go_sem] Oper.semAt_some
def wo(x:Int × gI):Array Value:= #[.int .i64 x.1,.agg x.2.cells.toArray]
def kx(ws:List gI):List (Int × gI):=(ws.zipIdx.map fun x=>((x.2:Int),x.1)).reverse
theorem uZ(ws:List gI):(kx ws).length=ws.length:=by simp [kx]
theorem Li(ws:List gI)(k:Nat)(hk:k<ws.length):(kx ws)[k]'(by rw [uZ];exact hk)=(((ws.length-1-k:Nat):Int),ws[ws.length-1-k]'(by omega)):=by
 simp [kx]
theorem Bn(ws:List gI)(k j:Nat)(hk:k<ws.length)(hj:j<7):(ws.flatMap gI.cells)[k*7+j]? =ws[k].cells[j]? :=by
 induction ws generalizing k with
 | nil=>simp at hk
 | cons x ws ih=>
   have hx:x.cells.length=7:=rfl;cases k with
   | zero=>simp only [aX,cB,Nat.zero_add,List.getElem_cons_zero];rw [bG (by omega)]
   | succ k=>
     simp only [aX,List.getElem_cons_succ];rw [bV (by omega),hx,show (k+1)*7+j-7=k*7+j by omega];exact ih k (by simpa using hk)
def j4(sb:Nat)(wv:Value)(h:Hp):Pr:=(Pr.pts sb (.cells #[wv] 167)).star (Pr.own h)
theorem zN(sb:Nat)(wv:Value)(h:Hp)(ws:List gI)(hrow:gj h 7 wv ws.length (ws.flatMap gI.cells))(hl:ws.length≤65536):
 Ez Tryz.prog 151 #[.pointer (some ⟨sb,0,none⟩)] wo (kx ws) (j4 sb wv h):=by
 intro l J Jx W hY h0;refine(callsIn_wide (n:=3)).1 ?_;refine callsIn_of_wp Tryz.func151 rfl trivial ?_ rfl;simp only [Tryz.ntmps151,bu,List.length_cons,List.length_nil,Nat.reduceAdd,Nat.reduceSub,Array.replicate_succ,Array.replicate_zero,bB,a_,List.nil_append,List.cons_append];obtain⟨_,aw,cw,rfl,_,_,hc⟩:=hrow
 have facts:∀(A:Pr) (wr:World),Sat (A.star (j4 sb (.slice aw ws.length cw) h)) wr→wr.cell? ⟨sb,0,none⟩=some (.slice aw ws.length cw)∧sb<wr.heap.size∧h.le wr:=by
  intro A wr hs;unfold j4 at hs;have h1:Sat ((Pr.pts sb (.cells #[.slice aw ws.length cw] 167)).star ((Pr.own h).star A)) wr:=hs.perm (by ac_rfl);exact⟨by rw [cell_of_heap h1.dL];rfl,h1.lt,h1.right.own⟩
 have F0:=facts _ _ h0;obtain⟨q1,z1,_⟩:=F0;have HF:=hQ facts;have HY:=hQ hY;have H0:=hQ h0;have HC:=hQ hc;clear facts hY h0 hc;gi_wp2
 gi_loopw [3] (fun i wr=> ∃r:Nat,r≤ws.length∧i= .int .i64 ((r:Int)-1)∧dN W wr∧Sat ((J ((kx ws).take (ws.length-r))).star (j4 sb (.slice aw ws.length cw) h)) wr) (fun i _=>(intOf i+1).toNat)
 case atStart=>exact⟨ws.length,aD _,rfl,dN.refl _,by rw [b_];exact H0.af⟩
 case round=>
  obtain⟨r,hr,rfl,hR,hs⟩:=hrel;cases r with
  | zero=>
    gi_wp2
    go_end0
    refine⟨⟨_,rfl⟩,hR,.inl ⟨_,rfl,?_⟩⟩;rw [Nat.sub_zero,bS (by rw [uZ];exact aD _)] at hs;exact hs
  | succ r=>
    obtain⟨q1,z1,hle⟩:=HF.af _ _ hs;obtain⟨b,off,e1,hcell⟩:=HC.af (by omega);subst e1;have hlt:r<ws.length:=by omega
    have cells:∀j,j<7→wr.cell? ⟨b,off+r*7+j,none⟩=ws[r].cells[j]? :=fun j hj=>by
     have h1:=hcell (r*7+j) (by omega);rw [Bn ws r j hlt hj] at h1;have h2:∃u,ws[r].cells[j]? =some u:=⟨ws[r].cells[j]'(by show j<7;exact hj),ag _⟩;obtain⟨u,hu⟩:=h2;rw [hu] at h1 ⊢;rw [cN];exact Hp.kG hle h1
    have hat:=Li ws (ws.length-(r+1)) (by omega);have hidx:ws.length-1-(ws.length-(r+1))=r:=by omega
    simp only [hidx] at hat
    have tj:(kx ws).take (ws.length-r)=(kx ws).take (ws.length-(r+1))++ [((r:Int),ws[r])]:=by
     rw [show ws.length-r=ws.length-(r+1)+1 by omega,aF (by rw [uZ];omega),hat]
    have hpre:(kx ws).take (ws.length-(r+1))++ [((r:Int),ws[r])]<+:kx ws:=by
     rw [← tj];exact List.take_prefix _ _
    have Is:=hQ tj;have HP:=hQ hpre;have HS:=hQ hs;clear hat hidx tj hpre hs hcell;generalize ws[r]=X at*;obtain⟨no,pk,pl,vi,vd,nx,th⟩:=X;have c0:wr.cell? ⟨b,off+r*7,none⟩=some (.int .i64 no):=cells 0 (by omega);have c1:wr.cell? ⟨b,off+r*7+1,none⟩=some (.int .i64 pk):=cells 1 (by omega);have c2:wr.cell? ⟨b,off+r*7+2,none⟩=some (.int .i64 pl):=cells 2 (by omega)
    have c3:wr.cell? ⟨b,off+r*7+3,none⟩=some vi:=cells 3 (by omega);have c4:wr.cell? ⟨b,off+r*7+4,none⟩=some vd:=cells 4 (by omega);have c5:wr.cell? ⟨b,off+r*7+5,none⟩=some (.int .i64 nx):=cells 5 (by omega);have c6:wr.cell? ⟨b,off+r*7+6,none⟩=some (.bool th):=cells 6 (by omega);clear cells;rw [show ((r+1:Nat):Int)-1=(r:Int) by omega];gi_wp2
    refine na (HY.af Pr.emp ((kx ws).take (ws.length-(r+1))) ((r:Int),⟨no,pk,pl,vi,vd,nx,th⟩) _ HP.af (HS.af.perm (Pr.ei _).symm)) ?_;rintro e w' ⟨hR',(⟨rfl,hs'⟩ | ⟨rfl,hs'⟩)⟩<;>rw [Pr.ei] at hs'
    · refine⟨_,rfl,?_⟩
      rw [← Is.af] at hs';have xg:=hQ hs';clear hs';gi_wp2
      go_roundw
      case rel=>exact⟨r,by omega,rfl,hR.trans hR',xg.af⟩
      case measure=>simp [intOf]
    · refine⟨_,rfl,?_⟩
      have xg:=hQ hs';clear hs';gi_wp2
      refine bodyPost_ret (results_none rfl _ _ _) rfl ?_;exact⟨⟨_,rfl⟩,hR.trans hR',.inr ⟨_,HP.af,xg.af⟩⟩
end Go.Proofs.YtiegeadmgpanoaaGreatDoor.D2
namespace Go.Sl
open Go.Maps
theorem Bo {Fn:Fence}{nF:Nat}{P:Program}{k:TypeId}{b:Nat}{f:Int→Option Value}{F:Pr}{w:World}{ops:Array Oper}{rest:List Oper}{o:Oper}{a:Act}{Q:Exit→Act→World→Prop}(hgd:o.guard=none)(m x:Operand)(t:TypeId)
 (hop:o.op= .call { callee:= .builtin .delete,args:= #[m,x],argTypes:= #[t,k] })
 (hk:P.underlying k=some (.int .i64)) {e:TypeId} (ht:P.underlying t=some (.map k e)) (n:Int) (hn:1≤n∧n≤65536)
 (hm:a.eval m= .map (some b)) (hx:a.eval x= .int .i64 n) (h:Sat ((fD P k b f).star F) w)
 (hK:∀w',Sat ((fD P k b (fun m=>if m=n then none else f m)).star F) w'→w.grownBy w' (some b)→wpListIn Fn nF P ops Q rest (a.put o.dst (.tuple #[])) w'):wpListIn Fn nF P ops Q (o :: rest) a w:=by
 refine wpListIn_plain hgd fun K' hK'=> ?_
 obtain⟨w',hrun,h1,h2⟩:=wI (ty:=o.type) hk ht hn h;unfold Oper.wpIn;refine⟨by simp [Oper.about,hop,resolve,Target.leads,Sem.run_pure],?_⟩;rw [Oper.semAt_plain Fn _ _ (by rw [hop];intro c hc';cases hc')];simp [execOp,hop,resolve,invoke,builtin,hm,hx,hrun,Result.andThen]
 exact hK' _ _ (hK w' h1 h2)
end Go.Sl
namespace Go.Proofs.YtiegeadmgpanoaaGreatDoor.D2
open ChangeShapes WideShapes ChangeAt RowKit Sl fB Go.Shelf L3 Z3
attribute [local go_sem] Oper.semAt_some
theorem ug(a:Option Addr)(n c:Nat)(w:World):Calls Tryz.prog 134 #[.slice a n c] w fun e w'=>
 e= .returned (.func (.func 151) #[] #[.pointer (some ⟨w.heap.size,0,none⟩)])∧w'=w.alloc (.cells #[.slice a n c] 167):=by
 go_enter Tryz.func134,Tryz.ntmps134
 go_wp2;go_ret;exact⟨rfl,rfl⟩
def struck(f:Int→Option Value)(l:List (Int × gI)):Int→Option Value:=fun m=>if m∈l.map (fun x=>x.2.no) then none else f m
theorem x9(f:Int→Option Value):struck f []=f:=by funext m;simp [struck]
theorem Dg(f:Int→Option Value)(l:List (Int × gI))(y:Int × gI):struck f (l++ [y])=fun m=>if m=y.2.no then none else struck f l m:=by
 funext m
 simp only [struck,aI,aT,aZ,aK,aC];by_cases h:m=y.2.no
 · rw [if_pos (Or.inr h),if_pos h]
 · rw [if_neg h]
   by_cases h2:m∈l.map (fun x=>x.2.no)
   · rw [if_pos (Or.inl h2),if_pos h2]
   · rw [if_neg (fun h3=>h3.elim h2 h),if_neg h2]
theorem zO {ws:List gI}{y:Int × gI}(h:y∈kx ws):y.2∈ws:=by
 unfold kx at h;rw [List.mem_reverse,bH] at h;obtain⟨⟨X,i⟩,h1,rfl⟩:=h;have:=(List.mem_zipIdx h1).2.2
 dsimp only at this ⊢;rw [this];exact aE _
theorem IY(v:Nat)(s:eC)(x:VX)(m:Nat)(cm:List Int)(wv:Value)(ws:List gI)(hrow:gj x.h 7 wv ws.length (ws.flatMap gI.cells))(hl:ws.length≤65536)(oL:∀X∈ws,X.th=false∧(1≤X.no∧X.no≤65536)∧we X.vi∧we X.vd)
 (F:Pr) (w:World) (hF:Sat ((fc v s x).star F) w) (hm:m≤s.pool.acts.length) (ht:Trail s.pool cm (s.pool.acts.drop m) s.pool.counts):
 Calls Tryz.prog 101 #[.pointer (some ⟨v,0,none⟩),.agg #[.int .i64 (s.pool.floor+m),wv]] w fun e w'=>
  e= .returned (.tuple #[])∧Sat ((fc v { s with pool:= { s.pool with counts:=cm,acts:=s.pool.acts.take m } } { x with f:=struck x.f (kx ws) }).star F) w'∧dN w w':=by
 have es:(w.alloc (.cells #[.pointer (some ⟨v,0,none⟩)] 27)).heap.size=w.heap.size+1:=by simp
 have h1:=(hF.alloc (.cells #[.pointer (some ⟨v,0,none⟩)] 27)).alloc (.cells #[.int .i64 (s.pool.floor+m),wv] 169);rw [es] at h1
 have h2:Sat ((eP x.p s.pool).star ((Pr.pts v (.cells #[.pointer (some ⟨x.p,0,none⟩),.map (some x.mb),x.av,.int .i64 s.floor] 108)).star ((Pr.pts w.heap.size (.cells #[.pointer (some ⟨v,0,none⟩)] 27)).star ((Pr.pts (w.heap.size+1) (.cells #[.int .i64 (s.pool.floor+m),wv] 169)).star
  ((((fD Tryz.prog 3 x.mb x.f).star ((Row 169 2 x.av s.acts.length (eI x.kA)).star (Pr.own x.h)))).star F))))) _:=h1.perm (by unfold fc;ac_rfl)
 have qv:=cell_of_heap h2.right.dL 0;have zv:=h2.right.lt;have U:=hQ (CS x.p s.pool m cm _ _ h2.drew hm ht);have eR:=hQ (((dN.refl w).alloc (.cells #[.pointer (some ⟨v,0,none⟩)] 27)).alloc (.cells #[.int .i64 (s.pool.floor+m),wv] 169));obtain⟨_,aw,cw,rfl,_,_,_⟩:=id hrow;have EW:=hQ hrow;have Xz:=hQ oL;clear h1 h2 hF es ht hrow oL
 refine iC (n:=9) Tryz.func101 rfl ?_;simp only [Tryz.ntmps101,bu,List.length_cons,List.length_nil,Nat.reduceAdd,Nat.reduceSub,Array.replicate_succ,Array.replicate_zero,bB,a_,List.nil_append,List.cons_append];go_wp2;refine wS 34 [0,1,2,3,4,5] [(6,[],[0,1,2,4])] ?_
 iterate 6 (refine fH rfl rfl (fun K hK=> ?_);go_simp;refine hK _ ?_;clear hK K)
 refine dU ?_;refine dK rfl ?_;go_wp2_with fail
 refine U.af.mono ?_;rintro e w1 ⟨rfl,h3,hst⟩
 have h4:Sat ((Pr.pts w.heap.size (.cells #[.pointer (some ⟨v,0,none⟩)] 27)).star ((Pr.pts (w.heap.size+1) (.cells #[.int .i64 (s.pool.floor+m),.slice aw ws.length cw] 169)).star ((Pr.pts v (.cells #[.pointer (some ⟨x.p,0,none⟩),.map (some x.mb),x.av,.int .i64 s.floor] 108)).star ((eP x.p { s.pool with counts:=cm,acts:=s.pool.acts.take m }).star ((fD Tryz.prog 3 x.mb x.f).star ((Row 169 2 x.av s.acts.length (eI x.kA)).star ((Pr.own x.h).star F))))))) w1:=h3.perm (by ac_rfl)
 have r0:w1.cell? ⟨w.heap.size,0,none⟩=some (.pointer (some ⟨v,0,none⟩)):=by rw [cell_of_heap h4.dL];rfl
 have r1:w1.cell? ⟨w.heap.size+1,1,none⟩=some (.slice aw ws.length cw):=by rw [cell_of_heap h4.right.dL];rfl
 have y0:=h4.lt;have y1:=h4.right.lt;have yv:=h4.right.right.lt;have H4:=hQ h4;have eQ:=hQ (eR.af.drew.trans hst);clear h3 h4 hst eR U qv zv;go_wp2;refine dQ (dU ⟨?_,dW ?_⟩)
 · refine d6 ?_ (d6 ?_ (d6 ?_ (d6 ?_ eM)))<;>(refine fj rfl rfl rfl rfl ?_;go_simp;try omega)
 go_wp2_with fail
 refine(ug _ _ _ _).mono ?_;rintro e w2 ⟨rfl,rfl⟩;have h5:=H4.af.alloc (.cells #[.slice aw ws.length cw] 167);have H5:=hQ h5;have fa:=hQ (eQ.af.alloc (.cells #[.slice aw ws.length cw] 167));clear h5 H4 eQ y0 y1 yv r0 r1;generalize w1.heap.size=sb at*;generalize w1.alloc (.cells #[.slice aw ws.length cw] 167)=w2 at*;go_wp2
 refine jM 9 (gf:=151) rfl (enters_of Tryz.func151 (by kernel_rfl) rfl) (zN sb (.slice aw ws.length cw) x.h ws EW.af hl) (fun _=>rfl)
  (fun pre=>(Pr.pts w.heap.size (.cells #[.pointer (some ⟨v,0,none⟩)] 27)).star ((Pr.pts (w.heap.size+1) (.cells #[.int .i64 (s.pool.floor+m),.slice aw ws.length cw] 169)).star ((Pr.pts v (.cells #[.pointer (some ⟨x.p,0,none⟩),.map (some x.mb),x.av,.int .i64 s.floor] 108)).star ((eP x.p { s.pool with counts:=cm,acts:=s.pool.acts.take m }).star ((fD Tryz.prog 3 x.mb (struck x.f pre)).star ((Row 169 2 x.av s.acts.length (eI x.kA)).star F)))))) (fun _ _=>Pr.pure False) ?start ?round ?done ?stop
 case start=>
  rw [x9];exact H5.af.perm (by unfold j4;ac_rfl)
 case round=>
  intro l' pre y W1 F1 hpre hs;have hmem:=Xz.af y.2 (zO (hpre.subset (bT _ (dx y))));obtain⟨i,no,pk,pl,vi,vd,nx,th⟩:=y;obtain⟨IZ,hno,⟨a1,m1,c1,e1⟩,⟨a2,m2,c2,e2⟩⟩:=hmem;dsimp only at IZ hno e1 e2;subst IZ;subst e1;subst e2;have ig:=hQ hs;clear hs;simp only [wo,gI.cells];gi_wp2
  have ny:=ig.af.alloc (.cells #[.int .i64 no,.int .i64 pk,.int .i64 pl,.slice a1 m1 c1,.slice a2 m2 c2,.int .i64 nx,.bool false] 194);obtain⟨B,hB⟩:∃B,W1.heap.size=B:=⟨_,rfl⟩;rw [hB] at ny ⊢
  refine⟨(dN.refl _).alloc _,(Pr.pts B (.cells #[.int .i64 no,.int .i64 pk,.int .i64 pl,.slice a1 m1 c1,.slice a2 m2 c2,.int .i64 nx,.bool false] 194)).star (((Pr.pts w.heap.size (.cells #[.pointer (some ⟨v,0,none⟩)] 27)).star ((Pr.pts (w.heap.size+1) (.cells #[.int .i64 (s.pool.floor+m),.slice aw ws.length cw] 169)).star ((Pr.pts v (.cells #[.pointer (some ⟨x.p,0,none⟩),.map (some x.mb),x.av,.int .i64 s.floor] 108)).star ((eP x.p { s.pool with counts:=cm,acts:=s.pool.acts.take m }).star ((fD Tryz.prog 3 x.mb (struck x.f pre)).star ((Row 169 2 x.av s.acts.length (eI x.kA)).star F)))))).star (j4 sb (.slice aw ws.length cw) x.h)),ny.perm (by ac_rfl),?_⟩
  clear ny ig hB;intro F2 W2 _ hs2
  have h1:Sat ((fD Tryz.prog 3 x.mb (struck x.f pre)).star ((Pr.pts B (.cells #[.int .i64 no,.int .i64 pk,.int .i64 pl,.slice a1 m1 c1,.slice a2 m2 c2,.int .i64 nx,.bool false] 194)).star ((Pr.pts w.heap.size (.cells #[.pointer (some ⟨v,0,none⟩)] 27)).star ((Pr.pts v (.cells #[.pointer (some ⟨x.p,0,none⟩),.map (some x.mb),x.av,.int .i64 s.floor] 108)).star (((Pr.pts (w.heap.size+1) (.cells #[.int .i64 (s.pool.floor+m),.slice aw ws.length cw] 169)).star ((eP x.p { s.pool with counts:=cm,acts:=s.pool.acts.take m }).star ((Row 169 2 x.av s.acts.length (eI x.kA)).star F))).star ((j4 sb (.slice aw ws.length cw) x.h).star F2)))))) W2:=hs2.perm (by ac_rfl)
  have g6:W2.cell? ⟨B,6,none⟩=some (.bool false):=by rw [cell_of_heap h1.right.dL];rfl
  have g0:W2.cell? ⟨B,0,none⟩=some (.int .i64 no):=by rw [cell_of_heap h1.right.dL];rfl
  have gV:W2.cell? ⟨w.heap.size,0,none⟩=some (.pointer (some ⟨v,0,none⟩)):=by rw [cell_of_heap h1.right.right.dL];rfl
  have gm:W2.cell? ⟨v,1,none⟩=some (.map (some x.mb)):=by rw [cell_of_heap h1.right.right.right.dL];rfl
  have zB:=h1.right.lt;have zV:=h1.right.right.lt;have zv:=h1.right.right.right.lt;have H1:=hQ h1;clear h1 hs2;gi_wp2
  obtain⟨w4,hrun,fp,mD⟩:=wI (ty:=0) Tryz.underlying3 Tryz.underlying105 hno H1.af.drew;have lZ:=hQ fp;have qx:=hQ mD;clear fp mD;gi_region
  all_goals (
   refine⟨(dN.refl W2).drew.eH qx.af,?_⟩
   dsimp only
   rw [Dg]
   have h9:Sat ((Pr.pts B (.cells #[.int .i64 no,.int .i64 pk,.int .i64 pl,.slice a1 m1 c1,.slice a2 m2 c2,.int .i64 nx,.bool false] 194)).star ((((Pr.pts w.heap.size (.cells #[.pointer (some ⟨v,0,none⟩)] 27)).star ((Pr.pts (w.heap.size+1) (.cells #[.int .i64 (s.pool.floor+m),.slice aw ws.length cw] 169)).star ((Pr.pts v (.cells #[.pointer (some ⟨x.p,0,none⟩),.map (some x.mb),x.av,.int .i64 s.floor] 108)).star ((eP x.p { s.pool with counts:=cm,acts:=s.pool.acts.take m }).star ((fD Tryz.prog 3 x.mb (fun m=>if m=no then none else struck x.f pre m)).star ((Row 169 2 x.av s.acts.length (eI x.kA)).star F)))))).star (j4 sb (.slice aw ws.length cw) x.h)).star F2)) w4:=lZ.af.perm (by ac_rfl)
   exact h9.right)
 case done=>
  intro D xs W2 hxs hst hs;subst hxs
  have h10:Sat ((Pr.pts D (.deferred (some []))).star ((Pr.pts w.heap.size (.cells #[.pointer (some ⟨v,0,none⟩)] 27)).star ((Pr.pts (w.heap.size+1) (.cells #[.int .i64 (s.pool.floor+m),.slice aw ws.length cw] 169)).star ((Pr.pts sb (.cells #[.slice aw ws.length cw] 167)).star (((Pr.pts v (.cells #[.pointer (some ⟨x.p,0,none⟩),.map (some x.mb),x.av,.int .i64 s.floor] 108)).star ((eP x.p { s.pool with counts:=cm,acts:=s.pool.acts.take m }).star ((fD Tryz.prog 3 x.mb (struck x.f (kx ws))).star ((Row 169 2 x.av s.acts.length (eI x.kA)).star (Pr.own x.h))))).star F))))) W2:=hs.perm (by unfold j4;ac_rfl)
  have QB:=hQ h10;have gg:=hQ (fa.af.trans hst);clear hs h10 hst;go_wp2;refine oi (D:=D) rfl QB.af.dL ⟨_,results_none rfl _ _ _,rfl,(QB.af.putObj (.deferred none)).right.right.right.right,gg.af.putObj _ _⟩
 case stop=>
  intro D c pre W2 _ hst hs;exact(Sat.pure.1 (hs.perm (Pr.dP _ _ _))).1.elim
end Go.Proofs.YtiegeadmgpanoaaGreatDoor.D2
namespace Go.Proofs.YtiegeadmgpanoaaGreatDoor.D2
open ChangeShapes WideShapes ChangeAt RowKit Sl fB L3 Z3
theorem Og(v:Nat)(s:eC)(g:Nat)(Da:Array Value)(F2:Pr)(F:Pr)(w:World)(hF:Sat ((dZ v s).star F) w)
 (eg:∀args w,(callFunc g args).run Tryz.prog w= .ok (.enter g args) w)
 (hc:∀ab w1,Sat ((td v s ab s.pool.mark []).star F) w1→Calls Tryz.prog g (#[.pointer (some ⟨ab,0,none⟩)]++Da) w1 fun e w'=>
   dN w1 w'∧e= .returned (.int .i64 12)∧Sat ((td v s ab s.pool.mark []).star F2) w'):
 Calls Tryz.prog 63 #[.pointer (some ⟨v,0,none⟩),.func (.func g) #[] Da] w fun e w'=>
  dN w w'∧e= .returned (.int .i64 12)∧Sat ((dZ v s).star F2) w':=by
 obtain⟨x,ok,hF⟩:=gC.1 hF
 have h1:Sat ((eP x.p s.pool).star ((Pr.pts v (.cells #[.pointer (some ⟨x.p,0,none⟩),.map (some x.mb),x.av,.int .i64 s.floor] 108)).star
  ((((fD Tryz.prog 3 x.mb x.f).star ((Row 169 2 x.av s.acts.length (eI x.kA)).star (Pr.own x.h)))).star F))) w:=hF.perm (by unfold fc;ac_rfl)
 have qv:w.cell? ⟨v,0,none⟩=some (.pointer (some ⟨x.p,0,none⟩)):=by rw [cell_of_heap h1.right.dL];rfl
 have C:=hQ (Bd x.p s.pool _ w h1);have HF:=hQ hF;have OK:=hQ ok;clear h1 hF ok;go_enter Tryz.func63,Tryz.ntmps63
 go_wp2_with fail
 refine C.af.mono ?_;rintro e w1 ⟨rfl,hst,hh⟩;have h2:=(HF.af.ext (w':=w1) (fun _ _=>by rw [hh])).alloc (.cells #[.int .i64 s.pool.mark,.slice none 0 0] 169)
 have h3:Sat ((td v s w1.heap.size s.pool.mark []).star F) _:=j3.2 ⟨x,.slice none 0 0,[],OK.af,⟨rfl,fun i h=>absurd h (by simp)⟩,h2.perm (by
  unfold kr
  rw [show (Row 194 7 (.slice none 0 0) ([]:List gI).length (([]:List gI).flatMap gI.cells))=Pr.emp from Row.nil _ _,Pr.ei]
  ac_rfl)⟩
 have D:=hQ (hc _ _ h3);have eR:=hQ (hst.alloc (.cells #[.int .i64 s.pool.mark,.slice none 0 0] 169));clear h2 h3 hst hh HF C qv hc OK;go_wp2_with fail
 refine(D.af).mono ?_;rintro e w2 ⟨jq,rfl,h4⟩;obtain⟨x2,wv,ws,tJ,oL,h5⟩:=j3.1 h4;have Qx:ws= []:=aM oL.1;subst Qx;have h6:Sat ((Row 194 7 wv 0 []).star ((Pr.pts w1.heap.size (.cells #[.int .i64 s.pool.mark,wv] 169)).star ((fc v s x2).star F2))) w2:=h5.perm (by unfold kr;show (Pr.star _ ((Pr.pts _ _).star (Row 194 7 wv 0 []))).star _=_;ac_rfl)
 obtain⟨aw,cw,ew,_,_⟩:=Row.read h6;subst ew;have hcw:=Row.bd h6;have q0:w2.cell? ⟨w1.heap.size,0,none⟩=some (.int .i64 s.pool.mark):=by rw [cell_of_heap h6.right.dL];rfl
 have q1:w2.cell? ⟨w1.heap.size,1,none⟩=some (.slice aw 0 cw):=by rw [cell_of_heap h6.right.dL];rfl
 have h7:=h6.right.right;have B:=IY v s x2 s.pool.acts.length s.pool.counts (.slice aw 0 cw) [] ⟨by simp,aw,cw,rfl,aG _,hcw,fun h=>absurd h (by simp)⟩ (by simp) (fun X hX=>by cases hX) F2 w2 h7 (aD _) (by rw [bP];rfl);have HB:=hQ B;have xB:=hQ tJ;have fa:=hQ (eR.af.trans jq);clear B h4 h5 h6 h7 D jq eR tJ oL;go_wp2_with fail
 refine HB.af.mono ?_;rintro e w3 ⟨rfl,h8,mP⟩;have e1:({ s with pool:= { s.pool with counts:=s.pool.counts,acts:=s.pool.acts.take s.pool.acts.length } }:eC)=s:=by rw [bE]
 have e2:({ x2 with f:=struck x2.f (kx []) }:VX)=x2:=by
  rw [show kx []= [] from rfl,x9]
 rw [e1,e2] at h8;have H8:=hQ h8;clear h8 HB e1 e2;go_wp2;go_ret;exact⟨fa.af.trans mP,rfl,gC.2 ⟨x2,xB.af,H8.af⟩⟩
theorem I0(v:Nat)(s:eC)(hp:Hp)(vi vd:Value)(d:List Int)(next:Int)(hd:1≤d.length∧d.length≤480)(hx:next=0∨1≤next∧next≤65536)(hg:fV hp (.agg (fW vi vd next)) (nG d next))(F:Pr)(w:World)
 (hF:Sat ((dZ v s).star ((Pr.own hp).star F)) w) (hno:∀m,s.pool.state m≠1) (hm:s.pool.floor+s.pool.acts.length<1099511627776):
 Calls Tryz.prog 38 #[.pointer (some ⟨v,0,none⟩),.agg (fW vi vd next)] w fun e w'=>
  dN w w'∧e= .returned (.tuple #[.int .i64 0,.int .i64 12])∧Sat ((dZ v s).star ((Pr.own hp).star F)) w':=by
 obtain⟨Zr,Zs,ee,lk,hb0⟩:=id hg;simp only [fW,fX,Value.agg.injEq,Array.mk.injEq,List.cons.injEq,and_true,true_and] at ee;obtain⟨rfl,rfl⟩:=ee;obtain⟨ai,ci,rfl,_⟩:=oq lk;obtain⟨_,ad,cd,rfl,_⟩:=id hb0;clear lk hb0;have es:(w.alloc (.cells #[.pointer (some ⟨v,0,none⟩)] 27)).heap.size=w.heap.size+1:=by simp
 have h1:=(hF.alloc (.cells #[.pointer (some ⟨v,0,none⟩)] 27)).alloc (.cells (fW (.slice ai 0 ci) (.slice ad d.length cd) next) 83);rw [es] at h1;have HC:=fun wx=>hQ (xq ai ad ci d.length cd next hd hx wx)
 have H1:=hQ h1;clear h1 hF es;go_enter Tryz.func38,Tryz.ntmps38
 go_wp2_with fail
 refine(HC _).af.mono ?_;rintro e w1 ⟨rfl,ho⟩;have h2:=H1.af.only ho;have h3:=h2.alloc (.cells #[.int .i64 0] 3)
 have h4:=h3.perm (B:=(dZ v s).star ((Pr.pts w.heap.size (.cells #[.pointer (some ⟨v,0,none⟩)] 27)).star ((Pr.pts w1.heap.size (.cells #[.int .i64 0] 3)).star ((Pr.pts (w.heap.size+1) (.cells (fW (.slice ai 0 ci) (.slice ad d.length cd) next) 83)).star ((Pr.own hp).star F))))) (by ac_rfl)
 have q0:(w1.alloc (.cells #[.int .i64 0] 3)).cell? ⟨w.heap.size,0,none⟩=some (.pointer (some ⟨v,0,none⟩)):=by rw [cell_of_heap h4.right.dL];rfl
 have D:=Og v s 70 #[.pointer (some ⟨w.heap.size,0,none⟩),.pointer (some ⟨w1.heap.size,0,none⟩),.pointer (some ⟨w.heap.size+1,0,none⟩)]
  ((Pr.pts w1.heap.size (.cells #[.int .i64 0] 3)).star ((Pr.own hp).star F)) _ _ h4 (fun _ _=>rfl) (fun ab wx hwx=>
    (G_ v s ab s.pool.mark w.heap.size w1.heap.size (w.heap.size+1) 0 hp (.slice ai 0 ci) (.slice ad d.length cd) d next (by omega) hg F wx hwx hm).mono (by
      rintro e w' ⟨hst,(⟨e1,_,e2⟩ | ⟨n,_,e2,_,_⟩)⟩
      · exact⟨hst,e1,e2⟩
      · exact absurd e2 (hno n)))
 have HD:=hQ D;have eR:=hQ (((((dN.refl w).alloc (.cells #[.pointer (some ⟨v,0,none⟩)] 27)).alloc (.cells (fW (.slice ai 0 ci) (.slice ad d.length cd) next) 83)).trans ho.st).alloc (.cells #[.int .i64 0] 3));clear D h4 h3 h2 ho H1 HC;go_wp2_with fail
 refine HD.af.mono ?_;rintro e w2 ⟨jq,rfl,h5⟩;have h6:=h5.perm (Pr.eD _ _ _);have q1:w2.cell? ⟨w1.heap.size,0,none⟩=some (.int .i64 0):=by rw [cell_of_heap h6.dL];rfl
 have H6:=hQ h6.right;clear h5 h6;go_wp2;go_ret2;exact⟨eR.af.trans jq,rfl,H6.af⟩
end Go.Proofs.YtiegeadmgpanoaaGreatDoor.D2
