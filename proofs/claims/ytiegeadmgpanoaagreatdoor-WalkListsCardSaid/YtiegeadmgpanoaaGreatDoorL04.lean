/- The set of runs: the iterator over what its runs have of a run. By a walk; the conditions stand as hypotheses. -/
import Derived.Test.YtiegeadmgpanoaaGreatDoorL02
set_option maxRecDepth 100000
set_option maxHeartbeats 16000000
namespace Go.Proofs.YtiegeadmgpanoaaGreatDoor.D2
open ChangeShapes WideShapes ChangeAt RowKit Sl Go.Shelf
attribute [local go_sem] Oper.semAt_some
def eS(rs:List (Int × Int)):List Value:=rs.flatMap fun r=> [.int .i64 r.1,.int .i64 r.2]
theorem lY(rs:List (Int × Int))(k:Nat)(h:k<rs.length):
 (eS rs)[k*2]? =some (.int .i64 rs[k].1)∧(eS rs)[k*2+1]? =some (.int .i64 rs[k].2):=by
 induction rs generalizing k with
 | nil=>simp at h
 | cons r rs ih=>
   cases k with
   | zero=>simp [eS]
   | succ k=>
     have:=ih k (by simpa using h)
     have e1:(k+1)*2=k*2+2:=by omega
     rw [e1];simp only [eS,aX,List.cons_append,List.nil_append,List.getElem?_cons_succ,List.getElem_cons_succ];exact this
theorem jN(a b:List (Int × Int)):eS (a++b)=eS a++eS b:=by simp [eS]
def I64(x:Int):Prop:= -9223372036854775808≤x∧x≤9223372036854775807
def iu(p:Nat)(v:Value)(rs:List (Int × Int)):Pr:=
 (Pr.pts p (.cells #[v] 197)).star (Row 199 2 v rs.length (eS rs))
def sA(lo hi:Int)(x:Int × Int):Option (Int × Int):=if max x.1 lo≤min x.2 hi then some (max x.1 lo,min x.2 hi) else none
def nI(rs:List (Int × Int))(lo hi:Int):List (Int × Int):=rs.filterMap (sA lo hi)
theorem xe {lo hi:Int}{x m:Int × Int}(h1:max x.1 lo=m.1)(h2:min x.2 hi=m.2)(h3:m.1≤m.2):(sA lo hi x).toList= [m]:=by
 unfold sA;rw [h1,h2,if_pos h3];rfl
def xf(x:Int × Int):Array Value:= #[.agg #[.int .i64 x.1,.int .i64 x.2]]
abbrev jj(b p:Nat):Pr:=Pr.pts b (.cells #[.pointer (some ⟨p,0,none⟩)] 155)
abbrev fR(b:Nat)(lo hi:Int):Pr:=Pr.pts b (.cells #[.int .i64 lo,.int .i64 hi] 199)
def fJ(p bs br:Nat)(v:Value)(rs:List (Int × Int))(lo hi:Int):Pr:=
 (jj bs p).star ((fR br lo hi).star (iu p v rs))
theorem GM(p bs br:Nat)(v:Value)(rs:List (Int × Int))(lo hi:Int)(hl:rs.length≤4294967296):
 Ez Tryz.prog 157 #[.pointer (some ⟨bs,0,none⟩),.pointer (some ⟨br,0,none⟩)] xf (nI rs lo hi) (fJ p bs br v rs lo hi):=by
 intro l J Jx W hY h0;refine(callsIn_wide (n:=3)).1 ?_;refine callsIn_of_wp Tryz.func157 rfl trivial ?_ rfl;simp only [Tryz.ntmps157,bu,List.length_cons,List.length_nil,Nat.reduceAdd,Nat.reduceSub,Array.replicate_succ,Array.replicate_zero,bB,a_,List.nil_append,List.cons_append]
 have facts:∀(A:Pr) (wr:World),Sat (A.star (fJ p bs br v rs lo hi)) wr→
  wr.cell? ⟨bs,0,none⟩=some (.pointer (some ⟨p,0,none⟩))∧wr.cell? ⟨br,0,none⟩=some (.int .i64 lo)∧wr.cell? ⟨br,1,none⟩=some (.int .i64 hi)∧
  wr.cell? ⟨p,0,none⟩=some v∧bs<wr.heap.size∧br<wr.heap.size∧p<wr.heap.size∧
  Sat ((Row 199 2 v rs.length (eS rs)).star Pr.emp) wr:=by
  intro A wr h;unfold fJ iu at h;have h1:Sat ((jj bs p).star (A.star ((fR br lo hi).star ((Pr.pts p (.cells #[v] 197)).star (Row 199 2 v rs.length (eS rs)))))) wr:=h.perm (by ac_rfl);have h2:Sat ((fR br lo hi).star (A.star ((Pr.pts p (.cells #[v] 197)).star (Row 199 2 v rs.length (eS rs))))) wr:=h1.right.perm (by ac_rfl)
  have h3:Sat ((Pr.pts p (.cells #[v] 197)).star ((Row 199 2 v rs.length (eS rs)).star A)) wr:=h2.right.perm (by ac_rfl);refine⟨by rw [cell_of_heap h1.dL];rfl,by rw [cell_of_heap h2.dL];rfl,by rw [cell_of_heap h2.dL];rfl,by rw [cell_of_heap h3.dL];rfl,h1.lt,h2.lt,h3.lt,?_⟩;rw [Pr.ei];exact h3.right.left
 obtain⟨a0,c0,rfl,hxl,SG⟩:=Row.read (facts _ _ h0).2.2.2.2.2.2.2;have F0:=facts _ _ h0;obtain⟨q1,_,_,q4,_⟩:=F0;have HF:=hQ facts;have HY:=hQ hY;have H0:=hQ h0;clear facts hY h0 SG hxl;gi_wp2
 gi_loopw [11] (fun i wr=> ∃k:Nat,k≤rs.length∧i= .int .i64 k∧dN W wr∧Sat ((J (nI (rs.take k) lo hi)).star (fJ p bs br (.slice a0 rs.length c0) rs lo hi)) wr) (fun i _=>rs.length-(intOf i).toNat)
 case atStart=>exact⟨0,aG _,rfl,dN.refl _,H0.af⟩
 case round=>
  obtain⟨k,hk,rfl,hR,hs⟩:=hrel;by_cases hlt:k<rs.length
  · obtain⟨q1,q2,q3,q4,z1,z2,z3,hr⟩:=HF.af _ _ hs
    obtain⟨a1,c1,e1,_,hrow⟩:=Row.read hr;cases e1;obtain⟨b,rfl,hc⟩:=hrow (by omega);have hk1:=(lY rs k hlt).1;have hk2:=(lY rs k hlt).2;have c1:=(hc (k*2) (by omega)).1.trans hk1;have c2:=(hc (k*2+1) (by omega)).1.trans hk2;have zb:=ay _ _ c1
    have tj:nI (rs.take (k+1)) lo hi=nI (rs.take k) lo hi++(sA lo hi rs[k]).toList:=by
     unfold nI;rw [aF hlt,List.filterMap_append];cases h:sA lo hi rs[k]<;>simp [h]
    have hpre:nI (rs.take (k+1)) lo hi<+:nI rs lo hi:=by
     unfold nI;exact(List.take_prefix _ _).filterMap _
    rw [tj] at hpre;have HC:=hQ tj;have HP:=hQ hpre;clear tj hpre;have HS:=hQ hs;clear hc hk1 hk2 hs hr hrow;generalize rs[k]=x at*;obtain⟨x1,x2⟩:=x;dsimp only at c1 c2;gi_wp2
    gi_region
    all_goals gi_wp2
    all_goals first
     | (refine⟨fun _ h=>(by cases h),?_⟩
        gi_wp2
        go_roundw
        case rel=>
         refine⟨k+1,by omega,by go_num,((hR.alloc _).drew),?_⟩
         have hn:sA lo hi (x1,x2)=none:=by simp only [sA];rw [if_neg (by omega)]
         rw [HC.af,hn]
         simpa using (HS.af.alloc _).right.drew
        case measure=>simp [intOf];omega)
     | (refine na (HY.af Pr.emp (nI (rs.take k) lo hi) (_,_) _ ?_ (((HS.af.alloc _).right.drew).perm (Pr.ei _).symm)) ?_
        · rw [← xe (lo:=lo) (hi:=hi) (x:=(x1,x2)) (by simp only [];omega) (by simp only [];omega) (by simp only [];omega)]
          exact HP.af
        · rintro e w' ⟨hR',(⟨rfl,hs'⟩ | ⟨rfl,hs'⟩)⟩<;>rw [Pr.ei] at hs'
          · refine⟨_,rfl,?_⟩
            rw [← xe (lo:=lo) (hi:=hi) (x:=(x1,x2)) (by simp only [];omega) (by simp only [];omega) (by simp only [];omega), ← HC.af] at hs'
            have xg:=hQ hs'
            clear hs'
            gi_wp2
            go_roundw
            case rel=>exact⟨k+1,by omega,by go_num,((hR.alloc _).drew).trans hR',xg.af⟩
            case measure=>simp [intOf];omega
          · refine⟨_,rfl,?_⟩
            rw [← xe (lo:=lo) (hi:=hi) (x:=(x1,x2)) (by simp only [];omega) (by simp only [];omega) (by simp only [];omega)] at hs'
            have xg:=hQ hs'
            clear hs'
            gi_wp2
            refine bodyPost_ret (results_none rfl _ _ _) rfl ?_
            exact⟨⟨_,rfl⟩,((hR.alloc _).drew).trans hR',.inr ⟨_,HP.af,xg.af⟩⟩)
  · gi_wp2
    go_end0
    have:k=rs.length:=by omega
    subst this;refine⟨⟨_,rfl⟩,hR,.inl ⟨_,rfl,?_⟩⟩;simpa using hs
end Go.Proofs.YtiegeadmgpanoaaGreatDoor.D2
namespace Go.Sl
open Go.RowKit
def tm {α:Type}(P:Program)(g:Nat)(lb:Array Value)(encs:α→Array Value)(Ok:List α→α→Prop)(sw Stop:List α→Prop)(Cj:α→Pr)(Own:Pr):Prop:=
 ∀(l:Nat) (J Jx:List α→Pr) (W:World),
  (∀(Fr:Pr) pre x W1,Ok pre x→Sat (((J pre).star ((Cj x).star Own)).star Fr) W1→YieldAt Fence.wide 0 P l (encs x) W1 fun e W'=>
    dN W1 W'∧((e= .returned (.bool true)∧Sat (((J (pre++ [x])).star Own).star Fr) W')∨(e= .returned (.bool false)∧Sat (((Jx (pre++ [x])).star Own).star Fr) W')))→
  Sat ((J []).star Own) W→
  Calls P g (#[.func (.yield l) #[] #[]]++lb) W fun e W'=>(∃v,e= .returned v)∧dN W W'∧((∃xs,sw xs∧Sat ((J xs).star Own) W')∨∃pre,Stop pre∧Sat ((Jx pre).star Own) W')
theorem uO {α:Type}{n:Nat}{P:Program}{g:Operand}{ps:Array Tmp}{assign body:Code}{Q:Exit→Act→World→Prop}{a:Act}{w:World}
 {gf:Nat} {lb:Array Value} (hg:a.eval g= .func (.func gf) #[] lb) (eg:∀args w,(callFunc gf args).run P w= .ok (.enter gf args) w)
 {encs:α→Array Value} {Ok:List α→α→Prop} {sw Stop:List α→Prop} {Cj:α→Pr} {Own:Pr} (hit:tm P gf lb encs Ok sw Stop Cj Own) (hps:∀x,(encs x).size=ps.size)
 (I:List α→Pr) (Ix:Code→List α→Pr) (h0:Sat ((I []).star Own) w)
 (oh:∀(l:Nat) (pre:List α) (x:α) (W:World) (F1:Pr),Ok pre x→Sat (((I pre).star ((Cj x).star Own)).star F1) W→
   assign.wpIn (Fence.wide.inRound l) (n-1-1) P (Exit.then (fun a1 W1=> ∃A1:Pr,dN W W1∧Sat (A1.star F1) W1∧
    ∀(F2:Pr) (W2:World),dN W1 W2→Sat (A1.star F2) W2→body.wpIn (Fence.wide.inRound l) (n-1-1) P (roundEnd I Ix Own F2 (pre++ [x]) W2) a1 W2) (fun _ _ _=>False))
    { tmps:=(ps.zip (encs x)).foldl (fun t (p,v)=>t.setIfInBounds p v) a.tmps,defers:= [] } W)
 (hdone:∀(D:Nat) (xs:List α) (W:World),sw xs→dN w W→Sat (((I xs).star Own).star (Pr.pts D (.deferred (some [])))) W→Q .normal { a with defers:= { target:= .collected D,args:= #[] } :: a.defers } W)
 (hstop:∀(D:Nat) (c:Code) (pre:List α) (W:World),Stop pre→dN w W→Sat (((Ix c pre).star Own).star (Pr.pts D (.deferred (some [])))) W→
   c.wpIn Fence.wide n P Q { a with defers:= { target:= .collected D,args:= #[] } :: a.defers } W):
 (Code.rangeFunc g ps assign body).wpIn Fence.wide n P Q a w:=by
 refine wpIn_rangeFunc ?_;intro fn hfn;obtain⟨rec,hrec⟩:∃rec:LoopState→Option Code→Loop,rec=fun st pe=> { state:=st,pending:=pe,fn,tmps:=a.tmps,params:=ps,assign,body,defers:=w.heap.size }:=⟨_,rfl⟩
 obtain⟨W1,hW1⟩:∃W1,(w.alloc (.deferred (some []))).alloc (.loop (rec .ready none))=W1:=⟨_,rfl⟩
 have Xd:Sat ((Pr.pts (w.heap.size+1) (.loop (rec .ready none))).star ((Pr.pts w.heap.size (.deferred (some []))).star ((I []).star Own))) W1:=by
  rw [← hW1];have:=(h0.alloc (.deferred (some []))).alloc (.loop (rec .ready none))
  rwa [World.size_alloc] at this
 have Sy:dN w W1:=by rw [← hW1];exact((dN.refl w).alloc _).alloc _
 refine⟨w.heap.size+1,[{ target:= .collected w.heap.size,args:= #[] }],W1,{ target:= .fn (.func gf) lb,args:= #[.func (.yield (w.heap.size+1)) #[] #[]] },W1,gf,
  #[.func (.yield (w.heap.size+1)) #[] #[]]++lb,W1,?_,?_,?_,?_,fun h=>by simp [Fence.wide] at h,?_⟩
 · rw [← hW1,hrec];exact run_enterLoop_outer _ _ _ _ _
 · simp only [resolve,hg]
   simp [go_sem]
 · intro f' _;exact trivial
 · simp [invoke,go_sem,eg]
 · refine callsIn_wide.2 ((hit (w.heap.size+1)
    (fun pre=>(I pre).star ((Pr.pts (w.heap.size+1) (.loop (rec .ready none))).star (Pr.pts w.heap.size (.deferred (some [])))))
    (fun pre=>Pr.ex fun c=>(Ix c pre).star ((Pr.pts (w.heap.size+1) (.loop (rec .done (some c)))).star (Pr.pts w.heap.size (.deferred (some [])))))
    W1 ?_ (Xd.perm (by ac_rfl))).mono ?_)
   · intro Fr pre x W hpre hs
     have Qg:∀(c:Code) {W':World},Sat (((Ix c (pre++ [x])).star ((Pr.pts (w.heap.size+1) (.loop (rec .done (some c)))).star (Pr.pts w.heap.size (.deferred (some []))))).star (Own.star Fr)) W'→
      Sat (((Pr.ex fun c=>(Ix c (pre++ [x])).star ((Pr.pts (w.heap.size+1) (.loop (rec .done (some c)))).star (Pr.pts w.heap.size (.deferred (some []))))).star Own).star Fr) W':=
      fun c W' h=>Sat.perm (Sat.ex.2 ⟨c,h⟩) (Pr.dP _ _ _).symm
     have hs1:Sat ((Pr.pts (w.heap.size+1) (.loop (rec .ready none))).star (((I pre).star ((Cj x).star Own)).star ((Pr.pts w.heap.size (.deferred (some []))).star Fr))) W:=hs.perm (by ac_rfl);have hl:=hs1.dL;have hy:=run_yield (P:=P) (args:=encs x) hl (by rw [hrec];exact hps x);rw [hrec] at hy;refine⟨fn,_,assign,body,hy,oO (n:=n-1-1) (roundIn_of_wpIn hfn ?_)⟩
     refine wpIn_mono (oh (w.heap.size+1) pre x W ((Pr.pts (w.heap.size+1) (.loop (rec .ready none))).star ((Pr.pts w.heap.size (.deferred (some []))).star Fr)) hpre (hs1.perm (by ac_rfl))) ?_;rintro e a1 W2 hp;cases e with
     | normal=>
       obtain⟨A1,Ny,hs2,hb⟩:=hp;have fP:Sat ((Pr.pts (w.heap.size+1) (.loop (rec .ready none))).star (A1.star ((Pr.pts w.heap.size (.deferred (some []))).star Fr))) W2:=hs2.perm (by ac_rfl);refine⟨_,run_beginRound fP.dL (by rw [hrec]),?_⟩;have fp:=fP.putObj (.loop { rec .ready none with state:= .busy })
       refine wpIn_mono (hb ((Pr.pts (w.heap.size+1) (.loop { rec .ready none with state:= .busy })).star ((Pr.pts w.heap.size (.deferred (some []))).star Fr)) _ ((dN.refl W2).putObj _ _) (fp.perm (by ac_rfl))) ?_
       have fin:∀(jump:Option Code) (B:Pr) (W3:World),Sat (B.star ((Pr.pts (w.heap.size+1) (.loop { rec .ready none with state:= .busy })).star ((Pr.pts w.heap.size (.deferred (some []))).star Fr))) W3→
        (Instr.endRound (w.heap.size+1) jump).run P W3= .ok (.bool jump.isNone) (W3.putObj (w.heap.size+1) (.loop (rec (if jump.isNone then .ready else .done) jump)))∧
        Sat (B.star ((Pr.pts (w.heap.size+1) (.loop (rec (if jump.isNone then .ready else .done) jump))).star ((Pr.pts w.heap.size (.deferred (some []))).star Fr))) (W3.putObj (w.heap.size+1) (.loop (rec (if jump.isNone then .ready else .done) jump))):=fun jump B W3 h3=>by
        have h4:Sat ((Pr.pts (w.heap.size+1) (.loop { rec .ready none with state:= .busy })).star (B.star ((Pr.pts w.heap.size (.deferred (some []))).star Fr))) W3:=h3.perm (by ac_rfl);have:=run_endRound (P:=P) jump h4.dL
        rw [hrec] at this ⊢;exact⟨this,(h4.putObj _).perm (by ac_rfl)⟩
       have Nz:dN W W2:=Ny;rintro e a3 W3 Cf;cases e with
       | normal=>
         obtain⟨EB,gu⟩:=Cf;obtain⟨hr,gQ⟩:=fin none _ W3 gu;exact⟨_,_,hr,(Nz.trans (((dN.refl W2).putObj _ _).trans EB)).putObj _ _,.inl ⟨rfl,gQ.perm (by ac_rfl)⟩⟩
       | ret=>
         obtain⟨EB,gu⟩:=Cf;obtain⟨hr,gQ⟩:=fin (some .ret) _ W3 gu;exact⟨_,_,hr,(Nz.trans (((dN.refl W2).putObj _ _).trans EB)).putObj _ _,.inr ⟨rfl,Qg .ret (gQ.perm (by ac_rfl))⟩⟩
       | exit id=>
         obtain⟨EB,gu⟩:=Cf;obtain⟨hr,gQ⟩:=fin (some (.exit id)) _ W3 gu;exact⟨_,_,hr,(Nz.trans (((dN.refl W2).putObj _ _).trans EB)).putObj _ _,.inr ⟨rfl,Qg (.exit id) (gQ.perm (by ac_rfl))⟩⟩
       | goto t=>
         obtain⟨EB,gu⟩:=Cf;obtain⟨hr,gQ⟩:=fin (some (.goto t)) _ W3 gu;exact⟨_,_,hr,(Nz.trans (((dN.refl W2).putObj _ _).trans EB)).putObj _ _,.inr ⟨rfl,Qg (.goto t) (gQ.perm (by ac_rfl))⟩⟩
       | panic ch=>exact Cf.elim
       | outgrown=>exact Cf.elim
     | ret=>exact hp.elim
     | exit id=>exact hp.elim
     | goto t=>exact hp.elim
     | panic ch=>exact hp.elim
     | outgrown=>exact hp.elim
   · rintro e W2 ⟨⟨v,rfl⟩,Ny,(⟨xs,hxs,hs2⟩ | ⟨pre,hpre,hs2⟩)⟩
     · have fP:Sat ((Pr.pts (w.heap.size+1) (.loop (rec .ready none))).star (((I xs).star Own).star (Pr.pts w.heap.size (.deferred (some []))))) W2:=hs2.perm (by ac_rfl)
       have fp:=fP.putObj (.loop { rec .ready none with state:= .exhausted });refine⟨none,_,by have:=run_endLoop (P:=P) fP.dL (by rw [hrec];simp);rw [hrec] at this;exact this,hdone w.heap.size xs _ hxs ((Sy.trans Ny).putObj _ _) ?_⟩;rw [hrec] at fp;exact fp.right
     · obtain⟨c,hs2⟩:=Sat.ex.1 hs2
       have fP:Sat ((Pr.pts (w.heap.size+1) (.loop (rec .done (some c)))).star (((Ix c pre).star Own).star (Pr.pts w.heap.size (.deferred (some []))))) W2:=hs2.perm (by ac_rfl);have fp:=fP.putObj (.loop { rec .done (some c) with state:= .exhausted })
       refine⟨some c,_,by have:=run_endLoop (P:=P) fP.dL (by rw [hrec];simp);rw [hrec] at this;exact this,hstop w.heap.size c pre _ hpre ((Sy.trans Ny).putObj _ _) ?_⟩;rw [hrec] at fp;exact fp.right
theorem qC {α:Type}(n:Nat){P:Program}{g:Operand}{ps:Array Tmp}{assign body:Code}{Q:Exit→Act→World→Prop}{a:Act}{w:World}
 {gf:Nat} {lb:Array Value} (hg:a.eval g= .func (.func gf) #[] lb) (eg:∀args w,(callFunc gf args).run P w= .ok (.enter gf args) w)
 {encs:α→Array Value} {Ok:List α→α→Prop} {sw Stop:List α→Prop} {Cj:α→Pr} {Own:Pr} (hit:tm P gf lb encs Ok sw Stop Cj Own) (hps:∀x,(encs x).size=ps.size)
 (I:List α→Pr) (Ix:Code→List α→Pr) (h0:Sat ((I []).star Own) w)
 (oh:∀(l:Nat) (pre:List α) (x:α) (W:World) (F1:Pr),Ok pre x→Sat (((I pre).star ((Cj x).star Own)).star F1) W→
   assign.wpIn (Fence.wide.inRound l) (n-1-1) P (Exit.then (fun a1 W1=> ∃A1:Pr,dN W W1∧Sat (A1.star F1) W1∧
    ∀(F2:Pr) (W2:World),dN W1 W2→Sat (A1.star F2) W2→body.wpIn (Fence.wide.inRound l) (n-1-1) P (roundEnd I Ix Own F2 (pre++ [x]) W2) a1 W2) (fun _ _ _=>False))
    { tmps:=(ps.zip (encs x)).foldl (fun t (p,v)=>t.setIfInBounds p v) a.tmps,defers:= [] } W)
 (hdone:∀(D:Nat) (xs:List α) (W:World),sw xs→dN w W→Sat (((I xs).star Own).star (Pr.pts D (.deferred (some [])))) W→Q .normal { a with defers:= { target:= .collected D,args:= #[] } :: a.defers } W)
 (hstop:∀(D:Nat) (c:Code) (pre:List α) (W:World),Stop pre→dN w W→Sat (((Ix c pre).star Own).star (Pr.pts D (.deferred (some [])))) W→
   c.wp P Q { a with defers:= { target:= .collected D,args:= #[] } :: a.defers } W):
 (Code.rangeFunc g ps assign body).wp P Q a w:=
 wpIn_wide.1 (uO (n:=n) hg eg hit hps I Ix h0 oh hdone (fun D c pre W h1 h2 h3=>wpIn_wide.2 (hstop D c pre W h1 h2 h3)))
end Go.Sl
namespace Go.Proofs.YtiegeadmgpanoaaGreatDoor.D2
open ChangeShapes WideShapes ChangeAt RowKit Sl Go.Shelf
attribute [local go_sem] Oper.semAt_some
theorem pU(p:Nat)(lo hi:Int)(w:World):
 Calls Tryz.prog 153 #[.pointer (some ⟨p,0,none⟩),.agg #[.int .i64 lo,.int .i64 hi]] w fun e w'=>
  e= .returned (.func (.func 157) #[] #[.pointer (some ⟨w.heap.size,0,none⟩),.pointer (some ⟨w.heap.size+1,0,none⟩)])∧
  (w.alloc (.cells #[.pointer (some ⟨p,0,none⟩)] 155)).alloc (.cells #[.int .i64 lo,.int .i64 hi] 199)=w':=by
 go_enter Tryz.func153,Tryz.ntmps153
 go_wp2;go_ret;exact⟨rfl,rfl⟩
theorem KA(p:Nat)(lo hi:Int)(w:World):
 Calls Tryz.prog 135 #[.pointer (some ⟨p,0,none⟩),.agg #[.int .i64 lo,.int .i64 hi]] w fun e w'=>
  e= .returned (.func (.func 152) #[] #[.pointer (some ⟨w.heap.size,0,none⟩),.pointer (some ⟨w.heap.size+1,0,none⟩)])∧
  (w.alloc (.cells #[.pointer (some ⟨p,0,none⟩)] 155)).alloc (.cells #[.int .i64 lo,.int .i64 hi] 199)=w':=by
 go_enter Tryz.func135,Tryz.ntmps135
 go_wp2;go_ret;exact⟨rfl,rfl⟩
theorem Ck(n lo hi:Int)(w:World):
 Calls Tryz.prog 136 #[.int .u64 n,.agg #[.int .i64 lo,.int .i64 hi]] w fun e w'=>
  (∃m,e= .returned (.int .u64 m))∧w.alloc (.cells #[.int .i64 lo,.int .i64 hi] 199)=w':=by
 go_enter Tryz.func136,Tryz.ntmps136
 go_wp2
 all_goals
  go_ret;exact⟨⟨_,rfl⟩,rfl⟩
abbrev mx(b l:Nat):Pr:=Pr.pts b (.cells #[.func (.yield l) #[] #[]] 214)
abbrev AO(b:Nat):Pr:=Pr.ex fun lh:Int × Int=>fR b lh.1 lh.2
def jG(p bs br:Nat)(v:Value)(rs:List (Int × Int)):Pr:=(AO br).star ((jj bs p).star (iu p v rs))
abbrev GN(J:List (Int × Int)→Pr)(l y p bs br:Nat):Pr:=(Pr.ex fun L:List (Int × Int)=>J L).star ((mx y l).star ((AO br).star (jj bs p)))
abbrev KE(J Jx:List (Int × Int)→Pr)(p bs br:Nat):Pr:=(Pr.ex fun L:List (Int × Int)=>Pr.ex fun b:Bool=>if b then J L else Jx L).star ((AO br).star (jj bs p))
theorem SH(p bs br:Nat)(v:Value)(rs:List (Int × Int))(hl:rs.length≤4294967296):
 Nx Tryz.prog 152 #[.pointer (some ⟨bs,0,none⟩),.pointer (some ⟨br,0,none⟩)] xf (jG p bs br v rs):=by
 intro l J Jx W hY h0;refine(callsIn_wide (n:=9)).1 (callsIn_of_wp_marks Tryz.func152 rfl trivial ?_ rfl);simp only [Tryz.ntmps152,bu,List.length_cons,List.length_nil,Nat.reduceAdd,Nat.reduceSub,Array.replicate_succ,Array.replicate_zero,bB,a_,List.nil_append,List.cons_append];unfold jG at h0;simp only [Pr.fC,Pr.jR,Sat.qk] at h0
 obtain⟨⟨lo,hi⟩,h0⟩:=h0;dsimp only at h0;have h1:Sat ((fR br lo hi).star ((jj bs p).star ((iu p v rs).star (J [])))) W:=h0.perm (by ac_rfl);have h2:Sat ((jj bs p).star ((fR br lo hi).star ((iu p v rs).star (J [])))) W:=h0.perm (by ac_rfl);have q1:W.cell? ⟨br,0,none⟩=some (.int .i64 lo):=by rw [cell_of_heap h1.dL];rfl
 have q2:W.cell? ⟨br,1,none⟩=some (.int .i64 hi):=by rw [cell_of_heap h1.dL];rfl
 have q3:W.cell? ⟨bs,0,none⟩=some (.pointer (some ⟨p,0,none⟩)):=by rw [cell_of_heap h2.dL];rfl
 have z1:=h1.lt;have z2:=h2.lt;have HY:=hQ hY;have H2:=hQ h2;clear hY h0 h1 h2;gi_wp2_with (refine⟨trivial,?_⟩;gi_at_call 153;refine(callsIn_wide.2 (pU _ _ _ _)).mono ?_;rintro e w' ⟨rfl,rfl⟩)
 have HS:Sat ((GN J l W.heap.size p bs br).star (fJ p (W.heap.size+1) (W.heap.size+1+1) v rs lo hi))
  (((W.alloc (.cells #[.func (.yield l) #[] #[]] 214)).alloc (.cells #[.pointer (some ⟨p,0,none⟩)] 155)).alloc (.cells #[.int .i64 lo,.int .i64 hi] 199)):=by
  have h0:=((H2.af.alloc (.cells #[.func (.yield l) #[] #[]] 214)).alloc (.cells #[.pointer (some ⟨p,0,none⟩)] 155)).alloc (.cells #[.int .i64 lo,.int .i64 hi] 199);simp only [World.size_alloc] at h0;have this:Sat ((fR (W.heap.size+1+1) lo hi).star ((jj (W.heap.size+1) p).star ((mx W.heap.size l).star ((jj bs p).star ((fR br lo hi).star ((iu p v rs).star (J []))))))) _:=h0
  unfold fJ;simp only [Pr.fC,Pr.jR,Sat.qk];exact⟨[],(lo,hi),this.perm (by dsimp only;ac_rfl)⟩
 have HR:dN W (((W.alloc (.cells #[.func (.yield l) #[] #[]] 214)).alloc (.cells #[.pointer (some ⟨p,0,none⟩)] 155)).alloc (.cells #[.int .i64 lo,.int .i64 hi] 199)):=(((dN.refl W).alloc _).alloc _).alloc _;obtain⟨W0,Pw⟩:∃W0,(((W.alloc (.cells #[.func (.yield l) #[] #[]] 214)).alloc (.cells #[.pointer (some ⟨p,0,none⟩)] 155)).alloc (.cells #[.int .i64 lo,.int .i64 hi] 199))=W0:=⟨_,rfl⟩
 rw [Pw] at HS HR ⊢;have HR:=hQ HR;clear Pw H2 q1 q2 q3 z1 z2
 refine mr (gf:=157) rfl (enters_of Tryz.func157 (by kernel_rfl) rfl) (GM p (W.heap.size+1) (W.heap.size+1+1) v rs lo hi hl) (fun _=>rfl)
  (fun _=>GN J l W.heap.size p bs br) (fun c _=>(Pr.pure (c= .ret)).star (KE J Jx p bs br)) HS ?round ?done ?stop
 case round=>
  intro l' pre x W1 F1 _ hs;obtain⟨x1,x2⟩:=x;have ig:=hQ hs;clear hs;simp only [xf];gi_wp2
  have ny:=ig.af.alloc (.cells #[.int .i64 x1,.int .i64 x2] 199);refine⟨(fR W1.heap.size x1 x2).star ((GN J l W.heap.size p bs br).star (fJ p (W.heap.size+1) (W.heap.size+1+1) v rs lo hi)),(dN.refl _).alloc _,ny.perm (by ac_rfl),?_⟩;clear ny ig HS HR;generalize W1.heap.size=B;intro F2 W2 _ hs2
  have facts:∀(wx:World) (a b:Int) (L:List (Int × Int)),Sat ((J L).star ((fR br a b).star ((mx W.heap.size l).star ((fR B x1 x2).star ((jj bs p).star ((fJ p (W.heap.size+1) (W.heap.size+1+1) v rs lo hi).star F2)))))) wx→
   wx.cell? ⟨br,0,none⟩=some (.int .i64 a)∧wx.cell? ⟨br,1,none⟩=some (.int .i64 b)∧wx.cell? ⟨W.heap.size,0,none⟩=some (.func (.yield l) #[] #[])∧
   wx.cell? ⟨B,0,none⟩=some (.int .i64 x1)∧wx.cell? ⟨B,1,none⟩=some (.int .i64 x2)∧wx.frozen? ⟨br,0,none⟩=false:=by
   intro wx a b L h;have h1:Sat ((fR br a b).star ((J L).star ((mx W.heap.size l).star ((fR B x1 x2).star ((jj bs p).star ((fJ p (W.heap.size+1) (W.heap.size+1+1) v rs lo hi).star F2)))))) wx:=h.perm (by ac_rfl)
   have h2:Sat ((mx W.heap.size l).star ((fR B x1 x2).star ((jj bs p).star ((fJ p (W.heap.size+1) (W.heap.size+1+1) v rs lo hi).star F2)))) wx:=h1.right.right;refine⟨?_,?_,?_,?_,?_,frozen_of_heap h1.dL 0⟩
   · rw [cell_of_heap h1.dL];rfl
   · rw [cell_of_heap h1.dL];rfl
   · rw [cell_of_heap h2.dL];rfl
   · rw [cell_of_heap h2.right.dL];rfl
   · rw [cell_of_heap h2.right.dL];rfl
  simp only [Pr.fC,Pr.jR,Sat.qk] at hs2;obtain⟨L,⟨a,b⟩,hs2⟩:=hs2;have fP:Sat ((J L).star ((fR br a b).star ((mx W.heap.size l).star ((fR B x1 x2).star ((jj bs p).star ((fJ p (W.heap.size+1) (W.heap.size+1+1) v rs lo hi).star F2)))))) W2:=hs2.perm (by ac_rfl);obtain⟨r1,r2,r3,r4,r5,r6⟩:=facts _ _ _ _ fP;have j8:=hQ fP;have HF:=hQ facts;clear hs2 fP facts
  have fin:∀(e:Exit) (ac:Act) (wx w':World) (a b:Int) (L:List (Int × Int)),Sat ((J L).star ((fR br a b).star ((mx W.heap.size l).star ((fR B x1 x2).star ((jj bs p).star ((fJ p (W.heap.size+1) (W.heap.size+1+1) v rs lo hi).star F2)))))) wx→
   dN W2 wx→((e= .normal∧w'=wx.setCell ⟨br,0,none⟩ (.int .i64 (wrap64 (x2+1))))∨(e= .ret∧w'=wx))→
   roundEnd (fun _=>GN J l W.heap.size p bs br) (fun c _=>(Pr.pure (c= .ret)).star (KE J Jx p bs br)) (fJ p (W.heap.size+1) (W.heap.size+1+1) v rs lo hi) F2 (pre++ [(x1,x2)]) W2 e ac w':=by
   intro e ac wx w' a b L h hst he;have h1:Sat ((fR br a b).star ((J L).star ((mx W.heap.size l).star ((fR B x1 x2).star ((jj bs p).star ((fJ p (W.heap.size+1) (W.heap.size+1+1) v rs lo hi).star F2)))))) wx:=h.perm (by ac_rfl);rcases he with⟨rfl,rfl⟩ | ⟨rfl,rfl⟩
   · refine⟨hst.setCell _ _,?_⟩
     have h2:=h1.setCell (i:=0) (.int .i64 (wrap64 (x2+1)));simp only [Pr.fC,Pr.jR,Sat.qk]
     have h3:Sat ((fR B x1 x2).star (((J L).star ((mx W.heap.size l).star ((fR br (wrap64 (x2+1)) b).star (jj bs p)))).star ((fJ p (W.heap.size+1) (W.heap.size+1+1) v rs lo hi).star F2))) (wx.setCell ⟨br,0,none⟩ (.int .i64 (wrap64 (x2+1)))):=h2.perm (by show (fR br (wrap64 (x2+1)) b).star _=_;ac_rfl);exact⟨L,(wrap64 (x2+1),b),h3.right.perm (by dsimp only;ac_rfl)⟩
   · refine⟨hst,?_⟩
     have h3:Sat ((fR B x1 x2).star ((mx W.heap.size l).star (((J L).star ((fR br a b).star (jj bs p))).star ((fJ p (W.heap.size+1) (W.heap.size+1+1) v rs lo hi).star F2)))) w':=h.perm (by ac_rfl);refine Sat.perm (Sat.pure.2 ⟨rfl,?_⟩) (by rw [← Pr.dP, ← Pr.dP]);simp only [Pr.fC,Pr.jR,Sat.qk]
     exact⟨L,(a,b),true,h3.right.right.perm (by simp only [if_true])⟩
  have Wa:=hQ fin;clear fin;by_cases hgt:a<x1
  · gi_wp2
    refine vw (HY.af ((mx W.heap.size l).star ((fR B x1 x2).star ((jj (W.heap.size+1) p).star ((fR (W.heap.size+1+1) lo hi).star F2)))) L (_,_) _ trivial ?_) ?_
    · unfold jG
      simp only [Pr.fC,Pr.jR,Sat.qk];exact⟨(a,b),j8.af.perm (by unfold fJ;dsimp only;ac_rfl)⟩
    · rintro e w' ⟨hR',(⟨rfl,hs'⟩ | ⟨rfl,hs'⟩)⟩
      · unfold jG at hs'
        simp only [Pr.fC,Pr.jR,Sat.qk] at hs';obtain⟨⟨a',b'⟩,hs'⟩:=hs';have fp:Sat ((J (L++ [_])).star ((fR br a' b').star ((mx W.heap.size l).star ((fR B x1 x2).star ((jj bs p).star ((fJ p (W.heap.size+1) (W.heap.size+1+1) v rs lo hi).star F2)))))) w':=hs'.perm (by unfold fJ;dsimp only;ac_rfl);clear hs' r1 r2 r3 r4 r5 r6
        obtain⟨r1,r2,r3,r4,r5,r6⟩:=HF.af _ _ _ _ fp;have lZ:=hQ fp;clear fp;refine⟨_,rfl,?_⟩;gi_wp2
        all_goals first
         | exact Wa.af _ _ w' _ _ _ _ lZ.af hR' (.inr ⟨rfl,rfl⟩)
         | exact Wa.af _ _ w' _ _ _ _ lZ.af hR' (.inl ⟨rfl,rfl⟩)
      · unfold jG at hs'
        simp only [Pr.fC,Pr.jR,Sat.qk] at hs';obtain⟨⟨a',b'⟩,hs'⟩:=hs';have lZ:=hQ hs';clear hs';refine⟨_,rfl,?_⟩;gi_wp2
        refine⟨hR',?_⟩;have h3:Sat ((fR B x1 x2).star ((mx W.heap.size l).star (((Jx (L++ [_])).star ((fR br a' b').star (jj bs p))).star ((fJ p (W.heap.size+1) (W.heap.size+1+1) v rs lo hi).star F2)))) w':=lZ.af.perm (by unfold fJ;ac_rfl);refine Sat.perm (Sat.pure.2 ⟨rfl,?_⟩) (by rw [← Pr.dP, ← Pr.dP]);simp only [Pr.fC,Pr.jR,Sat.qk]
        exact⟨L++ [_],(a',b'),false,h3.right.right.perm (by simp only [bA,if_false];ac_rfl)⟩
  · gi_wp2
    all_goals try refine⟨fun _ h=>(by cases h),?_⟩
    all_goals gi_wp2
    all_goals first
     | exact Wa.af _ _ W2 _ _ _ _ j8.af (dN.refl _) (.inr ⟨rfl,rfl⟩)
     | exact Wa.af _ _ W2 _ _ _ _ j8.af (dN.refl _) (.inl ⟨rfl,rfl⟩)
 case done=>
  intro D xs W2 _ hst hs;simp only [Pr.fC,Pr.jR,Sat.qk] at hs;obtain⟨L,⟨a,b⟩,hs⟩:=hs;have h1:Sat ((fR br a b).star ((mx W.heap.size l).star ((J L).star ((jj bs p).star ((fJ p (W.heap.size+1) (W.heap.size+1+1) v rs lo hi).star (Pr.pts D (.deferred (some [])))))))) W2:=hs.perm (by ac_rfl);have r1:W2.cell? ⟨br,0,none⟩=some (.int .i64 a):=by rw [cell_of_heap h1.dL];rfl
  have r2:W2.cell? ⟨br,1,none⟩=some (.int .i64 b):=by rw [cell_of_heap h1.dL];rfl
  have r3:W2.cell? ⟨W.heap.size,0,none⟩=some (.func (.yield l) #[] #[]):=by rw [cell_of_heap h1.right.dL];rfl
  have H1:=hQ h1;clear h1 hs HS;gi_wp2
  refine na (HY.af ((mx W.heap.size l).star ((jj (W.heap.size+1) p).star ((fR (W.heap.size+1+1) lo hi).star (Pr.pts D (.deferred (some [])))))) L (_,_) _ trivial ?_) ?_
  · unfold jG
    simp only [Pr.fC,Pr.jR,Sat.qk];exact⟨(a,b),H1.af.perm (by unfold fJ;dsimp only;ac_rfl)⟩
  · rintro e w' ⟨hR',hh⟩
    have hD:w'.heap[D]? =some (.deferred (some [])):=by
     rcases hh with⟨_,hh⟩ | ⟨_,hh⟩
     · exact(hh.perm (show _=(Pr.pts D (.deferred (some []))).star (((J (L++ [_])).star (jG p bs br v rs)).star ((mx W.heap.size l).star ((jj (W.heap.size+1) p).star (fR (W.heap.size+1+1) lo hi)))) from by ac_rfl)).dL
     · exact(hh.perm (show _=(Pr.pts D (.deferred (some []))).star (((Jx (L++ [_])).star (jG p bs br v rs)).star ((mx W.heap.size l).star ((jj (W.heap.size+1) p).star (fR (W.heap.size+1+1) lo hi)))) from by ac_rfl)).dL
    rcases hh with⟨rfl,hh⟩ | ⟨rfl,hh⟩
    all_goals
     have HH:=hQ hh;have HD:=hQ hD;clear hh hD;refine⟨_,rfl,?_⟩;gi_wp2
     first
      | refine oi (D:=D) rfl HD.af ⟨_,results_none rfl _ _ _,⟨_,rfl⟩,?_,?_⟩
      | refine j7 (D:=D) rfl HD.af ⟨_,results_none rfl _ _ _,⟨_,rfl⟩,?_,?_⟩
     · exact((HR.af.trans hst).trans hR').putObj _ _
     · first
       | exact .inl ⟨_,(((HH.af.perm (show _=(Pr.pts D (.deferred (some []))).star (((J (L++ [_])).star (jG p bs br v rs)).star ((mx W.heap.size l).star ((jj (W.heap.size+1) p).star (fR (W.heap.size+1+1) lo hi)))) from by ac_rfl)).putObj (.deferred none)).right).left⟩
       | exact .inr ⟨_,(((HH.af.perm (show _=(Pr.pts D (.deferred (some []))).star (((Jx (L++ [_])).star (jG p bs br v rs)).star ((mx W.heap.size l).star ((jj (W.heap.size+1) p).star (fR (W.heap.size+1+1) lo hi)))) from by ac_rfl)).putObj (.deferred none)).right).left⟩
 case stop=>
  intro D c pre W2 _ hst hs;obtain⟨hc,hs'⟩:=Sat.pure.1 (hs.perm (show _=(Pr.pure (c= .ret)).star ((KE J Jx p bs br).star ((fJ p (W.heap.size+1) (W.heap.size+1+1) v rs lo hi).star (Pr.pts D (.deferred (some []))))) from by ac_rfl));clear hs;subst hc;simp only [Pr.fC,Pr.jR,Sat.qk] at hs';obtain⟨L,⟨a,b⟩,t,hs⟩:=hs'
  have hs1:Sat ((Pr.pts D (.deferred (some []))).star (((if t then J L else Jx L).star ((fR br a b).star (jj bs p))).star (fJ p (W.heap.size+1) (W.heap.size+1+1) v rs lo hi))) W2:=hs.perm (by ac_rfl);have HD:=hQ hs1.dL;have HH:=hQ (hs1.putObj (.deferred none)).right;clear hs hs1 HS;gi_wp2
  refine j7 (D:=D) rfl HD.af ⟨_,results_none rfl _ _ _,⟨_,rfl⟩,?_,?_⟩
  · exact(HR.af.trans hst).putObj _ _
  · have h2:Sat ((jj (W.heap.size+1) p).star ((fR (W.heap.size+1+1) lo hi).star ((if t then J L else Jx L).star ((fR br a b).star ((jj bs p).star (iu p v rs)))))) (W2.putObj D (.deferred none)):=HH.af.perm (by unfold fJ;ac_rfl)
    have h3:=h2.right.right
    have h4:∀X:Pr,Sat (X.star ((fR br a b).star ((jj bs p).star (iu p v rs)))) (W2.putObj D (.deferred none))→Sat (X.star (jG p bs br v rs)) (W2.putObj D (.deferred none)):=by
     intro X h;unfold jG;simp only [Pr.fC,Pr.jR,Sat.qk];exact⟨(a,b),h⟩
    cases t with
    | true=>exact .inl ⟨L,trivial,h4 (J L) h3⟩
    | false=>exact .inr ⟨L,trivial,h4 (Jx L) h3⟩
end Go.Proofs.YtiegeadmgpanoaaGreatDoor.D2
