/- A range over a function that hands over what it owns. Plain lemmas over any program. -/
import Derived.Test.YtbobcmimkonnoaaGreatVaultPlaysM02
import Derived.Test.YtbobcmimkonnoaaGreatVaultPlaysM15
import Derived.Test.YtbobcmimkonnoaaGreatVaultPlaysM01
import Derived.Test.YtbobcmimkonnoaaGreatVaultPlaysM16
import Derived.Test.YtbobcmimkonnoaaGreatVaultPlaysM31
import Derived.Test.YtbobcmimkonnoaaGreatVaultPlaysM35
import Derived.Test.YtbobcmimkonnoaaGreatVaultPlaysM28
import Derived.Test.YtbobcmimkonnoaaGreatVaultPlaysM10
set_option maxRecDepth 100000
set_option maxHeartbeats 16000000
namespace Go.Sl
open Go.RowKit
def IterV {α:Type}(P:Program)(g:Nat)(lb:Array Value)(encs:α→Array Value)(Ok:List α→α→Prop)(Done Stop:List α→Prop)(Give:α→Pr)(Own:Pr):Prop:=
 ∀(l:Nat) (J Jx:List α→Pr) (W:World),
  (∀(Fr:Pr) pre x W1,Ok pre x→Sat (((J pre).star ((Give x).star Own)).star Fr) W1→YieldAt Fence.wide 0 P l (encs x) W1 fun e W'=>
    Stays W1 W'∧((e= .returned (.bool true)∧Sat (((J (pre++ [x])).star Own).star Fr) W')∨(e= .returned (.bool false)∧Sat (((Jx (pre++ [x])).star Own).star Fr) W')))→
  Sat ((J []).star Own) W→
  Calls P g (#[.func (.yield l) #[] #[]]++lb) W fun e W'=>(∃v,e= .returned v)∧Stays W W'∧((∃xs,Done xs∧Sat ((J xs).star Own) W')∨∃pre,Stop pre∧Sat ((Jx pre).star Own) W')
theorem wpIn_rangeFunc_v {α:Type}{n:Nat}{P:Program}{g:Operand}{ps:Array Tmp}{assign body:Code}{Q:Exit→Act→World→Prop}{a:Act}{w:World}
 {gf:Nat} {lb:Array Value} (hg:a.eval g= .func (.func gf) #[] lb) (eg:∀args w,(callFunc gf args).run P w= .ok (.enter gf args) w)
 {encs:α→Array Value} {Ok:List α→α→Prop} {Done Stop:List α→Prop} {Give:α→Pr} {Own:Pr} (hit:IterV P gf lb encs Ok Done Stop Give Own) (hps:∀x,(encs x).size=ps.size)
 (I:List α→Pr) (Ix:Code→List α→Pr) (h0:Sat ((I []).star Own) w)
 (hround:∀(l:Nat) (pre:List α) (x:α) (W:World) (F1:Pr),Ok pre x→Sat (((I pre).star ((Give x).star Own)).star F1) W→
   assign.wpIn (Fence.wide.inRound l) (n-1-1) P (Exit.then (fun a1 W1=> ∃A1:Pr,Stays W W1∧Sat (A1.star F1) W1∧
    ∀(F2:Pr) (W2:World),Stays W1 W2→Sat (A1.star F2) W2→body.wpIn (Fence.wide.inRound l) (n-1-1) P (roundEnd I Ix Own F2 (pre++ [x]) W2) a1 W2) (fun _ _ _=>False))
    { tmps:=(ps.zip (encs x)).foldl (fun t (p,v)=>t.setIfInBounds p v) a.tmps,defers:= [] } W)
 (hdone:∀(D:Nat) (xs:List α) (W:World),Done xs→Stays w W→Sat (((I xs).star Own).star (Pr.pts D (.deferred (some [])))) W→Q .normal { a with defers:= { target:= .collected D,args:= #[] } :: a.defers } W)
 (hstop:∀(D:Nat) (c:Code) (pre:List α) (W:World),Stop pre→Stays w W→Sat (((Ix c pre).star Own).star (Pr.pts D (.deferred (some [])))) W→
   c.wpIn Fence.wide n P Q { a with defers:= { target:= .collected D,args:= #[] } :: a.defers } W):
 (Code.rangeFunc g ps assign body).wpIn Fence.wide n P Q a w:=by
 refine wpIn_rangeFunc ?_
 intro fn hfn
 obtain⟨rec,hrec⟩:∃rec:LoopState→Option Code→Loop,rec=fun st pe=> { state:=st,pending:=pe,fn,tmps:=a.tmps,params:=ps,assign,body,defers:=w.heap.size }:=⟨_,rfl⟩
 obtain⟨W1,hW1⟩:∃W1,(w.alloc (.deferred (some []))).alloc (.loop (rec .ready none))=W1:=⟨_,rfl⟩
 have hS1:Sat ((Pr.pts (w.heap.size+1) (.loop (rec .ready none))).star ((Pr.pts w.heap.size (.deferred (some []))).star ((I []).star Own))) W1:=by
  rw [← hW1]
  have:=(h0.alloc (.deferred (some []))).alloc (.loop (rec .ready none))
  rwa [World.size_alloc] at this
 have hR1:Stays w W1:=by rw [← hW1];exact((Stays.refl w).alloc _).alloc _
 refine⟨w.heap.size+1,[{ target:= .collected w.heap.size,args:= #[] }],W1,{ target:= .fn (.func gf) lb,args:= #[.func (.yield (w.heap.size+1)) #[] #[]] },W1,gf,
  #[.func (.yield (w.heap.size+1)) #[] #[]]++lb,W1,?_,?_,?_,?_,fun h=>by simp [Fence.wide] at h,?_⟩
 · rw [← hW1,hrec];exact run_enterLoop_outer _ _ _ _ _
 · simp only [resolve,hg]
   simp [go_sem]
 · intro f' _;exact trivial
 · simp [invoke,go_sem,eg]
 · refine callsIn_wide.2 ((hit (w.heap.size+1)
    (fun pre=>(I pre).star ((Pr.pts (w.heap.size+1) (.loop (rec .ready none))).star (Pr.pts w.heap.size (.deferred (some [])))))
    (fun pre=>Pr.ex fun c=>(Ix c pre).star ((Pr.pts (w.heap.size+1) (.loop (rec .done (some c)))).star (Pr.pts w.heap.size (.deferred (some [])))))
    W1 ?_ (hS1.perm (by ac_rfl))).mono ?_)
   · intro Fr pre x W hpre hs
     have exr:∀(c:Code) {W':World},Sat (((Ix c (pre++ [x])).star ((Pr.pts (w.heap.size+1) (.loop (rec .done (some c)))).star (Pr.pts w.heap.size (.deferred (some []))))).star (Own.star Fr)) W'→
      Sat (((Pr.ex fun c=>(Ix c (pre++ [x])).star ((Pr.pts (w.heap.size+1) (.loop (rec .done (some c)))).star (Pr.pts w.heap.size (.deferred (some []))))).star Own).star Fr) W':=
      fun c W' h=>Sat.perm (Sat.ex.2 ⟨c,h⟩) (Pr.star_assoc _ _ _).symm
     have hs1:Sat ((Pr.pts (w.heap.size+1) (.loop (rec .ready none))).star (((I pre).star ((Give x).star Own)).star ((Pr.pts w.heap.size (.deferred (some []))).star Fr))) W:=hs.perm (by ac_rfl)
     have hl:=hs1.pts_heap
     have hy:=run_yield (P:=P) (args:=encs x) hl (by rw [hrec];exact hps x)
     rw [hrec] at hy
     refine⟨fn,_,assign,body,hy,roundIn_any (n:=n-1-1) (roundIn_of_wpIn hfn ?_)⟩
     refine wpIn_mono (hround (w.heap.size+1) pre x W ((Pr.pts (w.heap.size+1) (.loop (rec .ready none))).star ((Pr.pts w.heap.size (.deferred (some []))).star Fr)) hpre (hs1.perm (by ac_rfl))) ?_
     rintro e a1 W2 hp
     cases e with
     | normal=>
       obtain⟨A1,hR2,hs2,hb⟩:=hp
       have hs3:Sat ((Pr.pts (w.heap.size+1) (.loop (rec .ready none))).star (A1.star ((Pr.pts w.heap.size (.deferred (some []))).star Fr))) W2:=hs2.perm (by ac_rfl)
       refine⟨_,run_beginRound hs3.pts_heap (by rw [hrec]),?_⟩
       have hs4:=hs3.putObj (.loop { rec .ready none with state:= .busy })
       refine wpIn_mono (hb ((Pr.pts (w.heap.size+1) (.loop { rec .ready none with state:= .busy })).star ((Pr.pts w.heap.size (.deferred (some []))).star Fr)) _ ((Stays.refl W2).putObj _ _) (hs4.perm (by ac_rfl))) ?_
       have fin:∀(jump:Option Code) (B:Pr) (W3:World),Sat (B.star ((Pr.pts (w.heap.size+1) (.loop { rec .ready none with state:= .busy })).star ((Pr.pts w.heap.size (.deferred (some []))).star Fr))) W3→
        (Instr.endRound (w.heap.size+1) jump).run P W3= .ok (.bool jump.isNone) (W3.putObj (w.heap.size+1) (.loop (rec (if jump.isNone then .ready else .done) jump)))∧
        Sat (B.star ((Pr.pts (w.heap.size+1) (.loop (rec (if jump.isNone then .ready else .done) jump))).star ((Pr.pts w.heap.size (.deferred (some []))).star Fr))) (W3.putObj (w.heap.size+1) (.loop (rec (if jump.isNone then .ready else .done) jump))):=fun jump B W3 h3=>by
        have h4:Sat ((Pr.pts (w.heap.size+1) (.loop { rec .ready none with state:= .busy })).star (B.star ((Pr.pts w.heap.size (.deferred (some []))).star Fr))) W3:=h3.perm (by ac_rfl)
        have:=run_endRound (P:=P) jump h4.pts_heap
        rw [hrec] at this ⊢
        exact⟨this,(h4.putObj _).perm (by ac_rfl)⟩
       have hRb:Stays W W2:=hR2
       rintro e a3 W3 hp3
       cases e with
       | normal=>
         obtain⟨hR3,hs5⟩:=hp3
         obtain⟨hr,hs6⟩:=fin none _ W3 hs5
         exact⟨_,_,hr,(hRb.trans (((Stays.refl W2).putObj _ _).trans hR3)).putObj _ _,.inl ⟨rfl,hs6.perm (by ac_rfl)⟩⟩
       | ret=>
         obtain⟨hR3,hs5⟩:=hp3
         obtain⟨hr,hs6⟩:=fin (some .ret) _ W3 hs5
         exact⟨_,_,hr,(hRb.trans (((Stays.refl W2).putObj _ _).trans hR3)).putObj _ _,.inr ⟨rfl,exr .ret (hs6.perm (by ac_rfl))⟩⟩
       | exit id=>
         obtain⟨hR3,hs5⟩:=hp3
         obtain⟨hr,hs6⟩:=fin (some (.exit id)) _ W3 hs5
         exact⟨_,_,hr,(hRb.trans (((Stays.refl W2).putObj _ _).trans hR3)).putObj _ _,.inr ⟨rfl,exr (.exit id) (hs6.perm (by ac_rfl))⟩⟩
       | goto t=>
         obtain⟨hR3,hs5⟩:=hp3
         obtain⟨hr,hs6⟩:=fin (some (.goto t)) _ W3 hs5
         exact⟨_,_,hr,(hRb.trans (((Stays.refl W2).putObj _ _).trans hR3)).putObj _ _,.inr ⟨rfl,exr (.goto t) (hs6.perm (by ac_rfl))⟩⟩
       | panic ch=>exact hp3.elim
       | outgrown=>exact hp3.elim
     | ret=>exact hp.elim
     | exit id=>exact hp.elim
     | goto t=>exact hp.elim
     | panic ch=>exact hp.elim
     | outgrown=>exact hp.elim
   · rintro e W2 ⟨⟨v,rfl⟩,hR2,(⟨xs,hxs,hs2⟩ | ⟨pre,hpre,hs2⟩)⟩
     · have hs3:Sat ((Pr.pts (w.heap.size+1) (.loop (rec .ready none))).star (((I xs).star Own).star (Pr.pts w.heap.size (.deferred (some []))))) W2:=hs2.perm (by ac_rfl)
       have hs4:=hs3.putObj (.loop { rec .ready none with state:= .exhausted })
       refine⟨none,_,by have:=run_endLoop (P:=P) hs3.pts_heap (by rw [hrec];simp);rw [hrec] at this;exact this,hdone w.heap.size xs _ hxs ((hR1.trans hR2).putObj _ _) ?_⟩
       rw [hrec] at hs4;exact hs4.right
     · obtain⟨c,hs2⟩:=Sat.ex.1 hs2
       have hs3:Sat ((Pr.pts (w.heap.size+1) (.loop (rec .done (some c)))).star (((Ix c pre).star Own).star (Pr.pts w.heap.size (.deferred (some []))))) W2:=hs2.perm (by ac_rfl)
       have hs4:=hs3.putObj (.loop { rec .done (some c) with state:= .exhausted })
       refine⟨some c,_,by have:=run_endLoop (P:=P) hs3.pts_heap (by rw [hrec];simp);rw [hrec] at this;exact this,hstop w.heap.size c pre _ hpre ((hR1.trans hR2).putObj _ _) ?_⟩
       rw [hrec] at hs4;exact hs4.right
theorem wp_rangeFunc_v {α:Type}(n:Nat){P:Program}{g:Operand}{ps:Array Tmp}{assign body:Code}{Q:Exit→Act→World→Prop}{a:Act}{w:World}
 {gf:Nat} {lb:Array Value} (hg:a.eval g= .func (.func gf) #[] lb) (eg:∀args w,(callFunc gf args).run P w= .ok (.enter gf args) w)
 {encs:α→Array Value} {Ok:List α→α→Prop} {Done Stop:List α→Prop} {Give:α→Pr} {Own:Pr} (hit:IterV P gf lb encs Ok Done Stop Give Own) (hps:∀x,(encs x).size=ps.size)
 (I:List α→Pr) (Ix:Code→List α→Pr) (h0:Sat ((I []).star Own) w)
 (hround:∀(l:Nat) (pre:List α) (x:α) (W:World) (F1:Pr),Ok pre x→Sat (((I pre).star ((Give x).star Own)).star F1) W→
   assign.wpIn (Fence.wide.inRound l) (n-1-1) P (Exit.then (fun a1 W1=> ∃A1:Pr,Stays W W1∧Sat (A1.star F1) W1∧
    ∀(F2:Pr) (W2:World),Stays W1 W2→Sat (A1.star F2) W2→body.wpIn (Fence.wide.inRound l) (n-1-1) P (roundEnd I Ix Own F2 (pre++ [x]) W2) a1 W2) (fun _ _ _=>False))
    { tmps:=(ps.zip (encs x)).foldl (fun t (p,v)=>t.setIfInBounds p v) a.tmps,defers:= [] } W)
 (hdone:∀(D:Nat) (xs:List α) (W:World),Done xs→Stays w W→Sat (((I xs).star Own).star (Pr.pts D (.deferred (some [])))) W→Q .normal { a with defers:= { target:= .collected D,args:= #[] } :: a.defers } W)
 (hstop:∀(D:Nat) (c:Code) (pre:List α) (W:World),Stop pre→Stays w W→Sat (((Ix c pre).star Own).star (Pr.pts D (.deferred (some [])))) W→
   c.wp P Q { a with defers:= { target:= .collected D,args:= #[] } :: a.defers } W):
 (Code.rangeFunc g ps assign body).wp P Q a w:=
 wpIn_wide.1 (wpIn_rangeFunc_v (n:=n) hg eg hit hps I Ix h0 hround hdone (fun D c pre W h1 h2 h3=>wpIn_wide.2 (hstop D c pre W h1 h2 h3)))
end Go.Sl
namespace Go.Sl
open Go.RowKit
theorem wpList_appN {P:Program}{F:Pr}{w:World}{ops:Array Oper}{rest:List Oper}{o:Oper}{a:Act}{Q:Exit→Act→World→Prop}(hgd:o.guard=none)(s x:Operand)(t:TypeId)
 (ho:o.op= .call { callee:= .builtin .append,args:= #[s,x],argTypes:= #[t,t] })
 (e:TypeId) (i:TypeInfo) (z:Value) (size bytes:Nat) (ht:P.underlying t=some (.slice e)) (hi:P.info? e=some i) (hz:i.zero=some z)
 (hsize:i.size=size) (hby:i.bytes=bytes) (hzs:z.cells.size=size)
 (v:Value) (n:Nat) (xs:List Value) (hs:a.eval s=v) (hown:Sat ((Row e size v n xs).star F) w)
 (ad:Addr) (m c:Nat) (news:List Value) (hx:a.eval x= .slice (some ad) m c) (hl:news.length=m*size) (hnews:∀j u,news[j]? =some u→w.cell? (ad.add j)=some u) (h1:∀u∈news,u.oneCell'=true)
 (h63:n+m≤maxLen) (hbytes:(n+m)*bytes≤140737488355328)
 (h:∀v' w',Sat ((Row e size v' (n+m) (xs++news)).star F) w'→w.grownBy w' v.ownBlock→∀K:Act→Prop,(∀a',wpList P ops Q rest a' w'→K a')→K (a.put o.dst v')):wpList P ops Q (o :: rest) a w:=
 wpList_append_sl hgd s x t ho e i z size bytes ht hi hz hsize hby hzs v n xs hs hown ad m c news hx hl hnews h1 h63 hbytes fun v' w' h2 h3 _=>h v' w' h2 h3 _ fun _ h=>h
theorem wpQ_lookN {P:Program}{ops:Array Oper}{i:Nat}{l:List Nat}{N:Act→Prop}{a:Act}{w:World}{o:Oper}{t:TypeId}{m x:Operand}{c:Bool}{v:Value}(ho:ops[i]? =some o)(hop:o.op= .lookup t m x c)(hw:Region.wanted o (yielded ops a.tmps)=true)
 (hrun:(Instr.lookup t (a.eval m) (a.eval x) c).run P w= .ok v w) (h:∀K:Act→Prop,(∀a',wpQ P ops l N a' w→K a')→K (a.put o.dst v)):wpQ P ops (i :: l) N a w:=
 wpQ_look ho hop hw hrun (h _ fun _ h=>h)
end Go.Sl
namespace Go.Proofs.YtbobcmimkonnoaaGreat.Dy
open ChangeShapes WideShapes ChangeAt RowKit Sl Cop Go.Shelf D2 K3 N3 P3 Q3 G2 M2 U3 Y3 Z3 D4 F4 J4 X3 Q8 Y5 M9 G4 N9
attribute [local go_sem] Oper.semAt_some
theorem infoNum:(Tryz.prog.info? 78).map (fun i=>(i.zero,i.size,i.bytes))=some (some (.agg #[.int .i64 0,.int .i64 0,.int .i64 0,.slice none 0 0,.slice none 0 0,.int .i64 0]),6,80):=by kernel_rfl
def numsOf(s:VaultS)(l:List Int):List NumV:=l.map fun n=>⟨n,(s.on n).getD zeroP⟩
structure NumsAt(h:Hp)(xs:List (Value × Value))(l:List NumV):Prop where
 len:xs.length=l.length
 each:∀i (_:i<xs.length) (_:i<l.length),ItemsIn h xs[i].1 l[i].page.items∧Bytes h xs[i].2 l[i].page.data
def NumsRow(v:Value)(l:List NumV):Pr:=Pr.ex fun y:List (Value × Value) × Hp=>(Pr.pure (NumsAt y.2 y.1 l)).star ((Row 78 6 v l.length ((y.1.zip l).flatMap numCells)).star (Pr.own y.2))
theorem numsRow_iff {v:Value}{l:List NumV}{F:Pr}{w:World}:Sat ((NumsRow v l).star F) w↔∃xs h,NumsAt h xs l∧Sat ((Row 78 6 v l.length ((xs.zip l).flatMap numCells)).star ((Pr.own h).star F)) w:=by
 unfold NumsRow
 rw [Sat.ex]
 constructor
 · rintro⟨⟨xs,h⟩,h1⟩
   rw [Pr.star_assoc] at h1
   obtain⟨h2,h3⟩:=Sat.pure.1 h1
   exact⟨xs,h,h2,h3.perm (Pr.star_assoc _ _ _)⟩
 · rintro⟨xs,h,h1,h2⟩
   refine⟨(xs,h),?_⟩
   rw [Pr.star_assoc]
   exact Sat.pure.2 ⟨h1,h2.perm (Pr.star_assoc _ _ _).symm⟩
theorem numsRow_in {v:Value}{l:List NumV}{h:Hp}(hr:NumsRow v l h):NumsIn h v l:=by
 obtain⟨⟨xs,h0⟩,hr⟩:=hr
 obtain⟨_,b,⟨ha,rfl⟩,hb,s1,s2⟩:=star_sub hr
 obtain⟨c,d,hc,hd,s3,s4⟩:=star_sub hb
 have hd':d=h0:=hd
 subst hd'
 exact⟨xs,ha.len,((Row.rowIn hc).sub s3).sub s2,fun i hx hl=>⟨((ha.each i hx hl).1.sub s4).sub s2,((ha.each i hx hl).2.sub s4).sub s2⟩⟩
theorem numsRow_start {F:Pr}{w:World}(h:Sat F w):Sat ((NumsRow (.slice none 0 0) []).star F) w:=by
 refine numsRow_iff.2 ⟨[],Hp.nil,⟨rfl,fun i hx=>absurd hx (by simp)⟩,?_⟩
 rw [own_nil,Pr.emp_star,List.zip_nil_left,List.flatMap_nil,List.length_nil,Row.nil,Pr.emp_star]
 exact h
theorem NumsAt.snoc {h h':Hp}(hd:h.dis h'){xs:List (Value × Value)}{l:List NumV}(ha:NumsAt h xs l){vi vd:Value}{x:NumV}(hi:ItemsIn h' vi x.page.items)(hb:Bytes h' vd x.page.data):NumsAt (h.un h') (xs++ [(vi,vd)]) (l++ [x]):=by
 refine⟨by simp [ha.len],fun i hx hl=> ?_⟩
 by_cases he:i<l.length
 · have hx2:i<xs.length:=by rw [ha.len];exact he
   rw [List.getElem_append_left hx2,List.getElem_append_left he]
   exact⟨(ha.each i hx2 he).1.sub (Hp.sub_un_left _ _),(ha.each i hx2 he).2.sub (Hp.sub_un_left _ _)⟩
 · have e1:i=l.length:=by simp at hl;omega
   subst e1
   rw [List.getElem_append_right (by rw [ha.len];exact Nat.le_refl _),List.getElem_append_right (Nat.le_refl _)]
   simp only [ha.len,Nat.sub_self,List.getElem_cons_zero]
   exact⟨hi.sub (Hp.sub_un_right hd),hb.sub (Hp.sub_un_right hd)⟩
theorem numCells_snoc {xs:List (Value × Value)}{l:List NumV}(h:xs.length=l.length)(p:Value × Value)(x:NumV):((xs++ [p]).zip (l++ [x])).flatMap numCells=(xs.zip l).flatMap numCells++numCells (p,x):=by
 rw [List.zip_append h,List.flatMap_append]
 simp
theorem look_page {h:Hp}{f:Int→Option Value}{on:Int→Option PageV}(hO:OnIn h f on)(n:Int):PageIn h ((f n).getD zeroPage) ((on n).getD zeroP):=by
 have:=hO n
 cases hy:on n with
 | none=>
   rw [hy] at this
   dsimp only at this
   rw [this]
   exact zeroIn.sub (fun _ _ e=>by cases e)
 | some g=>
   rw [hy] at this
   obtain⟨v,e1,e2⟩:=this
   rw [e1]
   exact e2
def WalkIn(h:Hp)(fv:Value)(l:List NumV):Prop:= ∃lb lv,fv= .func (.func 117) #[] #[.pointer (some ⟨lb,0,none⟩)]∧h lb=some (.cells #[lv] 41)∧NumsIn h lv l
theorem WalkIn.sub {a b:Hp}(hs:a.sub b){fv:Value}{l:List NumV}(h:WalkIn a fv l):WalkIn b fv l:=by
 obtain⟨lb,lv,e1,e2,xs,h1,h2,h3⟩:=h
 exact⟨lb,lv,e1,hs _ _ e2,xs,h1,h2.sub hs,fun i hx hl=>⟨(h3 i hx hl).1.sub hs,(h3 i hx hl).2.sub hs⟩⟩
abbrev vaultP(v:Nat)(s:VaultS)(x:VX):Pr:=Pr.pts v (.cells #[.pointer (some ⟨x.p,0,none⟩),.map (some x.mb),x.av,.int .i64 s.floor] 71)
theorem vpages_any(v:Nat)(s:VaultS)(k:Int)(hfit:∀n g,s.on n=some g→Fit g)(F:Pr)(w:World)(hF:Sat ((VaultA v s).star F) w):
 Calls Tryz.prog 52 #[.pointer (some ⟨v,0,none⟩),.int .i64 k] w fun e w'=>Stays w w'∧∃h' fv,e= .returned fv∧WalkIn h' fv (numsOf s (pagesIn s.pool k))∧Sat ((Pr.own h').star ((VaultA v s).star F)) w':=by
 have hs0:=(OwnL.in1 hF).alloc (.cells #[.pointer (some ⟨v,0,none⟩)] 35)
 have okp:=(vault_ok hF).1
 obtain⟨x,ok,hx⟩:=vaultA_iff.1 (hs0.pull1 (A1:=VaultA v s))
 have hs1:OwnL [vaultP v s x,PoolA x.p s.pool,MapA Tryz.prog 3 x.mb x.f,Row 158 2 x.av s.acts.length (actCells x.axs),Pr.own x.h,Pr.pts w.heap.size (.cells #[.pointer (some ⟨v,0,none⟩)] 35),F] _:=⟨hx.perm (by unfold VaultAt vaultP;simp only [starL,Pr.star_emp];ac_rfl)⟩
 have hs2:=hs1.alloc (.cells #[.slice none 0 0] 41)
 rw [show (w.alloc (.cells #[.pointer (some ⟨v,0,none⟩)] 35)).heap.size=w.heap.size+1 by simp] at hs2
 have c1:=hs2.facts
 simp only [CellsAt,Nat.reduceAdd,and_true] at c1
 have PG:=hQ (ppages_any x.p s.pool k _ _ hs2.pull1)
 have HST:=hQ (((Stays.refl w).alloc (.cells #[.pointer (some ⟨v,0,none⟩)] 35)).alloc (.cells #[.slice none 0 0] 41))
 have HOK:=hQ ok
 have HFIT:=hQ hfit
 have OKP:=hQ okp
 clear hF hs0 hs1 hs2 hx ok hfit okp
 refine calls_of_wp_marks (n:=9) Tryz.func52 rfl ?_
 simp only [Tryz.ntmps52,List.size_toArray,List.length_cons,List.length_nil,Nat.reduceAdd,Nat.reduceSub,Array.replicate_succ,Array.replicate_zero,List.push_toArray,List.append_toArray,List.nil_append,List.cons_append]
 go_wp2_with fail
 refine PG.out.mono ?_
 rintro e w1 ⟨st1,lb,lv,rfl,hs3⟩
 have HS3:=hQ (OwnL.of3 hs3)
 have HST1:=hQ (HST.out.trans st1)
 clear hs3 st1 PG HST c1
 go_wp2
 refine wp_rangeFunc_sl 9 (gf:=158) rfl (enters_of Tryz.func158 (by kernel_rfl) rfl) (pages1 lb lv (pagesIn s.pool k) (Nat.le_trans (pagesTo_len _ _ _) OKP.out.n2)) (fun _=>rfl)
  (fun pre=>Pr.ex fun nv:Value=>(Pr.pts (w.heap.size+1) (.cells #[nv] 41)).star ((NumsRow nv (numsOf s pre)).star ((vaultP v s x).star ((PoolA x.p s.pool).star ((MapA Tryz.prog 3 x.mb x.f).star ((Row 158 2 x.av s.acts.length (actCells x.axs)).star ((Pr.own x.h).star ((Pr.pts w.heap.size (.cells #[.pointer (some ⟨v,0,none⟩)] 35)).star F)))))))) (fun _ _=>Pr.pure False) ?start ?round ?done ?stop
 case start=>
  refine Sat.ex.2 ⟨.slice none 0 0,?_⟩
  have h1:=HS3.out.to (M:= [Pr.pts (w.heap.size+1) (.cells #[.slice none 0 0] 41),vaultP v s x,PoolA x.p s.pool,MapA Tryz.prog 3 x.mb x.f,Row 158 2 x.av s.acts.length (actCells x.axs),Pr.own x.h,Pr.pts w.heap.size (.cells #[.pointer (some ⟨v,0,none⟩)] 35),F,Pr.pts lb (.cells #[lv] 40),IntsRow lv (pagesIn s.pool k)])
  have h2:=numsRow_start h1.sat
  refine h2.perm ?_
  unfold PagesOwn
  simp only [starL,Pr.star_emp,numsOf,List.map_nil]
  ac_rfl
 case round=>
  intro l' pre y W1 F1 hpre hs
  have hmem:y∈pagesIn s.pool k:=hpre.subset (List.mem_append_right _ (List.mem_singleton_self y))
  have hth:=(pages_mem.1 hmem).1
  have hno:1≤y∧y≤65536:=⟨hth.1,by have:=hth.2;have:=OKP.out.n2;omega⟩
  have hlen:pre.length+1≤65536:=by
   have h1:=hpre.length_le
   have h2:(pagesIn s.pool k).length≤s.pool.counts.length:=pagesTo_len s.pool k s.pool.counts.length
   have h3:=OKP.out.n2
   rw [List.length_append,List.length_singleton] at h1
   omega
  have HS1:=hQ hs
  clear hs hmem hth hpre
  simp only [encI]
  gi_wp2
  refine⟨_,Stays.refl _,HS1.out,?_⟩
  clear HS1
  intro F2 W2 _ hs2
  rw [Pr.star_assoc] at hs2
  obtain⟨nv,hs3⟩:=Sat.ex.1 hs2
  have hs4:OwnL [NumsRow nv (numsOf s pre),Pr.pts (w.heap.size+1) (.cells #[nv] 41),vaultP v s x,PoolA x.p s.pool,MapA Tryz.prog 3 x.mb x.f,Row 158 2 x.av s.acts.length (actCells x.axs),Pr.own x.h,Pr.pts w.heap.size (.cells #[.pointer (some ⟨v,0,none⟩)] 35),F,PagesOwn lb lv (pagesIn s.pool k),F2] W2:=⟨hs3.perm (by simp only [starL,Pr.star_emp];ac_rfl)⟩
  obtain⟨xs,hk,hna,hs5⟩:=numsRow_iff.1 hs4.sat
  have hnl:(numsOf s pre).length=pre.length:=by simp [numsOf]
  obtain⟨np,hnp⟩:∃np,pre.length=np:=⟨_,rfl⟩
  rw [hnl,hnp] at hs5
  have hs6:=OwnL.of2 hs5
  obtain⟨an,cn,rfl⟩:=Row.shape (hs6.row nv)
  have c1:=hs6.facts
  simp only [CellsAt,Nat.reduceAdd,and_true] at c1
  have LK:=map_look (P:=Tryz.prog) (w:=W2.drew) Tryz.underlying3 Tryz.underlying68 (z:=zeroPage) (zero_page _) false hno (hs6.drew.pull1 (A1:=MapA Tryz.prog 3 x.mb x.f))
  obtain⟨g,hg⟩:∃g,(s.on y).getD zeroP=g:=⟨_,rfl⟩
  have fit:Fit g:=by
   rw [← hg]
   cases hy:s.on y with
   | none=>exact fitZ
   | some g0=>exact HFIT.out y g0 hy
  have hpv:=look_page HOK.out.on y
  rw [hg] at hpv
  obtain⟨pv,hpe⟩:∃pv,(x.f y).getD zeroPage=pv:=⟨_,rfl⟩
  rw [hpe] at hpv LK
  have HLK:=hQ (show (Instr.lookup 68 (.map (some x.mb)) (.int .i64 y) false).run Tryz.prog W2.drew= .ok pv W2.drew from LK)
  have C:=hQ (copied_any x.h pv g hpv (by have:=fit.n;omega) (fitK fit) (by have:=fit.d;omega) _ _ (hs6.drew.pull1 (A1:=Pr.own x.h)))
  obtain⟨vi,vd,epv,hi0,hb0⟩:=id hpv
  obtain⟨ai,ci,rfl,_,_⟩:=items_rd hi0
  obtain⟨ad,cd,rfl⟩:=bytes_shape hb0
  subst epv
  have HNA:=hQ hna
  have HG:=hQ (And.intro hg fit)
  have HNL:=hQ hnl
  rw [hnp] at hlen
  have HNP:=hQ hnp
  obtain⟨j0,hj,hy0,hy1,hy2⟩:=info_parts infoNum
  clear hs2 hs3 hs4 hs5 hs6 hna LK hg fit hpv hi0 hb0 hpe hnl hnp
  gi_wp2_with fail
  refine wpIn_region_staged (sz:=27) (by kernel_rfl) [0,1,2,3,4,5,6,7] [(8,[9],[0,1,2,3,4,5,6]),(10,[],[0,1,2,3,4,5,6]),(11,[],[1,2,3,4,5,6]),(12,[],[])] rfl (by kernel_rfl) (by kernel_rfl) (by kernel_rfl) (by kernel_rfl) ?_
  refine wpQ_cut [0,1,2,3,4,5,6] [7] ?_
  refine wpQ_all _ rfl rfl ?_
  simp only [pick,pQ]
  iterate 7 (go_big_quiet_step (fail))
  refine wpQuiet_nil ?_
  refine wpQ_lookN rfl rfl rfl HLK.out (fun K hK=> ?_)
  go_simp
  refine hK _ ?_
  clear hK K
  refine wpQ_nil ?_
  refine wpRest_act rfl ?_
  go_wp2_with fail
  refine C.out.mono ?_
  rintro e w3 ⟨pv2,h',rfl,hpv2,hs7,st7⟩
  obtain⟨vi2,vd2,epv2,hi2,hb2⟩:=id hpv2
  obtain⟨ai2,ci2,rfl,_,_⟩:=items_rd hi2
  obtain⟨ad2,cd2,rfl⟩:=bytes_shape hb2
  subst epv2
  have hs8:=OwnL.of2 hs7
  clear c1
  have c1:=hs8.facts
  simp only [CellsAt,Nat.reduceAdd,and_true] at c1
  have A1:=hQ ((hs8.alloc (.cells #[.int .i64 y,.int .i64 g.kind,.int .i64 g.level,.slice ai2 g.items.length ci2,.slice ad2 g.data.length cd2,.int .i64 g.next] 78)).drop.pull1 (A1:=Row 78 6 (.slice an np cn) np ((xs.zip (numsOf s pre)).flatMap numCells)))
  have hnew:=hQ (show ∀j u,[Value.int .i64 y,.int .i64 g.kind,.int .i64 g.level,.slice ai2 g.items.length ci2,.slice ad2 g.data.length cd2,.int .i64 g.next][j]? =some u→(w3.alloc (.cells #[.int .i64 y,.int .i64 g.kind,.int .i64 g.level,.slice ai2 g.items.length ci2,.slice ad2 g.data.length cd2,.int .i64 g.next] 78)).cell? ((⟨w3.heap.size,0,none⟩:Addr).add j)=some u from fresh_cells w3 [.int .i64 y,.int .i64 g.kind,.int .i64 g.level,.slice ai2 g.items.length ci2,.slice ad2 g.data.length cd2,.int .i64 g.next] 78)
  have HSTA:=hQ (((Stays.refl W2).drew.trans st7).alloc (.cells #[.int .i64 y,.int .i64 g.kind,.int .i64 g.level,.slice ai2 g.items.length ci2,.slice ad2 g.data.length cd2,.int .i64 g.next] 78))
  have HI2:=hQ (And.intro hi2 hb2)
  clear hs7 hs8 st7 C hpv2 hi2 hb2 HLK
  go_wp2
  refine onN_mk ?_
  refine wpQ_all _ rfl rfl ?_
  simp only [pick,pQ]
  iterate 1 (go_big_quiet_step (fail))
  refine wpQuiet_nil ⟨?_,?_⟩
  · refine chk_all _ rfl rfl ?_
    simp only [pick,Same,pQ,and_true]
    repeat' (first | apply And.intro | (go_big_quiet_step (fail);exact wpQuiet_nil rfl))
  refine wpRest_act rfl ?_
  go_wp2
  refine onN_mk ?_
  refine wpQ_nil ⟨?_,?_⟩
  · refine chk_all _ rfl rfl ?_
    simp only [pick,Same,pQ,and_true]
    repeat' (first | apply And.intro | (go_big_quiet_step (fail);exact wpQuiet_nil rfl))
  refine wpRest_act rfl ?_
  refine wpList_appN rfl _ _ _ rfl 78 j0 (.agg #[.int .i64 0,.int .i64 0,.int .i64 0,.slice none 0 0,.slice none 0 0,.int .i64 0]) 6 80 Tryz.underlying41 hj hy0 hy1 hy2 rfl _ _ _ rfl A1.out ⟨w3.heap.size,0,none⟩ 1 1 [.int .i64 y,.int .i64 g.kind,.int .i64 g.level,.slice ai2 g.items.length ci2,.slice ad2 g.data.length cd2,.int .i64 g.next] rfl rfl hnew.out (by simp [Value.oneCell']) (by simp only [maxLen];omega) (by omega) (fun v7 w7 hs9 hg9 K0 hK0=> ?_)
  obtain⟨a7,c7,e7,_,_⟩:=Row.read hs9
  subst e7
  go_simp
  refine hK0 _ ?_
  clear hK0 K0
  have HS9:=hQ (OwnL.of1 hs9)
  have HST9:=hQ (HSTA.out.of_grown hg9)
  clear hs9 hg9 A1 hnew HSTA c1
  have c1:=HS9.out.facts
  simp only [CellsAt,Nat.reduceAdd,and_true] at c1
  refine wpList_nil ?_
  refine onN_mk ?_
  refine wpQ_nil ⟨?_,?_⟩
  · refine chk_all _ rfl rfl ?_
    simp only [pick,Same,pQ,and_true]
    repeat' (first | apply And.intro | (go_big_quiet_step (fail);exact wpQuiet_nil rfl))
  refine wpRest_act rfl ?_
  go_wp2
  refine onN_mk ?_
  refine wpQ_nil ⟨?_,?_⟩
  · exact chk_nil
  refine wpRest_nil ?_
  gi_wp2
  refine⟨HST9.out.setCell _ _,?_⟩
  have h10:=HS9.out.set (w.heap.size+1) 0 (.slice a7 (np+1) c7)
  obtain⟨hd,h11⟩:=(h10.pull2 (A1:=Pr.own hk) (A2:=Pr.own h')).own_join
  have h13:=(OwnL.of1 h11).pull2 (A1:=Row 78 6 (.slice a7 (np+1) c7) (np+1) ((xs.zip (numsOf s pre)).flatMap numCells++ [.int .i64 y,.int .i64 g.kind,.int .i64 g.level,.slice ai2 g.items.length ci2,.slice ad2 g.data.length cd2,.int .i64 g.next])) (A2:=Pr.own (hk.un h'))
  have e1:numsOf s (pre++ [y])=numsOf s pre++ [⟨y,g⟩]:=by
   unfold numsOf
   rw [List.map_append,List.map_singleton,HG.out.1]
  have h14:=(numsRow_iff (v:= .slice a7 (np+1) c7) (l:=numsOf s pre++ [⟨y,g⟩])).2 ⟨xs++ [(.slice ai2 g.items.length ci2,.slice ad2 g.data.length cd2)],hk.un h',HNA.out.snoc hd (x:=⟨y,g⟩) HI2.out.1 HI2.out.2,(by rw [numCells_snoc HNA.out.len,List.length_append,HNL.out,HNP.out];exact h13)⟩
  have h15:=(OwnL.of1 h14).to (M:= [Pr.pts (w.heap.size+1) (.cells #[.slice a7 (np+1) c7] 41),NumsRow (.slice a7 (np+1) c7) (numsOf s pre++ [⟨y,g⟩]),vaultP v s x,PoolA x.p s.pool,MapA Tryz.prog 3 x.mb x.f,Row 158 2 x.av s.acts.length (actCells x.axs),Pr.own x.h,Pr.pts w.heap.size (.cells #[.pointer (some ⟨v,0,none⟩)] 35),F,PagesOwn lb lv (pagesIn s.pool k),F2])
  dsimp only
  rw [e1,Pr.star_assoc]
  refine Sat.ex.2 ⟨.slice a7 (np+1) c7,h15.sat.perm ?_⟩
  simp only [starL,Pr.star_emp]
  ac_rfl
 case done=>
  intro D xs W2 hxs hst hs
  subst hxs
  rw [Pr.star_assoc] at hs
  obtain⟨nv,hs3⟩:=Sat.ex.1 hs
  have hs4:OwnL [Pr.pts D (.deferred (some [])),NumsRow nv (numsOf s (pagesIn s.pool k)),Pr.pts (w.heap.size+1) (.cells #[nv] 41),vaultP v s x,PoolA x.p s.pool,MapA Tryz.prog 3 x.mb x.f,Row 158 2 x.av s.acts.length (actCells x.axs),Pr.own x.h,Pr.pts w.heap.size (.cells #[.pointer (some ⟨v,0,none⟩)] 35),F,PagesOwn lb lv (pagesIn s.pool k)] W2:=⟨hs3.perm (by simp only [starL,Pr.star_emp];ac_rfl)⟩
  have HS4:=hQ hs4
  have HST4:=hQ (HST1.out.trans hst)
  clear hs hs3 hs4 hst
  go_wp2
  have q1:=HS4.out.pull1 (A1:=Pr.pts D (.deferred (some [])))
  have q2:=OwnL.of0 (q1.putObj (.deferred none)).right
  obtain⟨a,ha,hs5⟩:=(q2.join2 (Pr.pts (w.heap.size+1) (.cells #[nv] 41)) (NumsRow nv (numsOf s (pagesIn s.pool k)))).arena ((Pr.pts (w.heap.size+1) (.cells #[nv] 41)).star (NumsRow nv (numsOf s (pagesIn s.pool k))))
  refine marks_ret1 (D:=D) rfl q1.pts_heap ⟨_,results_tmp rfl _ _ _,HST4.out.putObj _ _,a,_,rfl,?_,?_⟩
  · obtain⟨p,q,hp,hq,s1,s2⟩:=star_sub ha
    obtain⟨ys,g1,g2,g3⟩:=numsRow_in hq
    refine⟨w.heap.size+1,nv,rfl,s1 _ _ ?_,ys,g1,g2.sub s2,fun i hx hl=>⟨(g3 i hx hl).1.sub s2,(g3 i hx hl).2.sub s2⟩⟩
    rw [show p=_ from hp]
    simp
  · refine Sat.perm (A:=(VaultA v s).star ((Pr.own a).star F)) ?_ (Pr.left_comm _ _ _)
    refine vaultA_iff.2 ⟨x,HOK.out,?_⟩
    refine Sat.left (B:=starL [PagesOwn lb lv (pagesIn s.pool k),Pr.pts w.heap.size (.cells #[.pointer (some ⟨v,0,none⟩)] 35)]) ((hs5.to (M:= [Pr.own a,vaultP v s x,PoolA x.p s.pool,MapA Tryz.prog 3 x.mb x.f,Row 158 2 x.av s.acts.length (actCells x.axs),Pr.own x.h,F,PagesOwn lb lv (pagesIn s.pool k),Pr.pts w.heap.size (.cells #[.pointer (some ⟨v,0,none⟩)] 35)])).sat.perm ?_)
    unfold VaultAt vaultP
    simp only [starL,Pr.star_emp]
    ac_rfl
 case stop=>
  intro D c pre W2 _ hst hs
  exact(Sat.pure.1 (hs.perm (Pr.star_assoc _ _ _))).1.elim
end Go.Proofs.YtbobcmimkonnoaaGreat.Dy
namespace Go.Sl
def wpRestIn(F:Fence)(n:Nat)(P:Program)(ops:Array Oper)(Q:Exit→Act→World→Prop):List (Nat × List Nat × List Nat)→Act→World→Prop
 | [],f,w=>Q .normal f w
 | (x,E,C) :: rest,f,w=>match ops[x]? with
   | none=>False
   | some o=>wpListIn F n P ops (onN fun f1 w1=>wpQ P ops E (fun f2=>Chk P ops C f2 w1∧wpRestIn F n P ops Q rest f2 w1) f1 w1) [o] f w
section
variable {F:Fence}{n:Nat}{P:Program}{ops:Array Oper}{sz:Nat}
theorem nodef_at(hs:slotsOkD ops=true){i:Nat}{o:Oper}(ho:ops[i]? =some o):∀c,o.op≠ .defer c:=by
 intro c e
 obtain⟨hi3,e2⟩:=Array.getElem?_eq_some_iff.1 ho
 have:=Array.all_eq_true_iff_forall_mem.1 hs o (by rw [← e2];exact Array.getElem_mem hi3)
 rw [e] at this
 cases this
theorem oper_wpIn_rel(hF:∀f,F.fn f){o:Oper}(hd2:∀c,o.op≠ .defer c){a f:Act}{w:World}{K Kr:Act→World→Prop}{Q:Exit→Act→World→Prop}{K2:Act→World→Prop}(he:execOp a.eval o=execOp f.eval o)(hd:a.defers=f.defers)
 (hK:∀v ds w',K (({ f with defers:=ds }:Act).put o.dst v) w'→Kr (({ a with defers:=ds }:Act).put o.dst v) w') (h:o.wpIn F n P f w K (onN K2)):o.wpIn F n P a w Kr Q:=by
 refine⟨fun g _=>hF g,?_⟩
 have h:=h.2
 rw [Oper.semAt_eq _ _ _ hd2] at h ⊢
 rw [he]
 generalize (execOp f.eval o).run P w=r at*
 have hK0:∀v w',K (f.put o.dst v) w'→Kr (a.put o.dst v) w':=fun v w' h=>by
  have:=hK v f.defers w' h
  rw [← hd] at this
  exact this
 have hend:∀(e:Ending) (w'':World),(match (motive:=Ending→World→Prop) e,w'' with | .returned v,w''=>K (f.put o.dst v) w'' | .panicked c,w''=>onN K2 (.panic c) f w'' | .outgrown,_=>LetsOut (onN K2))→
  (match (motive:=Ending→World→Prop) e,w'' with | .returned v,w''=>Kr (a.put o.dst v) w'' | .panicked c,w''=>Q (.panic c) a w'' | .outgrown,_=>LetsOut Q):=by
  intro e w'' he
  cases e with
  | returned v=>exact hK0 _ _ he
  | panicked c=>exact(he:False).elim
  | outgrown=>obtain⟨_,_,hf⟩:=he;exact(hf:False).elim
 cases r with
 | ok x w'=>
   cases x<;>simp only [Oper.uponIn] at h ⊢ <;>
    first
     | exact hK0 _ _ h
     | (rw [hd];exact hK _ _ _ h)
     | exact⟨h.1,CallsIn.mono h.2 hend⟩
     | exact⟨h.1,RoundIn.mono h.2 hend⟩
     | exact⟨h.1,RowsIn.mono h.2 (fun _ _ he=>hK0 _ _ he)⟩
 | halt x w'=>cases x<;>simp only [Oper.uponIn] at h ⊢ <;>first | exact h | exact(h:False).elim
theorem staged_anyIn {Q:Exit→Act→World→Prop}(hF:∀f,F.fn f)(hsd:slotsOkD ops=true)(hs:slotsOk ops sz=true):∀(fuel:Nat) (L:Array Bool) (a:Act) (w:World) (D Fd:List Nat) (rest:List (Nat × List Nat × List Nat)) (f:Act),
 planOk ops D Fd rest=true→L.size=ops.size→unl ops L=fuel→f.tmps.size=sz→Agree ops L a f→(∀i,i<ops.size→Lst L i→i∈D)→(∀i∈Fd,Lst L i)→
 (∀i∈D,¬Lst L i→YieldF P ops i f w)→wpRestIn F n P ops Q rest f w→wpAnyIn F n P .any ops Q fuel L a w:=by
 intro fuel
 induction fuel with
 | zero=>
   intro L a w D Fd rest f hp hL hu hfs hA hsub hFd hY hc
   have hall:∀i,i<ops.size→Lst L i:=fun i hi=>by
    have h0:(List.range ops.size).filter (fun i=> !L.getD i true)= []:=List.eq_nil_of_length_eq_zero hu
    have:=List.filter_eq_nil_iff.1 h0 i (List.mem_range.2 hi)
    simpa [Lst] using this
   have hnil:Region.ready .any ops L= []:=by
    cases hr:Region.ready .any ops L with
    | nil=>rfl
    | cons j js=>
      have hj:j∈Region.ready .any ops L:=by rw [hr];exact List.mem_cons_self
      obtain⟨h1,h2,_⟩:=ready_mem.1 hj
      exact absurd (hall j h1) h2
   refine⟨hnil,?_⟩
   cases rest with
   | nil=>rw [agree_all hA hall];exact hc
   | cons s rest=>
     obtain⟨x,E,C⟩:=s
     simp only [planOk,Bool.and_eq_true] at hp
     obtain⟨⟨⟨⟨⟨h1,h2⟩,_⟩,_⟩,_⟩,_⟩:=hp
     have hx:x<ops.size:=by simpa using h2
     have:=hsub x hx (hall x hx)
     simp [this] at h1
 | succ fuel ih=>
   intro L a w D Fd rest f hp hL hu hfs hA hsub hFd hY hc
   refine⟨fun hnil=> ?_,fun i hi=> ?_⟩
   · exfalso
     have hne:(List.range ops.size).filter (fun i=> !L.getD i true)≠ []:=fun e=>by unfold unl at hu;rw [e] at hu;simp at hu
     obtain⟨j,hj⟩:=List.exists_mem_of_ne_nil _ hne
     rw [List.mem_filter,List.mem_range] at hj
     obtain⟨k,hk⟩:=unlisted_ready hs hL j j (Nat.le_refl _) hj.1 (by unfold Lst;simpa using hj.2)
     rw [hnil] at hk
     cases hk
   · obtain⟨hin,hul,o,ho,hdeps⟩:=ready_mem.1 hi
     obtain⟨hn,hlt,_,hdd⟩:=slots_at hs ho
     have hlook:∀t∈o.looksAt ops,a.tmps[t]? =f.tmps[t]? :=fun t ht=>hA.2.2 t fun j hj=>(dep_listed hdeps ((hdd j t hj).1 ht)).1
     obtain⟨he,hw⟩:=exec_same hn hlook
     have hL':(L.setIfInBounds i true).size=ops.size:=by simpa using hL
     have hu':unl ops (L.setIfInBounds i true)=fuel:=by have:=unl_set (L:=L) hin hul;omega
     have hdst:∀j t,dstOf ops j=some t→j<ops.size:=fun j t hj=>by
      unfold dstOf at hj
      cases hx:ops[j]? with
      | none=>simp [hx] at hj
      | some _=>exact(Array.getElem?_eq_some_iff.1 hx).1
     by_cases hD:i∈D
     ·
      have put:∀v,(∀d,o.dst=some d→f.tmps[d]? =some v)→wpAnyIn F n P .any ops Q fuel (L.setIfInBounds i true) (a.put o.dst v) w:=by
       intro v hv
       refine ih _ _ w D Fd rest f hp hL' hu' hfs ⟨by rw [put_size];exact hA.1,by rw [put_defs];exact hA.2.1,fun t ht=> ?_⟩ (fun j hj hl=> ?_) (fun j hj=>lst_set.2 (.inr (hFd j hj))) (fun j hj hl=>hY j hj fun h=>hl (lst_set.2 (.inr h))) hc
       · by_cases hdt:o.dst=some t
         · rw [hdt,put_self (by rw [hA.1,hfs];exact hlt t hdt),hv t hdt]
         · rw [put_at hdt]
           refine hA.2.2 t fun j hj=> ?_
           rcases lst_set.1 (ht j hj) with rfl | h
           · rw [dstOf_at ho] at hj;exact absurd hj hdt
           · exact h
       · rcases lst_set.1 hl with rfl | h
         · exact hD
         · exact hsub j hj h
      have hy:=hY i hD hul
      simp only [YieldF,ho] at hy
      unfold wpOpIn
      simp only [ho]
      rcases hy with⟨hwt,v,hr,hv⟩ | ⟨hwf,hv⟩
      · rw [hw,hwt]
        simp only [if_true]
        refine⟨fun g _=>hF g,?_⟩
        rw [Oper.semAt_eq _ _ _ (nodef_at hsd ho),he,hr]
        exact put v hv
      · rw [hw,hwf]
        simp only [Bool.false_eq_true,if_false]
        exact⟨fun g _=>hF g,put undef hv⟩
     ·
      cases rest with
      | nil=>
        have:=List.all_eq_true.1 hp i (List.mem_range.2 hin)
        exact absurd (by simpa using this) hD
      | cons s rest=>
        obtain⟨x,E,C⟩:=s
        simp only [planOk,Bool.and_eq_true] at hp
        obtain⟨⟨⟨⟨⟨h1,h2⟩,h3⟩,h4⟩,h5⟩,h6⟩:=hp
        have hxD:x ∉ D:=by simpa using h1
        have hix:i=x:=by
         have:=List.all_eq_true.1 h3 i (List.mem_range.2 hin)
         simp only [Bool.or_eq_true,ho] at this
         rcases this with(t | t) | t
         · exact absurd (by simpa using t) hD
         · simpa using t
         · exfalso
           obtain⟨e,hem,heb⟩:=any_mem t
           simp only [Bool.and_eq_true] at heb
           obtain⟨hl,hlt2⟩:=lst_of_getD (hdeps e hem heb.1)
           have:=hsub e.on (by omega) hl
           simp [this] at heb
        subst hix
        have hnin:=order_nin _ _ h5
        have step:∀v ds w',wpQ P ops E (fun f2=>Chk P ops C f2 w'∧wpRestIn F n P ops Q rest f2 w') (({ f with defers:=ds }:Act).put o.dst v) w'→
         wpAnyIn F n P .any ops Q fuel (L.setIfInBounds i true) (({ a with defers:=ds }:Act).put o.dst v) w':=by
         intro v ds w' hq
         obtain⟨f2,⟨hC,hcont⟩,hf2s,hf2d,hf2t,hf2y⟩:=wpQ_out hs E _ _ _ h5 (by rw [put_size];exact hfs) hq
         refine ih _ _ w' (D++i :: E) _ rest f2 h6 hL' hu' hf2s ⟨by rw [put_size,hf2s];exact hA.1.trans hfs,by rw [put_defs,hf2d,put_defs],fun t ht=> ?_⟩ (fun j hj hl=> ?_) (fun j hj=> ?_) (fun j hj hl=> ?_) hcont
         · rw [hf2t t (fun j hj e=>by
            have hl:=ht j e
            obtain⟨hj1,hj2⟩:=hnin j hj
            rcases lst_set.1 hl with rfl | h
            · exact hj1 (by simp)
            · exact hj1 (List.mem_append_left _ (hsub j hj2 h)))]
           by_cases hdt:o.dst=some t
           · rw [hdt,put_self (by show t<a.tmps.size;rw [hA.1,hfs];exact hlt t hdt),put_self (by show t<f.tmps.size;rw [hfs];exact hlt t hdt)]
           · rw [put_at hdt,put_at hdt]
             refine hA.2.2 t fun j hj=> ?_
             rcases lst_set.1 (ht j hj) with rfl | h
             · rw [dstOf_at ho] at hj;exact absurd hj hdt
             · exact h
         · rcases lst_set.1 hl with rfl | h
           · simp
           · exact List.mem_append_left _ (hsub j hj h)
         · rcases List.mem_append.1 hj with h | h
           · exact lst_set.2 (.inr (hFd j h))
           · rcases List.mem_cons.1 h with rfl | h
             · exact lst_set.2 (.inl rfl)
             · rw [List.mem_filter] at h
               have hb:=h.2
               simp only [ho,Option.any_some] at hb
               exact lst_set.2 (.inr (dep_listed hdeps hb).1)
         · rcases List.mem_append.1 hj with h | h
           · have:=List.all_eq_true.1 h4 j h
             simp only [Bool.or_eq_true,ho,Option.any_some] at this
             rcases this with(t | t) | t
             · exact hC j (by simpa using t)
             · exact absurd (lst_set.2 (.inr (hFd j (by simpa using t)))) hl
             · exact absurd (lst_set.2 (.inr (dep_listed hdeps t).1)) hl
           · rcases List.mem_cons.1 h with rfl | h
             · exact absurd (lst_set.2 (.inl rfl)) hl
             · exact hf2y j h
        simp only [wpRestIn,ho,wpListIn] at hc
        unfold wpOpIn
        simp only [ho]
        rw [hw]
        split
        · rename_i hwt
          rw [if_pos hwt] at hc
          exact oper_wpIn_rel hF (nodef_at hsd ho) he hA.2.1 (fun v ds w' h=>step v ds w' h) hc
        · rename_i hwf
          rw [if_neg hwf] at hc
          have:=step undef f.defers w hc.2
          rw [← hA.2.1] at this
          exact⟨fun g _=>hF g,this⟩
theorem wpIn_region_stagedY {Q:Exit→Act→World→Prop}(hF:∀f,F.fn f){id:Nat}{a:Act}{w:World}(hm:P.follows .mixedOrders=true)(E0:List Nat)(rest:List (Nat × List Nat × List Nat))
 (hsz:a.tmps.size=sz) (hs:slotsOk ops sz=true) (hsd:slotsOkD ops=true) (ho:orderOk ops [] E0=true) (hp:planOk ops E0 [] rest=true)
 (h:wpQ P ops E0 (fun f=>wpRestIn F n P ops Q rest f w.drew) a w.drew):(Code.region id ops true).wpIn F n P Q a w:=by
 refine wpIn_region_any hm ?_
 obtain⟨f,hc,hfs,hfd,hft,hfy⟩:=wpQ_out hs E0 _ _ _ ho hsz h
 have hno:∀i,i<ops.size→¬Lst (Array.replicate ops.size false) i:=fun i hi h=>by simp [Lst,hi,Array.getD_eq_getD_getElem?] at h
 refine staged_anyIn hF hsd hs _ _ _ _ E0 [] rest f hp (by simp) ?_ hfs ⟨hsz.trans hfs.symm,hfd.symm,fun t ht=>(hft t fun j hj e=> ?_).symm⟩ (fun i hi hl=>absurd hl (hno i hi)) (fun i hi=>by cases hi) (fun i hi _=>hfy i hi) hc
 · unfold unl
   rw [List.filter_eq_self.2]
   · simp
   · intro i hi
     have:=hno i (List.mem_range.1 hi)
     simpa [Lst] using this
 · have hj2:=(order_nin _ _ ho j hj).2
   exact hno j hj2 (ht j e)
theorem wpRestIn_nil {Q:Exit→Act→World→Prop}{f:Act}{w:World}(h:Q .normal f w):wpRestIn F n P ops Q [] f w:=h
theorem wpRestIn_act {Q:Exit→Act→World→Prop}{x:Nat}{E C:List Nat}{rest:List (Nat × List Nat × List Nat)}{f:Act}{w:World}{o:Oper}(ho:ops[x]? =some o)
 (h:wpListIn F n P ops (onN fun f1 w1=>wpQ P ops E (fun f2=>Chk P ops C f2 w1∧wpRestIn F n P ops Q rest f2 w1) f1 w1) [o] f w):wpRestIn F n P ops Q ((x,E,C) :: rest) f w:=by
 simp only [wpRestIn,ho];exact h
end
end Go.Sl
