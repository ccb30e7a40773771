/- The pool: a new one, Tally; the conditions stand as hypotheses. -/
import Derived.Test.YtiegeadmgpanoaaGreatDoorL10
import Derived.Deep.OwnRows
import Derived.Test.YtiegeadmgpanoaaGreatDoorL03
set_option maxRecDepth 100000
set_option maxHeartbeats 16000000
namespace Go.Proofs.YtiegeadmgpanoaaGreatDoor.D2
open ChangeShapes WideShapes ChangeAt RowKit Sl fB L3 M3 N3 Q3
abbrev fA(refs:Int)(cs:List Int)(fl:Int):ef:= { refs:=refs,counts:=cs,last:=fy cs,acts:= [],floor:=fl }
theorem oS:Pr.own Hp.nil=Pr.emp:=rfl
theorem K4 {p:Nat}{F:Pr}{w:World}(h:Sat F w):Sat ((i' p (.slice none 0 0) []).star F) w:=by
 unfold i';refine Sat.ex.2 ⟨([],Hp.nil),?_⟩;rw [Pr.dP];refine Sat.pure.2 ⟨⟨rfl,fun i hi=>absurd hi (by simp)⟩,?_⟩;show Sat (((Row _ 1 (.slice none 0 0) 0 []).star (Pr.own Hp.nil)).star F) w
 rw [Row.nil,oS,Pr.ei,Pr.fK];exact h
theorem G5 {p fb:Nat}{refs:Int}{cv lv:Value}{cs:List Int}{last:List Bool}{fl:Int}{F:Pr}{w:World}(hl:last.length=cs.length)(ok:hU (fA refs cs fl))
 (h:Sat ((vE p fb refs cv lv cs last fl cs.length).star F) w):Sat ((eP p (fA refs cs fl)).star F) w:=by
 refine jl.2 ⟨ok,cv,lv,fb,.slice none 0 0,?_⟩;have h1:=K4 (p:=p) h;refine h1.perm ?_;unfold k_ vE
 have e1:setCells refs cv lv fb (cs.take cs.length) fl=eO (fA refs cs fl) cv lv fb (.slice none 0 0):=by
  have t:∀k,1≤k∧k≤4→(fA refs cs fl).eU k=gx cs k:=fun k hk=>by
   unfold ef.eU;rw [if_neg (by omega),tC cs k _ rfl rfl]
  unfold setCells eO;rw [t 1 (by omega),t 2 (by omega),t 3 (by omega),t 4 (by omega),tG cs 2 (by omega) (by omega),tG cs 3 (by omega) (by omega),bE]
 have e2:fy (cs.take cs.length)++last.drop cs.length=fy cs:=by rw [bE,cy (by omega),aV]
 have e3:(f_ fb fun n=>1≤n∧n≤((cs.length:Nat):Int)∧cs.getD (n.toNat-1) 0=0)=f_ fb fun n=>(fA refs cs fl).state n=1:=by
  refine l5 fun n=>⟨fun⟨b1,b2,b3⟩=> ?_,fun hs=> ?_⟩
  · have ht:(fA refs cs fl).there n:=⟨b1,b2⟩
    rw [jS ht];unfold ef.count ef.lasts;rw [if_pos ht]
    have:((fA refs cs fl).last).getD (n.toNat-1) false=decide (0<cs.getD (n.toNat-1) 0):=by
     show (fy cs).getD _ _=_
     rw [az,az];simp [fy,ag (show n.toNat-1<cs.length by omega)]
    rw [this];show gq (cs.getD (n.toNat-1) 0) _=1
    rw [b3,nK]
  · have ht:(fA refs cs fl).there n:=ia (by omega)
    have h0:=jd ok hs;unfold ef.count at h0;rw [if_pos ht] at h0;exact⟨ht.1,ht.2,h0⟩
 rw [e1,e2,e3];ac_rfl
theorem NY(p:Nat)(s:ef)(k:Int)(hk:k=1∨k=4)(F:Pr)(w:World)(hF:Sat ((eP p s).star F) w):
 Calls Tryz.prog 77 #[.pointer (some ⟨p,0,none⟩),.int .i64 k] w fun e w'=>e= .returned (.int .i64 (s.eU k))∧w=w':=by
 obtain⟨ok,cv,lv,fb,av,hA⟩:=jl.1 hF;unfold k_ at hA;rw [Pr.dP] at hA;have q1:w.cell? ⟨p,5,none⟩=some (.int .i64 (s.eU 1)):=by rw [cell_of_heap hA.dL];rfl
 have q4:w.cell? ⟨p,8,none⟩=some (.int .i64 (s.eU 4)):=by rw [cell_of_heap hA.dL];rfl
 clear hF hA ok;rcases hk with rfl | rfl
 all_goals
  go_enter Tryz.func77,Tryz.ntmps77
  go_wp2;go_ret;exact⟨rfl,rfl⟩
theorem tK:(Tryz.prog.info? 4).map (fun i=>(i.zero,i.size,i.bytes))=some (some (.bool false),1,1):=by kernel_rfl
theorem tL(z:Value)(n:Nat):madeCells #[z] n=(List.replicate n z).toArray:=by
 refine Array.ext (by simp [size_madeCells]) fun i h1 h2=> ?_
 simp [madeCells,Nat.mod_one]
theorem qO {F:Pr}{w:World}(T:Nat)(z:Value)(n:Nat)(hn:n≤maxLen)(h:Sat F w):
 Sat ((Row T 1 (.slice (some ⟨w.heap.size,0,none⟩) n n) n (List.replicate n z)).star F) (w.alloc (.cells (madeCells #[z] n) T)):=by
 have h1:=h.alloc (.cells (madeCells #[z] n) T);rw [tL] at h1 ⊢;refine Row.mk' (sp:= []) (by simp) (by simp) (aD _) hn ?_;rw [aV];exact h1
theorem K6(refs:Int)(cv:Value)(cs:List Int)(F:Pr)(w:World)(hF:Sat ((dX cv cs).star F) w)(ok:hU (fA refs cs 0)):
 Calls Tryz.prog 121 #[.int .i64 refs,cv] w fun e w'=> ∃p,e= .returned (.pointer (some ⟨p,0,none⟩))∧Sat ((eP p (fA refs cs 0)).star F) w'∧dN w w':=by
 have o1:1≤cs.length:=ok.n1;have o2:cs.length≤65536:=ok.n2;have hmk:=run_make_row' (P:=Tryz.prog) 93 4 (.bool false) 1 Tryz.underlying93 tK rfl .i64 .i64 cs.length (by omega) (by omega);obtain⟨bc,cc,ec,_⟩:=pj hF (by omega);subst ec;have h1:=qO 4 (.bool false) cs.length (by simp only [maxLen];omega) hF
 have e1:Row 4 1 (.slice (some ⟨w.heap.size,0,none⟩) cs.length cs.length) cs.length (List.replicate cs.length (.bool false))=eK (.slice (some ⟨w.heap.size,0,none⟩) cs.length cs.length) (List.replicate cs.length false):=by
  unfold eK;rw [List.length_replicate,cZ]
 rw [e1] at h1;have h2:=h1.alloc (.cells #[.int .i64 refs,.slice (some ⟨bc,0,none⟩) cs.length cc,.slice (some ⟨w.heap.size,0,none⟩) cs.length cs.length,.pointer none,.int .i64 0,.int .i64 0,.int .i64 0,.int .i64 0,.int .i64 0,.slice none 0 0,.int .i64 0] 159);have es:(w.alloc (.cells (madeCells #[.bool false] cs.length) 4)).heap.size=w.heap.size+1:=by simp
 rw [es] at h2
 have h3:=h2.perm (B:=(Pr.pts (w.heap.size+1) (.cells #[.int .i64 refs,.slice (some ⟨bc,0,none⟩) cs.length cc,.slice (some ⟨w.heap.size,0,none⟩) cs.length cs.length,.pointer none,.int .i64 0,.int .i64 0,.int .i64 0,.int .i64 0,.int .i64 0,.slice none 0 0,.int .i64 0] 159)).star ((dX (.slice (some ⟨bc,0,none⟩) cs.length cc) cs).star ((eK (.slice (some ⟨w.heap.size,0,none⟩) cs.length cs.length) (List.replicate cs.length false)).star F))) (by ac_rfl)
 have C:=xA (w.heap.size+1) refs _ _ _ _ _ _ _ _ none 0 0 0 cs (List.replicate cs.length false) F _ h3 o1 o2 (by simp) ok.cs (by omega) (by omega);have HC:=hQ C;have xB:=hQ ok;clear C h1 h2 h3 hF e1 ok es;go_enter Tryz.func121,Tryz.ntmps121
 go_wp2_with fail
 refine HC.af.mono ?_;rintro e w1 ⟨rfl,⟨fb,h4⟩,hst⟩;have H4:=hQ (G5 (p:=_) (by simp) xB.af h4);clear h4;go_wp2;go_ret;exact⟨_,rfl,H4.af,(((dN.refl w).alloc _).alloc _).trans hst⟩
end Go.Proofs.YtiegeadmgpanoaaGreatDoor.D2
namespace Go.fB
structure en where
 key:List Int
 value:List Int
 child:Int
 size:Int
structure dR where
 kind:Int
 level:Int
 items:List en
 data:List Int
 next:Int
abbrev nG(d:List Int)(next:Int):dR:=⟨3,0,[],d,next⟩
structure yR where
 mark:Int
 was:List (Int × Option dR)
structure eC where
 pool:ef
 on:Int→Option dR
 acts:List yR
 floor:Int
end Go.fB
namespace Go.Proofs.YtiegeadmgpanoaaGreatDoor.Z3
open ChangeShapes WideShapes ChangeAt RowKit Sl fB D2 L3
theorem jW:(Tryz.prog.info? 83).map (·.size)=some 5:=by kernel_rfl
theorem tM:(Tryz.prog.info? 89).map (fun i=>(i.zero,i.size,i.bytes))=some (some (.agg #[.slice none 0 0,.slice none 0 0,.int .i64 0,.int .i64 0]),4,64):=by kernel_rfl
theorem NZ:(Tryz.prog.info? 194).map (fun i=>(i.zero,i.size,i.bytes))=some (some (.agg #[.int .i64 0,.int .i64 0,.int .i64 0,.slice none 0 0,.slice none 0 0,.int .i64 0,.bool false]),7,88):=by kernel_rfl
theorem CU:(Tryz.prog.info? 169).map (fun i=>(i.zero,i.size,i.bytes))=some (some (.agg #[.int .i64 0,.slice none 0 0]),2,32):=by kernel_rfl
def h_(h:Hp)(vi:Value)(l:List en):Prop:=
 ∃xs:List (Value × Value),xs.length=l.length∧gj h 4 vi l.length ((xs.zip l).flatMap fun x=> [x.1.1,x.1.2,.int .i64 x.2.child,.int .i64 x.2.size])∧
  ∀i (hx:i<xs.length) (hl:i<l.length),Bytes h xs[i].1 l[i].key∧Bytes h xs[i].2 l[i].value
def fV(h:Hp)(v:Value)(g:dR):Prop:= ∃vi vd,v=fX g.kind g.level vi vd g.next∧h_ h vi g.items∧Bytes h vd g.data
theorem h_.sub {a b:Hp}(hs:a.sub b){v:Value}{l:List en}(h:h_ a v l):h_ b v l:=by
 obtain⟨xs,h1,h2,h3⟩:=h;exact⟨xs,h1,h2.sub hs,fun i hx hl=>⟨(h3 i hx hl).1.sub hs,(h3 i hx hl).2.sub hs⟩⟩
theorem fV.sub {a b:Hp}(hs:a.sub b){v:Value}{g:dR}(h:fV a v g):fV b v g:=by
 obtain⟨vi,vd,h1,h2,h3⟩:=h;exact⟨vi,vd,h1,h2.sub hs,h3.sub hs⟩
theorem oq {h:Hp}{v:Value}(hi:h_ h v []):∃a c,v= .slice a 0 c∧c≤maxLen:=by
 obtain⟨xs,h1,h2,h3⟩:=hi;obtain⟨_,a,c,e,_,e2,_⟩:=h2;exact⟨a,c,e,e2⟩
theorem Row.bd {T k:Nat}{a:Option Addr}{m c n:Nat}{xs:List Value}{F:Pr}{w:World}(h:Sat ((Row T k (.slice a m c) n xs).star F) w):c≤maxLen:=by
 obtain⟨_,(⟨e,_,_⟩ | ⟨b,cap,sp,e,_,_,h3,_⟩)⟩:=Row.open' h
 · cases e;exact aG _
 · cases e;exact h3
theorem Be(w:World):Sat Pr.emp w:=⟨Hp.nil,rfl,fun k o e=>by cases e⟩
theorem Fg {a w w':World}{row:Option Nat}(h:eV a w)(hg:w.grownBy w' row)(hr:∀b,row=some b→a.heap.size≤b):eV a w':=
 ⟨h.st.eH hg,fun k hk=>(hg.block k (cY hk h.st.size) (fun e=>by have:=hr k e.symm;omega)).trans (h.heap k hk)⟩
theorem tN {h:Hp}{a:Option Addr}{c:Nat}(hc:c≤maxLen):h_ h (.slice a 0 c) []:=
 ⟨[],rfl,⟨by simp,a,c,rfl,aG _,hc,fun h=>absurd h (by simp)⟩,fun i hx=>absurd hx (by simp)⟩
theorem Bf(a:Option Addr)(c:Nat)(hc:c≤maxLen)(w:World):
 Calls Tryz.prog 115 #[.slice a 0 c] w fun e w'=> ∃a' c',e= .returned (.slice a' 0 c')∧c'≤maxLen∧eV w w':=by
 have he:∀wx:World,(binOp .eql 81 (.slice a 0 c) (.slice none 0 0)).run Tryz.prog wx= .ok (.bool a.isNone) wx:=fun wx=>Lib.run_eql_slice_nil wx _ _ a _ c 0 0 Tryz.underlying81
 cases a with
 | none=>
   go_enter Tryz.func115,Tryz.ntmps115
   go_wp2;go_ret;exact⟨_,_,rfl,aG _,eV.refl w⟩
 | some ad=>
   have hnew:Sat ((Row 89 4 (.slice (some ⟨w.heap.size,0,none⟩) 0 0) 0 []).star Pr.emp) (w.alloc (.cells #[] 89)):=
    Row.mk' (xs:= []) (sp:= []) (by simp) (by simp) (aD _) (by simp) (by simpa using (Be w).alloc (.cells #[] 89))
   have hx:gj Hp.nil 4 (.slice (some ad) 0 c) 0 []:=⟨by simp,some ad,c,rfl,aG _,hc,fun h=>absurd h (by simp)⟩;have HF:=hQ hnew;have HX:=hQ hx;clear hx hnew;go_enter Tryz.func115,Tryz.ntmps115
   obtain⟨i0,hi,hz0,hz1,jg⟩:=info_parts tM;go_wp2_with (at_builtin;refine gB rfl _ _ _ rfl 89 i0 (.agg #[.slice none 0 0,.slice none 0 0,.int .i64 0,.int .i64 0]) 4 64 Tryz.underlying81 hi hz0 hz1 jg rfl _ _ _ rfl HF.af Hp.nil (fun k o e=>by cases e) _ _ _ rfl HX.af (by simp) (by simp) (by simp) ?_;intro v' w1 hJ hgr _;have ja:=hQ hJ;clear hJ)
   go_ret;have h1:=ja.af;obtain⟨a',c',e',_,_⟩:=Row.read h1;subst e';exact⟨a',c',rfl,Row.bd h1,Fg ((eV.refl w).alloc _) hgr (fun b e=>by cases e;exact aD _)⟩
theorem wP {A F:Pr}{w:World}(h:Sat (A.star F) w){Q:Hp→Prop}(hq:∀x,A x→Q x):∃h',Q h'∧Sat ((Pr.own h').star F) w:=by
 obtain⟨x,⟨a,f,ha,hf,hd,rfl⟩,hw⟩:=h;exact⟨a,hq a ha,_,⟨a,f,rfl,hf,hd,rfl⟩,hw⟩
theorem vF(h:Hp)(v:Value)(d:List Int)(next:Int)(hd:d.length≤65536)(hv:fV h v (nG d next))(F:Pr)(w:World)(hF:Sat F w)(hh:h.le w):
 Calls Tryz.prog 73 #[v] w fun e w'=> ∃v',e= .returned v'∧(∃h',fV h' v' (nG d next)∧Sat ((Pr.own h').star F) w')∧dN w w':=by
 obtain⟨vi,vd,rfl,h1,h2⟩:=hv;obtain⟨ai,ci,rfl,hci⟩:=oq h1;obtain⟨_,ad,cd,Xq,_,_,_⟩:=id h2;subst Xq;dsimp only;have es:(w.alloc (.cells #[.int .i64 3,.int .i64 0,.slice ai 0 ci,.slice ad d.length cd,.int .i64 next] 83)).heap.size=w.heap.size+1:=by simp
 have hb:=hF.alloc (.cells #[.int .i64 3,.int .i64 0,.slice ai 0 ci,.slice ad d.length cd,.int .i64 next] 83);have hb2:=hb.alloc (.cells #[.int .i64 0,.int .i64 0,.slice none 0 0,.slice none 0 0,.int .i64 0] 83);rw [es] at hb2
 have hle:h.le ((w.alloc (.cells #[.int .i64 3,.int .i64 0,.slice ai 0 ci,.slice ad d.length cd,.int .i64 next] 83)).alloc (.cells #[.int .i64 0,.int .i64 0,.slice none 0 0,.slice none 0 0,.int .i64 0] 83)):=
  fun k o e=>((((eV.refl w).alloc _).alloc _).heap k (aA.1 (hh k o e)).1).trans (hh k o e)
 have HB:=hQ hb2;have HL:=hQ hle;have H2:=hQ h2;clear hb hb2 hle h2 h1 hF hh es;go_enter Tryz.func73,Tryz.ntmps73
 go_wp2;refine wS 39 [0,1,3,4] [(2,[6],[0,3,4]),(5,[],[0,3,6]),(7,[8],[]),(9,[],[])] ?_;iterate 4 (refine fH rfl rfl (fun K hK=> ?_);go_simp;refine hK _ ?_;clear hK K)
 refine dU ?_;refine dK rfl ?_;go_wp2_with fail
 refine(Bf ai ci hci _).mono ?_;rintro e w1 ⟨a',c',rfl,hc',ho⟩;have s1:=HB.af.drew.only ho;have l1:h.le w1:=fun k o e=>(ho.heap k (aA.1 (HL.af k o e)).1).trans (HL.af k o e)
 have q3:w1.cell? ⟨w.heap.size,3,none⟩=some (.slice ad d.length cd):=by rw [cell_of_heap s1.right.dL];rfl
 have S1:=hQ s1;have L1:=hQ l1;have HO:=hQ ho;clear s1 l1 ho;go_wp2;refine dQ ?_;iterate 1 (refine fH rfl rfl (fun K hK=> ?_);go_simp;refine hK _ ?_;clear hK K)
 refine dU ⟨?_,?_⟩
 · refine d6 ?_ (d6 ?_ (d6 ?_ eM))<;>(refine fj rfl rfl rfl rfl ?_;go_simp;try omega)
 refine dK rfl ?_;go_wp2_with fail
 refine(jU h _ d _ _ S1.af L1.af H2.af hd).mono ?_;rintro e w2 ⟨vd2,rfl,s2,jq⟩;obtain⟨a2,c2,ed,_,_⟩:=Row.read s2;subst ed
 have s3:Sat ((Pr.pts w.heap.size (.cells #[.int .i64 3,.int .i64 0,.slice ai 0 ci,.slice ad d.length cd,.int .i64 next] 83)).star ((Pr.pts (w.heap.size+1) (.cells #[.int .i64 0,.int .i64 0,.slice none 0 0,.slice none 0 0,.int .i64 0] 83)).star
  ((dM (.slice a2 d.length c2) d).star F))) w2:=s2.perm (by ac_rfl)
 have y2:w2.cell? ⟨w.heap.size,2,none⟩=some (.slice ai 0 ci):=by rw [cell_of_heap s3.dL];rfl
 have y3:w2.cell? ⟨w.heap.size,3,none⟩=some (.slice ad d.length cd):=by rw [cell_of_heap s3.dL];rfl
 have z2:=frozen_of_heap s3.dL 2;have z3:=frozen_of_heap s3.dL 3;have S3:=hQ s3;clear s2 s3 S1 L1 HB HL H2;go_wp2;refine dQ (dU ⟨?_,?_⟩)
 · refine d6 ?_ (d6 ?_ (d6 ?_ eM))<;>(refine fj rfl rfl rfl rfl ?_;go_simp;try omega)
 refine dK rfl ?_;go_wp2;refine dQ ?_;iterate 1 (refine fH rfl rfl (fun K hK=> ?_);go_simp;refine hK _ ?_;clear hK K)
 refine dU ⟨eM,?_⟩;refine dK rfl ?_;go_wp2;refine dQ (dU ⟨eM,dW ?_⟩);clear z2 z3;have s4:=(S3.af.setCell (i:=2) (.slice a' 0 c')).setCell (i:=3) (.slice a2 d.length c2)
 have w4:Sat ((Pr.pts (w.heap.size+1) (.cells #[.int .i64 0,.int .i64 0,.slice none 0 0,.slice none 0 0,.int .i64 0] 83)).star ((Pr.pts w.heap.size (.cells #[.int .i64 3,.int .i64 0,.slice a' 0 c',.slice a2 d.length c2,.int .i64 next] 83)).star
  ((dM (.slice a2 d.length c2) d).star F))) _:=s4.perm (by rw [Pr.eD];rfl)
 generalize S5:(w2.setCell ⟨w.heap.size,2,none⟩ (.slice a' 0 c')).setCell ⟨w.heap.size,3,none⟩ (.slice a2 d.length c2)=w5 at*;have xC:dN w2 w5:=by rw [← S5];exact((dN.refl _).setCell _ _).setCell _ _
 have p0:w5.cell? ⟨w.heap.size,0,none⟩=some (.int .i64 3):=by rw [cell_of_heap w4.right.dL];rfl
 have p1:w5.cell? ⟨w.heap.size,1,none⟩=some (.int .i64 0):=by rw [cell_of_heap w4.right.dL];rfl
 have p2:w5.cell? ⟨w.heap.size,2,none⟩=some (.slice a' 0 c'):=by rw [cell_of_heap w4.right.dL];rfl
 have p3:w5.cell? ⟨w.heap.size,3,none⟩=some (.slice a2 d.length c2):=by rw [cell_of_heap w4.right.dL];rfl
 have p4:w5.cell? ⟨w.heap.size,4,none⟩=some (.int .i64 next):=by rw [cell_of_heap w4.right.dL];rfl
 have f0:w5.cell? ⟨w.heap.size+1,0,none⟩=some (.int .i64 0):=by rw [cell_of_heap w4.dL];rfl
 have f1:w5.cell? ⟨w.heap.size+1,1,none⟩=some (.int .i64 0):=by rw [cell_of_heap w4.dL];rfl
 have f2:w5.cell? ⟨w.heap.size+1,2,none⟩=some (.slice none 0 0):=by rw [cell_of_heap w4.dL];rfl
 have f3:w5.cell? ⟨w.heap.size+1,3,none⟩=some (.slice none 0 0):=by rw [cell_of_heap w4.dL];rfl
 have f4:w5.cell? ⟨w.heap.size+1,4,none⟩=some (.int .i64 0):=by rw [cell_of_heap w4.dL];rfl
 have z0:=frozen_of_heap w4.dL 0;have z1:=frozen_of_heap w4.dL 1;have z2:=frozen_of_heap w4.dL 2;have z3:=frozen_of_heap w4.dL 3;have z4:=frozen_of_heap w4.dL 4;have W4:=hQ w4;have eR:=hQ (((((dN.refl w).alloc _).alloc _).drew.trans HO.af.st).trans (jq.trans xC));clear s4 w4 S5 xC y2 y3 S3 jq HO;go_wp2
 go_loopw [16] (fun i wr=>i= .int .i64 0∧wr=w5) (fun _ _=>0)
 case atStart=>exact⟨rfl,rfl⟩
 case round=>
  obtain⟨rfl,rfl⟩:=hrel;go_wp2;have s6:=((((W4.af.setCell (i:=0) (.int .i64 3)).setCell (i:=1) (.int .i64 0)).setCell (i:=2) (.slice a' 0 c')).setCell (i:=3) (.slice a2 d.length c2)).setCell (i:=4) (.int .i64 next)
  have s7:Sat ((Pr.pts (w.heap.size+1) (.cells #[.int .i64 3,.int .i64 0,.slice a' 0 c',.slice a2 d.length c2,.int .i64 next] 83)).star ((Pr.pts w.heap.size (.cells #[.int .i64 3,.int .i64 0,.slice a' 0 c',.slice a2 d.length c2,.int .i64 next] 83)).star
   ((dM (.slice a2 d.length c2) d).star F))) _:=s6
  refine bodyPost_ret (results_cell_row rfl _ _ (w.heap.size+1) _ _ _ _ rfl s7.dL Tryz.underlying83 rfl jW) rfl ?_;obtain⟨h',e1,e2⟩:=wP (Q:=fun x=>Bytes x (.slice a2 d.length c2) d) s7.right.right (fun x hx=>Row.jh hx);exact⟨_,rfl,⟨h',⟨_,_,rfl,tN hc',e1⟩,e2⟩,((((eR.af.setCell _ _).setCell _ _).setCell _ _).setCell _ _).setCell _ _⟩
end Go.Proofs.YtiegeadmgpanoaaGreatDoor.Z3
namespace Go.fB
open Go.Proofs.YtiegeadmgpanoaaGreatDoor.D2
def kB(k:Int)(i:Nat)(x:en):Bool:=if k=2∧i=0 then decide (x.key.length=0) else decide (1≤x.key.length∧x.key.length≤24)
def kC(i:Nat)(prev:List Int)(x:en):Bool:=decide (i=0∨0<eX x.key prev)
def jB(k:Int)(x:en):Bool:=
 if k=2 then decide (x.value.length=0∧x.size=0)
 else if 0≤x.size∧x.size≤3840 then(if x.size≤32 then decide ((x.value.length:Int)=x.size) else decide (x.value.length=0)) else false
def jX(k:Int)(x:en):Bool:=if k=1∧x.size≤32 then decide (x.child=0) else xr x.child
def ie(k:Int)(i:Nat)(prev:List Int)(x:en):Int:=
 if kB k i x=false then 7 else if kC i prev x=false then 11 else if jB k x=false then 8 else if jX k x=false then 15 else 0
def jr(k:Int):Nat→List Int→List en→Int
 | _,_,[]=>0
 | i,prev,x :: l=>if ie k i prev x=0 then jr k (i+1) x.key l else ie k i prev x
def kindOk(k:Int):Bool:=decide (1≤k∧k≤3)
def mQ(n:Int):Bool:=decide (n=0) || xr n
def gK(e f:Int):Int:=if e=0 then f else e
def iU(g:dR):Int:=
 if kindOk g.kind=false then 22 else if iR g.kind g.level g.items.length g.data.length g.next=false then 5
 else gK (jr g.kind 0 [] g.items) (if mQ g.next then 0 else 15)
structure Fit(g:dR):Prop where
 n:g.items.length≤8
 d:g.data.length≤480
 k:∀x∈g.items,x.key.length≤24∧x.value.length≤32
theorem sL(f:Int)(b:Bool)(e:Int):kj f b e=gK f (if b then 0 else e):=by
 unfold kj gK;cases b
 · simp
 · by_cases h:f=0<;>simp [h]
theorem qP(a b c:Int):gK (gK a b) c=gK a (gK b c):=by
 unfold gK;by_cases h:a=0<;>by_cases h2:b=0<;>simp [h,h2]
theorem ot(a:Int):gK a 0=a:=by
 unfold gK;by_cases h:a=0<;>simp [h]
theorem Fh(a:Int):gK 0 a=a:=rfl
theorem li(k:Int)(i:Nat)(p:List Int)(x:en)(l:List en):jr k i p (x :: l)=gK (ie k i p x) (jr k (i+1) x.key l):=rfl
theorem xE(k:Int)(i:Nat)(p:List Int)(x:en):ie k i p x=gK (if kB k i x then 0 else 7) (gK (if kC i p x then 0 else 11) (gK (if jB k x then 0 else 8) (if jX k x then 0 else 15))):=by
 unfold ie gK;cases kB k i x<;>cases kC i p x<;>cases jB k x<;>cases jX k x<;>simp
theorem wQ {l:List en}{i:Nat}(h:i<l.length):l.drop i=l[i] :: l.drop (i+1):=aQ h
theorem zw(k:Int):∀(l:List en) (i:Nat) (p:List Int),jr k i p l=0→∀x∈l,x.key.length≤24∧x.value.length≤32
 | [],_,_,_,x,hx=>by cases hx
 | y :: l,i,p,h,x,hx=>by
   rw [li] at h
   have h1:ie k i p y=0:=by
    unfold gK at h;split at h
    · assumption
    · exact absurd h (by assumption)
   have h2:jr k (i+1) y.key l=0:=by unfold gK at h;rw [if_pos h1] at h;exact h
   rcases aR.1 hx with rfl | hx
   · unfold ie at h1
     split at h1
     · cases h1
     · rename_i hk
       split at h1
       · cases h1
       · split at h1
         · cases h1
         · rename_i hv
           constructor
           · unfold kB at hk
             split at hk<;>simp only [decide_eq_false_iff_not,Decidable.not_not] at hk<;>omega
           · unfold jB at hv
             split at hv
             · simp only [decide_eq_false_iff_not,Decidable.not_not] at hv;omega
             · split at hv
               · split at hv<;>simp only [decide_eq_false_iff_not,Decidable.not_not] at hv<;>omega
               · simp at hv
   · exact zw k l (i+1) y.key h2 x hx
theorem fU {g:dR}(h:iU g=0):Fit g:=by
 unfold iU at h;split at h
 · cases h
 · rename_i hk
   split at h
   · cases h
   · rename_i hf
     have h1:jr g.kind 0 [] g.items=0:=by
      unfold gK at h;split at h
      · assumption
      · exact absurd h (by assumption)
     have hb:g.items.length≤8∧g.data.length≤480:=by
      unfold iR at hf;split at hf
      · simp only [decide_eq_false_iff_not,Decidable.not_not] at hf;omega
      · split at hf<;>simp only [decide_eq_false_iff_not,Decidable.not_not] at hf<;>omega
     exact⟨hb.1,hb.2,zw _ _ _ _ h1⟩
end Go.fB
namespace Go.Proofs.YtiegeadmgpanoaaGreatDoor.D2
open ChangeShapes WideShapes ChangeAt RowKit Sl fB L3 Z3
structure gI where
 no:Int
 pk:Int
 pl:Int
 vi:Value
 vd:Value
 nx:Int
 th:Bool
def gI.cells(x:gI):List Value:= [.int .i64 x.no,.int .i64 x.pk,.int .i64 x.pl,x.vi,x.vd,.int .i64 x.nx,.bool x.th]
def we(v:Value):Prop:= ∃a m c,v= .slice a m c
def o5(h:Hp)(x:gI)(y:Int × Option dR):Prop:=
 x.no=y.1∧we x.vi∧we x.vd∧match y.2 with | some g=>x.th=true∧fV h (fX x.pk x.pl x.vi x.vd x.nx) g | none=>x.th=false
def qQ(h:Hp)(xs:List gI)(was:List (Int × Option dR)):Prop:=xs.length=was.length∧∀i (h1:i<xs.length) (h2:i<was.length),o5 h xs[i] was[i]
def K7(h:Hp)(x:Int × Value)(y:yR):Prop:=x.1=y.mark∧∃xs:List gI,gj h 7 x.2 y.was.length (xs.flatMap gI.cells)∧qQ h xs y.was
def rG(h:Hp)(xs:List (Int × Value))(acts:List yR):Prop:=xs.length=acts.length∧∀i (h1:i<xs.length) (h2:i<acts.length),K7 h xs[i] acts[i]
def eI(xs:List (Int × Value)):List Value:=xs.flatMap fun x=> [.int .i64 x.1,x.2]
def po(h:Hp)(f:Int→Option Value)(on:Int→Option dR):Prop:= ∀n,match on n with | none=>f n=none | some g=> ∃v,f n=some v∧fV h v g
theorem o5.sub {a b:Hp}(hs:a.sub b){x:gI}{y:Int × Option dR}(h:o5 a x y):o5 b x y:=by
 obtain⟨h1,h2,h3,h4⟩:=h;refine⟨h1,h2,h3,?_⟩;cases hy:y.2 with
 | none=>rw [hy] at h4;exact h4
 | some g=>rw [hy] at h4;exact⟨h4.1,h4.2.sub hs⟩
theorem qQ.sub {a b:Hp}(hs:a.sub b){xs:List gI}{was:List (Int × Option dR)}(h:qQ a xs was):qQ b xs was:=⟨h.1,fun i h1 h2=>(h.2 i h1 h2).sub hs⟩
theorem rG.sub {a b:Hp}(hs:a.sub b){xs:List (Int × Value)}{acts:List yR}(h:rG a xs acts):rG b xs acts:=
 ⟨h.1,fun i h1 h2=>⟨(h.2 i h1 h2).1,by obtain⟨ys,e1,e2⟩:=(h.2 i h1 h2).2;exact⟨ys,e1.sub hs,e2.sub hs⟩⟩⟩
theorem po.sub {a b:Hp}(hs:a.sub b){f:Int→Option Value}{on:Int→Option dR}(h:po a f on):po b f on:=by
 intro n;have:=h n
 cases hy:on n with
 | none=>rw [hy] at this;exact this
 | some g=>rw [hy] at this;obtain⟨v,e1,e2⟩:=this;exact⟨v,e1,e2.sub hs⟩
theorem po.put {h:Hp}{f:Int→Option Value}{on:Int→Option dR}(hO:po h f on){n:Int}{v:Value}{g:dR}(hp:fV h v g):po h (fun m=>if m=n then some v else f m) (fun m=>if m=n then some g else on m):=by
 intro m;dsimp only;by_cases hm:m=n
 · simp only [hm,if_true];exact⟨v,rfl,hp⟩
 · simp only [hm,if_false];exact hO m
structure VX where
 p:Nat
 mb:Nat
 av:Value
 f:Int→Option Value
 kA:List (Int × Value)
 h:Hp
def fc(v:Nat)(s:eC)(x:VX):Pr:=
 (Pr.pts v (.cells #[.pointer (some ⟨x.p,0,none⟩),.map (some x.mb),x.av,.int .i64 s.floor] 108)).star ((eP x.p s.pool).star ((fD Tryz.prog 3 x.mb x.f).star ((Row 169 2 x.av s.acts.length (eI x.kA)).star (Pr.own x.h))))
structure Wi(s:eC)(x:VX):Prop where
 on:po x.h x.f s.on
 acts:rG x.h x.kA s.acts
 f0:0≤s.floor
 fb:s.floor+s.acts.length≤1099511627776
def dZ(v:Nat)(s:eC):Pr:=Pr.ex fun x:VX=>(Pr.pure (Wi s x)).star (fc v s x)
theorem gC {v:Nat}{s:eC}{F:Pr}{w:World}:Sat ((dZ v s).star F) w↔∃x,Wi s x∧Sat ((fc v s x).star F) w:=by
 unfold dZ;rw [Sat.ex];constructor
 · rintro⟨x,h⟩
   rw [Pr.dP] at h;obtain⟨h1,h2⟩:=Sat.pure.1 h;exact⟨x,h1,h2⟩
 · rintro⟨x,h1,h2⟩
   refine⟨x,?_⟩;rw [Pr.dP];exact Sat.pure.2 ⟨h1,h2⟩
def kr(v:Nat)(s:eC)(x:VX)(ab:Nat)(mark:Int)(wv:Value)(ws:List gI):Pr:=
 (fc v s x).star ((Pr.pts ab (.cells #[.int .i64 mark,wv] 169)).star (Row 194 7 wv ws.length (ws.flatMap gI.cells)))
theorem eW(w:World)(l:List Value)(T:TypeId)(b:Nat)(hb:b=w.heap.size):∀j u,l[j]? =some u→(w.alloc (.cells l.toArray T)).cell? ((⟨b,0,none⟩:Addr).add j)=some u:=by
 intro j u hj;subst hb;rw [qG,cell_of_heap (mq _ _)];simpa using hj
abbrev jY:Value:=fX 0 0 (.slice none 0 0) (.slice none 0 0) 0
theorem nV(w:World):(zeroValue 83).run Tryz.prog w= .ok jY w:=by kernel_rfl
theorem xF {h:Hp}{f:Int→Option Value}{on:Int→Option dR}(hO:po h f on)(n:Int):
 ∃pk pl ai mi ci ad md cd nx th,(f n).getD jY=fX pk pl (.slice ai mi ci) (.slice ad md cd) nx∧(f n).isSome=th∧o5 h ⟨n,pk,pl,.slice ai mi ci,.slice ad md cd,nx,th⟩ (n,on n):=by
 have:=hO n
 cases hy:on n with
 | none=>
   rw [hy] at this;dsimp only at this;exact⟨0,0,none,0,0,none,0,0,0,false,by rw [this];rfl,by rw [this];rfl,rfl,⟨_,_,_,rfl⟩,⟨_,_,_,rfl⟩,rfl⟩
 | some g=>
   rw [hy] at this;obtain⟨v,e1,e2⟩:=this;obtain⟨vi,vd,e3,e4,e5⟩:=id e2;obtain⟨xs,_,⟨_,ai,ci,e6,_⟩,_⟩:=id e4;obtain⟨_,ad,cd,e7,_⟩:=id e5;subst e6;subst e7;exact⟨g.kind,g.level,ai,_,ci,ad,_,cd,g.next,true,by rw [e1,e3];rfl,by rw [e1];rfl,rfl,⟨_,_,_,rfl⟩,⟨_,_,_,rfl⟩,rfl,by rw [← e3];exact e2⟩
theorem G6(v:Nat)(s:eC)(x:VX)(ab:Nat)(mark:Int)(wv:Value)(ws:List gI)(n:Int)(hn:1≤n∧n≤65536)(hO:po x.h x.f s.on)(hl:ws.length≤65536)(F:Pr)(w:World)
 (hF:Sat ((kr v s x ab mark wv ws).star F) w):
 Calls Tryz.prog 114 #[.pointer (some ⟨v,0,none⟩),.pointer (some ⟨ab,0,none⟩),.int .i64 n] w fun e w'=>
  e= .returned (.tuple #[])∧(∃Fi X,o5 x.h X (n,s.on n)∧Sat ((kr v s x ab mark Fi (ws++ [X])).star F) w')∧dN w w':=by
 have h1:Sat ((fD Tryz.prog 3 x.mb x.f).star ((Pr.pts v (.cells #[.pointer (some ⟨x.p,0,none⟩),.map (some x.mb),x.av,.int .i64 s.floor] 108)).star ((Row 194 7 wv ws.length (ws.flatMap gI.cells)).star ((Pr.pts ab (.cells #[.int .i64 mark,wv] 169)).star
  (((eP x.p s.pool).star ((Row 169 2 x.av s.acts.length (eI x.kA)).star (Pr.own x.h))).star F))))) w:=hF.perm (by unfold kr fc;ac_rfl)
 obtain⟨pk,pl,ai,mi,ci,ad,md,cd,nx,th,e1,e2,hrel⟩:=xF hO n;have q1:w.cell? ⟨v,1,none⟩=some (.map (some x.mb)):=by rw [cell_of_heap h1.right.dL];rfl
 obtain⟨aw,cw,ew,_,_⟩:=Row.read h1.right.right;subst ew;have z0:=h1.right.right.right.lt;have qb:w.cell? ⟨ab,1,none⟩=some (.slice aw ws.length cw):=by rw [cell_of_heap h1.right.right.right.dL];rfl
 have H1:=hQ h1;have HR:=hQ hrel;clear h1 hF hrel hO;go_enter Tryz.func114,Tryz.ntmps114
 go_wp2_with (at_lookup;refine nb rfl _ _ _ true rfl Tryz.underlying3 Tryz.underlying105 jY (nV _) n hn rfl rfl H1.af ?_;rw [e1,e2])
 have es:(w.alloc (.cells #[.int .i64 pk,.int .i64 pl,.slice ai mi ci,.slice ad md cd,.int .i64 nx] 83)).heap.size=w.heap.size+1:=by simp
 have h2:=H1.af.alloc (.cells #[.int .i64 pk,.int .i64 pl,.slice ai mi ci,.slice ad md cd,.int .i64 nx] 83);have hb:=h2.dL;generalize Kd:w.alloc (.cells #[.int .i64 pk,.int .i64 pl,.slice ai mi ci,.slice ad md cd,.int .i64 nx] 83)=w1 at*;have p0:w1.cell? ⟨w.heap.size,0,none⟩=some (.int .i64 pk):=by rw [cell_of_heap hb];rfl
 have p1:w1.cell? ⟨w.heap.size,1,none⟩=some (.int .i64 pl):=by rw [cell_of_heap hb];rfl
 have p2:w1.cell? ⟨w.heap.size,2,none⟩=some (.slice ai mi ci):=by rw [cell_of_heap hb];rfl
 have p3:w1.cell? ⟨w.heap.size,3,none⟩=some (.slice ad md cd):=by rw [cell_of_heap hb];rfl
 have p4:w1.cell? ⟨w.heap.size,4,none⟩=some (.int .i64 nx):=by rw [cell_of_heap hb];rfl
 have h3:=h2.right;have qb:w1.cell? ⟨ab,1,none⟩=some (.slice aw ws.length cw):=by rw [cell_of_heap h3.right.right.right.dL];rfl
 have zb:=h3.right.right.right.lt;have zB:=h2.lt;have hsb:=(Kd ▸ ((dN.refl w).alloc _):dN w w1);clear Kd qb q1 hb;have qb:w1.cell? ⟨ab,1,none⟩=some (.slice aw ws.length cw):=by rw [cell_of_heap h3.right.right.right.dL];rfl
 rw [← es] at*
 have h4:Sat ((Row 194 7 (.slice aw ws.length cw) ws.length (ws.flatMap gI.cells)).star ((Pr.pts ab (.cells #[.int .i64 mark,.slice aw ws.length cw] 169)).star ((fD Tryz.prog 3 x.mb x.f).star ((Pr.pts v (.cells #[.pointer (some ⟨x.p,0,none⟩),.map (some x.mb),x.av,.int .i64 s.floor] 108)).star
  ((Pr.pts w.heap.size (.cells #[.int .i64 pk,.int .i64 pl,.slice ai mi ci,.slice ad md cd,.int .i64 nx] 83)).star (((eP x.p s.pool).star ((Row 169 2 x.av s.acts.length (eI x.kA)).star (Pr.own x.h))).star F)))))) w1:=h2.perm (by ac_rfl)
 have hnew:=hQ (eW w1 [.int .i64 n,.int .i64 pk,.int .i64 pl,.slice ai mi ci,.slice ad md cd,.int .i64 nx,.bool th] 194 _ rfl);have H5:=hQ (h4.alloc (.cells #[.int .i64 n,.int .i64 pk,.int .i64 pl,.slice ai mi ci,.slice ad md cd,.int .i64 nx,.bool th] 194)).right;have eR:=hQ hsb;clear h2 h3 h4 H1 hsb;go_wp2
 refine wS 30 [0,1,2,3,4,5,6,7,8] [(9,[],[0,1,2,3,4,5,6,7]),(10,[11,12],[0,1,2,3,5,6,7]),(13,[],[11])] ?_;iterate 9 (refine fH rfl rfl (fun K hK=> ?_);go_simp;refine hK _ ?_;clear hK K)
 refine dU ?_;refine dK rfl ?_;go_wp2;refine dQ (dU ⟨?_,?_⟩)
 · refine d6 ?_ (d6 ?_ (d6 ?_ (d6 ?_ (d6 ?_ (d6 ?_ (d6 ?_ (d6 ?_ eM)))))))<;>(refine fj rfl rfl rfl rfl ?_;go_simp;try omega)
 refine dK rfl ?_;obtain⟨i0,hi,hz0,hz1,jg⟩:=info_parts NZ;refine eu rfl _ _ _ rfl 194 i0 (.agg #[.int .i64 0,.int .i64 0,.int .i64 0,.slice none 0 0,.slice none 0 0,.int .i64 0,.bool false]) 7 88 Tryz.underlying167 hi hz0 hz1 jg rfl _ _ _ rfl H5.af ⟨w1.heap.size,0,none⟩ 1 1 _ rfl rfl hnew.af (by simp [Value.oneCell']) (by simp only [maxLen];omega) (by omega) ?_
 intro v' w2 hJ hgr _;obtain⟨a2,c2,Cv,_,_⟩:=Row.read hJ;subst Cv;have hp:=hJ.right;have Qs:=hJ.right.right.right.right;have r0:w2.cell? ⟨w.heap.size,0,none⟩=some (.int .i64 pk):=by rw [cell_of_heap Qs.dL];rfl
 have r1:w2.cell? ⟨w.heap.size,1,none⟩=some (.int .i64 pl):=by rw [cell_of_heap Qs.dL];rfl
 have r2:w2.cell? ⟨w.heap.size,2,none⟩=some (.slice ai mi ci):=by rw [cell_of_heap Qs.dL];rfl
 have r3:w2.cell? ⟨w.heap.size,3,none⟩=some (.slice ad md cd):=by rw [cell_of_heap Qs.dL];rfl
 have r4:w2.cell? ⟨w.heap.size,4,none⟩=some (.int .i64 nx):=by rw [cell_of_heap Qs.dL];rfl
 have y1:=frozen_of_heap hp.dL 1;have y1c:w2.cell? ⟨ab,1,none⟩=some (.slice aw ws.length cw):=by rw [cell_of_heap hp.dL];rfl
 have yp:=hp.lt;have yB:=Qs.lt;have ja:=hQ hJ;have HG:=hQ (((eR.af.alloc (.cells #[.int .i64 n,.int .i64 pk,.int .i64 pl,.slice ai mi ci,.slice ad md cd,.int .i64 nx,.bool th] 194)).drew).eH hgr);clear hJ hp Qs hgr p0 p1 p2 p3 p4 qb zb zB H5 hnew es;go_wp2;refine dQ ?_;iterate 2 (refine fH rfl rfl (fun K hK=> ?_);go_simp;refine hK _ ?_;clear hK K)
 refine dU ⟨?_,?_⟩
 · refine d6 ?_ (d6 ?_ (d6 ?_ (d6 ?_ (d6 ?_ (d6 ?_ (d6 ?_ eM))))))<;>(refine fj rfl rfl rfl rfl ?_;go_simp;try omega)
 refine dK rfl ?_;go_wp2;refine dQ (dU ⟨?_,dW ?_⟩)
 · refine d6 ?_ eM<;>(refine fj rfl rfl rfl rfl ?_;go_simp;try omega)
 go_wp2;first | refine bodyPost_ret (results_none rfl _ _ _) rfl ?_ | go_end0
 refine⟨rfl,⟨.slice a2 (ws.length+1) c2,⟨n,pk,pl,.slice ai mi ci,.slice ad md cd,nx,th⟩,HR.af,?_⟩,HG.af.setCell _ _⟩
 have h6:Sat ((Pr.pts ab (.cells #[.int .i64 mark,.slice a2 (ws.length+1) c2] 169)).star ((Row 194 7 (.slice a2 (ws.length+1) c2) (ws.length+1) (ws.flatMap gI.cells++ [.int .i64 n,.int .i64 pk,.int .i64 pl,.slice ai mi ci,.slice ad md cd,.int .i64 nx,.bool th])).star ((fD Tryz.prog 3 x.mb x.f).star ((Pr.pts v (.cells #[.pointer (some ⟨x.p,0,none⟩),.map (some x.mb),x.av,.int .i64 s.floor] 108)).star ((Pr.pts w.heap.size (.cells #[.int .i64 pk,.int .i64 pl,.slice ai mi ci,.slice ad md cd,.int .i64 nx] 83)).star (((eP x.p s.pool).star ((Row 169 2 x.av s.acts.length (eI x.kA)).star (Pr.own x.h))).star F)))))) _:=(ja.af.perm (Pr.eD _ _ _)).setCell (i:=1) (.slice a2 (ws.length+1) c2)
 have h7:Sat ((Pr.pts w.heap.size (.cells #[.int .i64 pk,.int .i64 pl,.slice ai mi ci,.slice ad md cd,.int .i64 nx] 83)).star ((((Pr.pts v (.cells #[.pointer (some ⟨x.p,0,none⟩),.map (some x.mb),x.av,.int .i64 s.floor] 108)).star ((eP x.p s.pool).star ((fD Tryz.prog 3 x.mb x.f).star ((Row 169 2 x.av s.acts.length (eI x.kA)).star (Pr.own x.h))))).star ((Pr.pts ab (.cells #[.int .i64 mark,.slice a2 (ws.length+1) c2] 169)).star (Row 194 7 (.slice a2 (ws.length+1) c2) (ws.length+1) (ws.flatMap gI.cells++ [.int .i64 n,.int .i64 pk,.int .i64 pl,.slice ai mi ci,.slice ad md cd,.int .i64 nx,.bool th])))).star F)) _:=h6.perm (by ac_rfl)
 have e:kr v s x ab mark (.slice a2 (ws.length+1) c2) (ws++ [⟨n,pk,pl,.slice ai mi ci,.slice ad md cd,nx,th⟩])=((Pr.pts v (.cells #[.pointer (some ⟨x.p,0,none⟩),.map (some x.mb),x.av,.int .i64 s.floor] 108)).star ((eP x.p s.pool).star ((fD Tryz.prog 3 x.mb x.f).star ((Row 169 2 x.av s.acts.length (eI x.kA)).star (Pr.own x.h))))).star ((Pr.pts ab (.cells #[.int .i64 mark,.slice a2 (ws.length+1) c2] 169)).star (Row 194 7 (.slice a2 (ws.length+1) c2) (ws.length+1) (ws.flatMap gI.cells++ [.int .i64 n,.int .i64 pk,.int .i64 pl,.slice ai mi ci,.slice ad md cd,.int .i64 nx,.bool th]))):=by
  unfold kr fc;rw [aN,au];rfl
 rw [e];exact h7.right
end Go.Proofs.YtiegeadmgpanoaaGreatDoor.D2
namespace Go.Sl
theorem nL {α:Type}(f:α→List Value)(k:Nat)(hf:∀x,(f x).length=k):∀(l:List α) (i j:Nat) (hi:i<l.length),j<k→(l.flatMap f)[i*k+j]? =(f l[i])[j]?
 | [],i,j,hi,_=>absurd hi (by simp)
 | x :: l,0,j,_,hj=>by
   simp only [aX,cB,Nat.zero_add,List.getElem_cons_zero];rw [bG (by rw [hf];exact hj)]
 | x :: l,i+1,j,hi,hj=>by
   have hx:=hf x;simp only [aX,List.getElem_cons_succ];rw [bV (by rw [hx,bJ];omega),hx,show (i+1)*k+j-k=i*k+j by rw [bJ];omega];exact nL f k hf l i j (by simpa using hi) hj
theorem xG {α:Type}(f:α→List Value)(k:Nat)(hf:∀x,(f x).length=k):∀(l:List α),(l.flatMap f).length=l.length*k
 | []=>by simp
 | x :: l=>by simp only [aX,au,List.length_cons,xG f k hf l,hf x,bJ];omega
theorem xH {α:Type}(f:α→List Value)(k:Nat)(hf:∀x,(f x).length=k)(j:Nat)(v:Value)(y:α)(hj:j<k):∀(l:List α) (i:Nat) (hi:i<l.length),(f l[i]).set j v=f y→(l.flatMap f).set (i*k+j) v=(l.set i y).flatMap f
 | [],i,hi,_=>absurd hi (by simp)
 | x :: l,0,_,e=>by
   simp only [aX,cB,Nat.zero_add,List.set_cons_zero,List.getElem_cons_zero] at e ⊢;rw [dE _ _ (by rw [hf];exact hj),e]
 | x :: l,i+1,hi,e=>by
   have hx:=hf x;simp only [aX,List.set_cons_succ,List.getElem_cons_succ] at e ⊢;rw [bY _ _ (by rw [hx,bJ];omega),hx,show (i+1)*k+j-k=i*k+j by rw [bJ];omega];rw [xH f k hf j v y hj l i (by simpa using hi) e]
theorem Row.set {T k b c n:Nat}{xs:List Value}{F:Pr}{w:World}(h:Sat ((Row T k (.slice (some ⟨b,0,none⟩) n c) n xs).star F) w)(i:Nat)(hi:i<xs.length)(v:Value):
 Sat ((Row T k (.slice (some ⟨b,0,none⟩) n c) n (xs.set i v)).star F) (w.setCell ⟨b,i,none⟩ v):=by
 obtain⟨hl,(⟨e,_,_⟩ | ⟨b',cap,sp,e,h1,h2,h3,h4⟩)⟩:=Row.open' h
 · cases e
 · cases e
   have h5:=h4.setCell (i:=i) v;refine Row.mk' (sp:=sp) (by simpa using hl) (by simpa using h1) h2 h3 ?_
   have e6:(xs.set i v++sp).toArray=(xs++sp).toArray.setIfInBounds i v:=by
    rw [cX,dE _ _ hi]
   rw [e6];exact h5
end Go.Sl
namespace Go.Proofs.YtiegeadmgpanoaaGreatDoor.D2
open ChangeShapes WideShapes ChangeAt RowKit Sl fB Z3
abbrev l6(kv vv:Value)(c s:Int):Value:= .agg #[kv,vv,.int .i64 c,.int .i64 s]
def nD(h:Hp)(v:Value)(x:en):Prop:= ∃kv vv,v=l6 kv vv x.child x.size∧Bytes h kv x.key∧Bytes h vv x.value
theorem nD.sub {a b:Hp}(hs:a.sub b){v:Value}{x:en}(h:nD a v x):nD b v x:=by
 obtain⟨kv,vv,e,h1,h2⟩:=h;exact⟨kv,vv,e,h1.sub hs,h2.sub hs⟩
theorem eB {h:Hp}{v:Value}{l:List Int}(hb:Bytes h v l):∃a c,v= .slice a l.length c:=by
 obtain⟨_,a,c,e,_⟩:=hb;exact⟨a,c,e⟩
def eZ(x:(Value × Value) × en):List Value:= [x.1.1,x.1.2,.int .i64 x.2.child,.int .i64 x.2.size]
theorem fL {h:Hp}{vi:Value}{l:List en}(hi:h_ h vi l):∃a c,vi= .slice a l.length c∧c≤maxLen∧∀i (hl:i<l.length),∃b off ak ck av cv,a=some ⟨b,off,none⟩∧
 Bytes h (.slice ak l[i].key.length ck) l[i].key∧Bytes h (.slice av l[i].value.length cv) l[i].value∧
 ∀w,h.le w→w.cell? ⟨b,off+i*4,none⟩=some (.slice ak l[i].key.length ck)∧w.cell? ⟨b,off+i*4+1,none⟩=some (.slice av l[i].value.length cv)∧
  w.cell? ⟨b,off+i*4+2,none⟩=some (.int .i64 l[i].child)∧w.cell? ⟨b,off+i*4+3,none⟩=some (.int .i64 l[i].size):=by
 obtain⟨xs,hxl,⟨hlen,a,c,e,_,hcm,hc⟩,hb⟩:=hi;refine⟨a,c,e,hcm,fun i hl=> ?_⟩;obtain⟨b,off,ea,hcell⟩:=hc (by omega);have Nt:i<xs.length:=by omega
 obtain⟨h1,h2⟩:=hb i Nt hl;obtain⟨ak,ck,e1⟩:=eB h1;obtain⟨av,cv,e2⟩:=eB h2;have hz:i<(xs.zip l).length:=by simp;omega
 have ez:(xs.zip l)[i]=(xs[i],l[i]):=by simp
 refine⟨b,off,ak,ck,av,cv,ea,e1 ▸ h1,e2 ▸ h2,fun w hw=> ?_⟩
 have at':∀j,j<4→∀v,(eZ (xs[i],l[i]))[j]? =some v→w.cell? ⟨b,off+i*4+j,none⟩=some v:=by
  intro j hj v hv;have h3:=hcell (i*4+j) (by omega);have h4:=nL eZ 4 (fun _=>rfl) (xs.zip l) i j hz hj;rw [ez,hv] at h4;rw [cN];exact Hp.kG hw (h3.trans h4)
 have k0:=at' 0 (by omega) _ rfl;have k1:=at' 1 (by omega) _ rfl;have k2:=at' 2 (by omega) _ rfl;have k3:=at' 3 (by omega) _ rfl;dsimp only at k0 k1;rw [e1] at k0;rw [e2] at k1;exact⟨k0,k1,k2,k3⟩
theorem IF {h:Hp}{vi:Value}{l:List en}(xs:List (Value × Value))(hxl:xs.length=l.length)(hr:gj h 4 vi l.length ((xs.zip l).flatMap eZ))
 (hb:∀i (hx:i<xs.length) (hl:i<l.length),Bytes h xs[i].1 l[i].key∧Bytes h xs[i].2 l[i].value):h_ h vi l:=⟨xs,hxl,hr,hb⟩
end Go.Proofs.YtiegeadmgpanoaaGreatDoor.D2
namespace Go.fB
structure mG where
 no:Int
 page:dR
abbrev lj:dR:=⟨0,0,[],[],0⟩
def i7(pages refs:Int):Bool:=decide (1≤pages∧pages≤65536∧2≤refs∧refs<65536)
def jH(cs:List Int)(n:Int):Int:=if 1≤n∧n≤cs.length then cs.getD (n.toNat-1) 0 else 0
def lay(cs:List Int):List mG→(Int→Option dR)→Int × (Int→Option dR)
 | [],on=>(0,on)
 | x :: l,on=>if jH cs x.no=0 then(15,on) else if(on x.no).isSome then(10,on) else if iU x.page≠0 then(iU x.page,on) else lay cs l (fun m=>if m=x.no then some x.page else on m)
def lacks(cs:List Int)(on:Int→Option dR):Bool:=(List.range cs.length).any fun i=>decide (cs.getD i 0≠0) && (on ((i:Int)+1)).isNone
def wh(refs:Int)(cs:List Int):Bool:=cs.any fun c=>decide (c<0∨refs<c)
def jw(refs:Int)(cs:List Int)(l:List mG):Int × (Int→Option dR):=
 if i7 cs.length refs=false then(1,fun _=>none)
 else if wh refs cs=true then(13,fun _=>none)
 else if(lay cs l fun _=>none).1≠0 then lay cs l fun _=>none
 else if lacks cs (lay cs l fun _=>none).2=true then(9,fun _=>none) else lay cs l fun _=>none
structure tO(cs:List Int)(on:Int→Option dR):Prop where
 there:∀n g,on n=some g→jH cs n≠0
 fit:∀n g,on n=some g→Fit g
theorem pY {cs:List Int}{n:Int}(h:jH cs n≠0):1≤n∧n≤cs.length:=by
 unfold jH at h;split at h
 · assumption
 · exact absurd rfl h
theorem tO.none(cs:List Int):tO cs fun _=>none:=⟨fun _ _ e=>(by cases e),fun _ _ e=>(by cases e)⟩
theorem tO.put {cs:List Int}{on:Int→Option dR}(h:tO cs on){x:mG}(h1:jH cs x.no≠0)(h2:iU x.page=0):tO cs fun m=>if m=x.no then some x.page else on m:=by
 constructor
 · intro n g e
   split at e
   · rename_i hn;rw [hn];exact h1
   · exact h.there n g e
 · intro n g e
   split at e
   · cases e;exact fU h2
   · exact h.fit n g e
theorem K8 {cs:List Int}:∀ {l:List mG} {on:Int→Option dR},tO cs on→tO cs (lay cs l on).2
 | [],_,h=>h
 | x :: l,on,h=>by
   unfold lay;split
   · exact h
   · split
     · exact h
     · split
       · exact h
       · exact K8 (h.put (by assumption) (by rename_i h3;exact Decidable.not_not.1 h3))
def pq(cs:List Int)(on:Int→Option dR)(n:Int):Option dR:=if jH cs n=0 then none else some ((on n).getD lj)
def iz(look:Int→Option dR)(size:Nat):Nat→List Int→Int→List Int × Int
 | 0,out,_=>(out,0)
 | k+1,out,n=>if size≤out.length then(out,0) else match look n with
   | none=>([],15)
   | some g=>if g.kind≠3 then([],15)
     else if(g.data.length=min (size-out.length) 480∧((g.next=0)↔(size-out.length≤480))) then iz look size k (out++g.data) g.next else([],5)
def iI(look:Int→Option dR)(size child:Int)(value:List Int):List Int × Int:=
 if size<0∨3840<size∨(size≤32∧(value.length:Int)≠size) then([],8)
 else if size≤32 then(value,0) else iz look size.toNat size.toNat [] child
end Go.fB
