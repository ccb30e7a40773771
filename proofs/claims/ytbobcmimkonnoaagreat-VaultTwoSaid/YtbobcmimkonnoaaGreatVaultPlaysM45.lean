/- The law's lives; the conditions stand as hypotheses. -/
import Derived.Test.YtbobcmimkonnoaaGreatVaultPlaysM34
import Derived.Test.YtbobcmimkonnoaaGreatVaultPlaysM38
import Derived.Test.YtbobcmimkonnoaaGreatVaultPlaysM44
import Derived.Lib.SmallJoins
import Derived.Test.YtbobcmimkonnoaaGreatVaultPlaysM03
import Derived.Test.YtbobcmimkonnoaaGreatVaultPlaysM10
import Derived.Test.YtbobcmimkonnoaaGreatVaultPlaysM12
import Derived.SizedLaws
import Derived.Test.YtbobcmimkonnoaaGreatVaultPlaysM01
set_option maxRecDepth 100000
set_option maxHeartbeats 16000000
namespace Go.Proofs.YtbobcmimkonnoaaGreat.Gz
open M5 J4 ChangeShapes WideShapes ChangeAt RowKit Sl Cop D2 K3 N3 Q3 G2 M2 U3 Y3 F4 X3 X5 Y5 Z6 U9 V9 Fy Jy Z9 Cy Py Ry Cz Ly Fz Uy
abbrev cO(c:Int):Obj:= .cells #[.int .u8 c] 5 (1,2)
abbrev iO(N:Nat):Obj:= .cells #[.slice (some ⟨N,0,none⟩) 1 1,.slice none 0 0,.int .i64 0,.int .i64 0] 58
abbrev jO(N:Nat):Obj:= .cells #[.slice none 0 0,.slice none 0 0,.int .i64 1,.int .i64 0,.slice (some ⟨N,0,none⟩) 1 1,.slice none 0 0,.int .i64 2,.int .i64 0] 58
theorem const_in {N:Nat}{c:Int}{h:Hp}(ha:Pr.pts N (cO c) h):Bytes h (.slice (some ⟨N,0,none⟩) 1 1) [c]:=
 ⟨by simp,_,_,rfl,Nat.le_refl _,by simp [maxLen],fun _=>⟨_,_,rfl,fun i hi=>by
   have:i=0:=by simp at hi;omega
   subst this
   show h.cell _ _=_
   rw [ha]
   simp [Hp.cell]⟩⟩
theorem leaf_in {N M:Nat}{c:Int}{h:Hp}(hh:((Pr.pts N (cO c)).star (Pr.pts M (iO N))) h):PageIn h (pageV 1 0 (.slice (some ⟨M,0,none⟩) 1 1) (.slice none 0 0) 0) (leafG c):=by
 obtain⟨a,b,ha,hb,s1,s2⟩:=star_sub hh
 refine⟨_,_,rfl,items_mk' [(.slice (some ⟨N,0,none⟩) 1 1,.slice none 0 0)] rfl ((pts_rowIn (xs:= [.slice (some ⟨N,0,none⟩) 1 1,.slice none 0 0,.int .i64 0,.int .i64 0]) hb rfl rfl (by simp [maxLen])).sub s2) fun i hx hl=> ?_,RowIn.nil _ _⟩
 have:i=0:=by simp at hx;omega
 subst this
 exact⟨(const_in ha).sub s1,RowIn.nil _ _⟩
theorem index_in {N M:Nat}{h:Hp}(hh:((Pr.pts N (cO 109)).star (Pr.pts M (jO N))) h):PageIn h (pageV 2 1 (.slice (some ⟨M,0,none⟩) 2 2) (.slice none 0 0) 0) indexG:=by
 obtain⟨a,b,ha,hb,s1,s2⟩:=star_sub hh
 refine⟨_,_,rfl,items_mk' [(.slice none 0 0,.slice none 0 0),(.slice (some ⟨N,0,none⟩) 1 1,.slice none 0 0)] rfl ((pts_rowIn (xs:= [.slice none 0 0,.slice none 0 0,.int .i64 1,.int .i64 0,.slice (some ⟨N,0,none⟩) 1 1,.slice none 0 0,.int .i64 2,.int .i64 0]) hb rfl rfl (by simp [maxLen])).sub s2) fun i hx hl=> ?_,RowIn.nil _ _⟩
 have:i=0∨i=1:=by simp at hx;omega
 rcases this with rfl | rfl
 · exact⟨RowIn.nil _ _,RowIn.nil _ _⟩
 · exact⟨(const_in ha).sub s1,RowIn.nil _ _⟩
section
variable(wb v r k:Nat)(z:LawS)
theorem law_pack {T:List Pr}{w:World}(h:OwnL (lawL wb v r z T) w):OwnL (lawL wb v r z [starL T]) w:=⟨h.sat.perm (by simp only [starL,Pr.star_emp])⟩
theorem law_pack1 {A:Pr}{T:List Pr}{w:World}(h:OwnL (lawL wb v r z (A :: T)) w):OwnL (lawL wb v r z [A,starL T]) w:=⟨h.sat.perm (by simp only [starL,Pr.star_emp])⟩
theorem law_open {T:List Pr}{w:World}(h:OwnL (lawL wb v r z [starL T]) w):OwnL (lawL wb v r z T) w:=⟨h.sat.perm (by simp only [starL,Pr.star_emp])⟩
def DoneT(P:VaultS→Prop)(T:List Pr)(w:World):Prop:= ∃z,LOK z k∧P z.s∧OwnL (lawL wb v r z T) w
theorem doneT_of {P:VaultS→Prop}{T:List Pr}{w:World}(h:DoneP wb v r k P (starL T) w):DoneT wb v r k P T w:=by
 obtain⟨z,ok,hp,hs⟩:=h
 exact⟨z,ok,hp,law_open _ _ _ _ hs⟩
theorem call_make(ok:LOK z (k+1))(g:PageV)(vi vd:Value)(hp:Hp)(hpg:PageIn hp (pageV g.kind g.level vi vd g.next) g)(hz:SzP g)(hu:∀x∈g.items,U8 x.key)(P:VaultS→Prop)(hP:∀a b s' H',QMake z.s z.H g a b s' H'→P s')(T:List Pr)(w:World)(hs:OwnL (lawL wb v r z (Pr.own hp :: T)) w):
 Calls Tryz.prog 10 #[.pointer (some ⟨wb,0,none⟩),.agg #[.int .i64 0,.int .i64 0,.int .i64 0,.int .i64 g.kind,.int .i64 g.level,vi,vd,.int .i64 g.next]] w fun e w'=>e= .returned (.bool true)∧Stays w w'∧DoneT wb v r k P (Pr.own hp :: T) w':=by
 refine(do0_tell wb v r k z ok 0 0 g vi vd hp hpg hz hu P hP (starL T) w (law_pack1 _ _ _ _ hs)).mono ?_
 rintro e w' ⟨h1,h2,h3⟩
 exact⟨h1,h2,doneT_of wb v r k (T:=Pr.own hp :: T) h3⟩
theorem call_keep(ok:LOK z (k+1))(n:Int)(P:VaultS→Prop)(hP:∀b s' H',QKeep z.s z.H n b s' H'→P s')(T:List Pr)(w:World)(hs:OwnL (lawL wb v r z T) w):
 Calls Tryz.prog 10 #[.pointer (some ⟨wb,0,none⟩),.agg #[.int .i64 4,.int .i64 n,.int .i64 0,.int .i64 0,.int .i64 0,.slice none 0 0,.slice none 0 0,.int .i64 0]] w fun e w'=>e= .returned (.bool true)∧Stays w w'∧DoneT wb v r k P T w':=by
 refine(do4_tell wb v r k z ok 4 n 0 0 0 0 none none 0 0 0 0 (by omega) rfl P hP (starL T) w (law_pack _ _ _ _ hs)).mono ?_
 rintro e w' ⟨h1,h2,h3⟩
 exact⟨h1,h2,doneT_of wb v r k h3⟩
theorem call_shadow(ok:LOK z (k+1))(n:Int)(P:VaultS→Prop)(hP:∀a b s' H',QShadow z.s z.H n a b s' H'→P s')(T:List Pr)(w:World)(hs:OwnL (lawL wb v r z T) w):
 Calls Tryz.prog 10 #[.pointer (some ⟨wb,0,none⟩),.agg #[.int .i64 2,.int .i64 n,.int .i64 0,.int .i64 0,.int .i64 0,.slice none 0 0,.slice none 0 0,.int .i64 0]] w fun e w'=>e= .returned (.bool true)∧Stays w w'∧DoneT wb v r k P T w':=by
 refine(do2_tell wb v r k z ok 2 n 0 0 0 0 none none 0 0 0 0 (by omega) rfl P hP (starL T) w (law_pack _ _ _ _ hs)).mono ?_
 rintro e w' ⟨h1,h2,h3⟩
 exact⟨h1,h2,doneT_of wb v r k h3⟩
end
theorem lives_any(F:Pr)(w:World)(hF:Sat F w):
 Calls Tryz.prog 8 #[] w fun e w'=>e= .returned (.bool true)∧Stays w w'∧Sat F w':=by
 have B:=hQ (begin_any 6 3 (by decide) 1000 (by omega) F w hF)
 clear hF
 go_enter Tryz.func8,Tryz.ntmps8
 go_wp2_with fail
 refine B.out.mono ?_
 rintro e w1 ⟨st1,wb,v,r,rfl,ok,hs⟩
 obtain⟨N,hN⟩:∃N,w1.heap.size=N:=⟨_,rfl⟩
 obtain⟨wA,hwA⟩:∃wA,wA=((w1.alloc (cO 97)).alloc (iO N)).alloc (pageC 1 0 (.slice (some ⟨N+1,0,none⟩) 1 1) (.slice none 0 0) 0):=⟨_,rfl⟩
 obtain⟨wB,hwB⟩:∃wB,wB=((wA.alloc (cO 112)).alloc (iO (N+1+1+1))).alloc (pageC 1 0 (.slice (some ⟨N+1+1+1+1,0,none⟩) 1 1) (.slice none 0 0) 0):=⟨_,rfl⟩
 obtain⟨wC,hwC⟩:∃wC,wC=((wB.alloc (cO 109)).alloc (jO (N+1+1+1+1+1+1))).alloc (pageC 2 1 (.slice (some ⟨N+1+1+1+1+1+1+1,0,none⟩) 2 2) (.slice none 0 0) 0):=⟨_,rfl⟩
 have sA:wA.heap.size=N+1+1+1:=by rw [hwA, ← hN];simp
 have sB:wB.heap.size=N+1+1+1+1+1+1:=by rw [hwB, ← sA];simp
 have hcvA:=Go.Joins.run_convert_bytes_const_at (P:=Tryz.prog) w1 29 5 #[.int .u8 97] 1 1 N hN.symm Tryz.underlying29 Tryz.underlying5
 have hcvB:=Go.Joins.run_convert_bytes_const_at (P:=Tryz.prog) wA 29 5 #[.int .u8 112] 1 1 (N+1+1+1) sA.symm Tryz.underlying29 Tryz.underlying5
 have hcvC:=Go.Joins.run_convert_bytes_const_at (P:=Tryz.prog) wB 29 5 #[.int .u8 109] 1 1 (N+1+1+1+1+1+1) sB.symm Tryz.underlying29 Tryz.underlying5
 have es:∀(u:World) (o:Obj),(u.alloc o).heap.size=u.heap.size+1:=fun u o=>by simp
 have h3:=((hs.alloc (cO 97)).alloc (iO N)).alloc (pageC 1 0 (.slice (some ⟨N+1,0,none⟩) 1 1) (.slice none 0 0) 0)
 simp only [es,hN] at h3
 rw [← hwA] at h3
 have h6:=((h3.alloc (cO 112)).alloc (iO (N+1+1+1))).alloc (pageC 1 0 (.slice (some ⟨N+1+1+1+1,0,none⟩) 1 1) (.slice none 0 0) 0)
 simp only [es,sA] at h6
 rw [← hwB] at h6
 have h9:=((h6.alloc (cO 109)).alloc (jO (N+1+1+1+1+1+1))).alloc (pageC 2 1 (.slice (some ⟨N+1+1+1+1+1+1+1,0,none⟩) 2 2) (.slice none 0 0) 0)
 simp only [es,sB] at h9
 rw [← hwC] at h9
 have stC:Stays w wC:=by
  rw [hwC,hwB,hwA]
  exact(((((((((st1.alloc _).alloc _).alloc _).alloc _).alloc _).alloc _).alloc _).alloc _).alloc _)
 have HST:=hQ stC
 have HOK:=hQ ok
 have HS:=hQ h9
 rw [hwB,hwA] at hwC
 rw [hwB,hwA] at hcvC
 rw [hwA] at hcvB
 have c1:=h9.facts
 simp only [CellsAt,Nat.reduceAdd,and_true] at c1
 rw [hwC] at c1
 have HWC:=hQ hwC
 clear h3 h6 h9 hs ok stC st1 B es hwC hwB hwA sA sB
 go_wp2_with fail
 rw [← HWC.out]
 have hs0:=HS.out
 obtain⟨hA,haA,hs1⟩:=(hs0.join2 (Pr.pts N (cO 97)) (Pr.pts (N+1) (iO N))).arena ((Pr.pts N (cO 97)).star (Pr.pts (N+1) (iO N)))
 obtain⟨hB,haB,hs2⟩:=(hs1.join2 (Pr.pts (N+1+1+1) (cO 112)) (Pr.pts (N+1+1+1+1) (iO (N+1+1+1)))).arena ((Pr.pts (N+1+1+1) (cO 112)).star (Pr.pts (N+1+1+1+1) (iO (N+1+1+1))))
 obtain⟨hC,haC,hs3⟩:=(hs2.join2 (Pr.pts (N+1+1+1+1+1+1) (cO 109)) (Pr.pts (N+1+1+1+1+1+1+1) (jO (N+1+1+1+1+1+1)))).arena ((Pr.pts (N+1+1+1+1+1+1) (cO 109)).star (Pr.pts (N+1+1+1+1+1+1+1) (jO (N+1+1+1+1+1+1))))
 have PB:=hQ (leaf_in haB)
 have PC:=hQ (index_in haC)
 have hs4:OwnL (lawL wb v r (zNew 3 6) [Pr.own hA,Pr.own hB,Pr.own hC,Pr.pts (N+1+1+1+1+1) (pageC 1 0 (.slice (some ⟨N+1+1+1+1,0,none⟩) 1 1) (.slice none 0 0) 0),Pr.pts (N+1+1+1+1+1+1+1+1) (pageC 2 1 (.slice (some ⟨N+1+1+1+1+1+1+1,0,none⟩) 2 2) (.slice none 0 0) 0),F]) wC:=hs3.to
 generalize N+1+1+1+1+1+1+1+1=N8 at*
 generalize N+1+1+1+1+1+1+1=N7 at*
 generalize N+1+1+1+1+1=N5 at*
 generalize N+1+1+1+1=N4 at*
 generalize N+1=N1 at*
 have C1:=hQ (call_make wb v r 999 (zNew 3 6) HOK.out (leafG 97) _ _ hA (leaf_in haA) (sz_leaf 97) u8_a (fun s=>LiveS s [1,0,0,0,0,0]) (fun a b s' H' hq=>(live_make live_zero check_a (i:=0) (by omega) rfl (fun j hj=>absurd hj (by omega)) hq).1) _ _ hs4)
 clear hs0 hs1 hs2 hs3 hs4 haA haB haC HOK HS hcvA hcvB hcvC c1 HWC
 refine C1.out.mono ?_
 rintro e w2 ⟨rfl,st2,z1,ok1,p1,hs5⟩
 have HST2:=hQ (HST.out.trans st2)
 have c1:=hs5.facts
 simp only [CellsAt,Nat.reduceAdd,and_true] at c1
 have C2:=hQ (call_make wb v r 998 z1 ok1 (leafG 112) _ _ hB PB.out (sz_leaf 112) u8_p (fun s=>LiveS s [1,1,0,0,0,0]) (fun a b s' H' hq=>(live_make p1 check_p (i:=1) (by omega) rfl (fun j hj=>by
  obtain rfl:j=0:=by omega
  decide) hq).1) [Pr.own hA,Pr.own hC,Pr.pts N5 (pageC 1 0 (.slice (some ⟨N4,0,none⟩) 1 1) (.slice none 0 0) 0),Pr.pts N8 (pageC 2 1 (.slice (some ⟨N7,0,none⟩) 2 2) (.slice none 0 0) 0),F] _ hs5.to)
 clear st2 ok1 p1 hs5 C1 HST PB
 go_wp2_with fail
 refine C2.out.mono ?_
 rintro e w3 ⟨rfl,st3,z2,ok2,p2,hs6⟩
 have HST3:=hQ (HST2.out.trans st3)
 clear c1
 have c1:=hs6.facts
 simp only [CellsAt,Nat.reduceAdd,and_true] at c1
 have C3:=hQ (call_make wb v r 997 z2 ok2 indexG _ _ hC PC.out sz_index u8_i (fun s=>LiveS s [1,1,1,0,0,0]∧s.on 3=some indexG) (fun a b s' H' hq=>by
  obtain⟨g1,g2⟩:=live_make p2 check_i (i:=2) (by omega) rfl (fun j hj=>by
   have:j=0∨j=1:=by omega
   rcases this with rfl | rfl<;>decide) hq
  exact⟨g1,(g2 3).trans (if_pos rfl)⟩) [Pr.own hA,Pr.own hB,Pr.pts N5 (pageC 1 0 (.slice (some ⟨N4,0,none⟩) 1 1) (.slice none 0 0) 0),Pr.pts N8 (pageC 2 1 (.slice (some ⟨N7,0,none⟩) 2 2) (.slice none 0 0) 0),F] _ hs6.to)
 clear st3 ok2 p2 hs6 C2 HST2 PC
 go_wp2_with fail
 refine C3.out.mono ?_
 rintro e w4 ⟨rfl,st4,z3,ok3,⟨p3,q3⟩,hs7⟩
 have HST4:=hQ (HST3.out.trans st4)
 have C4:=hQ (call_keep wb v r 996 z3 ok3 3 (fun s=>LiveS s [1,1,2,0,0,0]∧s.on 3=some indexG) (fun b s' H' hq=>by
  obtain⟨g1,g2⟩:=live_keep p3 (i:=2) (by omega) (by decide) (by decide) hq
  exact⟨g1,(g2 3).trans q3⟩) [F] _ hs7.to)
 clear c1 st4 ok3 p3 q3 hs7 C3 HST3
 go_wp2_with fail
 refine C4.out.mono ?_
 rintro e w5 ⟨rfl,st5,z4,ok4,⟨p4,q4⟩,hs8⟩
 have HST5:=hQ (HST4.out.trans st5)
 have C5:=hQ (call_shadow wb v r 995 z4 ok4 3 (fun s=>LiveS s [2,2,1,1,0,0]) (fun a b s' H' hq=>live_shadow p4 q4 kids_i hq) [F] _ hs8)
 clear st5 ok4 p4 q4 hs8 C4 HST4
 go_wp2_with fail
 refine C5.out.mono ?_
 rintro e w6 ⟨rfl,st6,z5,ok5,p5,hs9⟩
 have HST6:=hQ (HST5.out.trans st6)
 obtain⟨x,okx,hs10⟩:=vault_open (v:=v) (s:=z5.s) hs9
 have c1:=hs10.facts
 simp only [CellsAt,Nat.reduceAdd,and_true] at c1
 have M1:=hQ (count_A x.p z5.s.pool 1 _ _ (hs10.pull1 (A1:=PoolA x.p z5.s.pool)))
 have M4:=hQ (count_A x.p z5.s.pool 4 _ _ (hs10.pull1 (A1:=PoolA x.p z5.s.pool)))
 rw [show z5.s.pool.count 1=2 from p5.count (i:=0) (by omega)] at M1
 rw [show z5.s.pool.count 4=1 from p5.count (i:=3) (by omega)] at M4
 have A:=hQ (all_any wb v r 995 F w6 ⟨z5,ok5,hs9⟩)
 clear st6 ok5 p5 hs9 hs10 okx C5 HST5
 go_wp2_with fail
 refine M1.out.mono ?_
 rintro e w7 ⟨rfl,rfl⟩
 go_wp2_with fail
 refine M4.out.mono ?_
 rintro e w7 ⟨rfl,rfl⟩
 clear c1
 go_wp2_with fail
 refine A.out.mono ?_
 rintro e w7 ⟨rfl,st7,z6,ok6,hs11⟩
 have HST7:=hQ (HST6.out.trans st7)
 have HF:=hQ (hs11.end1 (A1:=F))
 clear st7 ok6 hs11 A M1 M4
 go_wp2
 go_ret
 exact⟨rfl,HST7.out,HF.out⟩
end Go.Proofs.YtbobcmimkonnoaaGreat.Gz
namespace Go.Proofs.YtbobcmimkonnoaaGreat.Hz
open ChangeShapes WideShapes ChangeAt RowKit Sl Cop
theorem wpList_min {ops:Array Oper}{rest:List Oper}{o:Oper}{ac:Act}{Q:Exit→Act→World→Prop}{w:World}(hgd:o.guard=none)(x y:Operand)(hop:o.op= .call { callee:= .builtin .min,args:= #[x,y],argTypes:= #[3,3] })
 (hty:o.type=3) (a b n:Int) (hn:n=min a b) (hx:ac.eval x= .int .i64 a) (hy:ac.eval y= .int .i64 b) (hK:wpList Tryz.prog ops Q rest (ac.put o.dst (.int .i64 n)) w):wpList Tryz.prog ops Q (o :: rest) ac w:=by
 refine wpList_plain hgd fun K' hK'=> ?_
 subst hn
 unfold Oper.wp execOp
 simp only [hop,resolve,invoke,builtin,Sem.run_bind,Sem.run_pure,Result.andThen_ok,List.map_toArray,List.map_cons,List.map_nil,hx,hy,hty]
 by_cases h:b<a
 · have e:min a b=b:=by omega
   rw [e] at hK
   go_simp
   exact hK' _ _ hK
 · have e:min a b=a:=by omega
   rw [e] at hK
   go_simp
   exact hK' _ _ hK
theorem slice_to(T e:TypeId)(hu:Tryz.prog.underlying T=some (.slice e))(k:Nat)(hz:∀w:World,(Go.sizeOf e).run Tryz.prog w= .ok k w)(a:Option Addr)(len cap n:Nat)(hn:n≤cap)(w:World):(Instr.sliceAt T (.slice a len cap) none (some (.int .i64 (n:Int))) none).run Tryz.prog w= .ok (.slice a n cap) w:=by
 have h0:(0:Int)≤(n:Int):=by omega
 have h1:(n:Int)≤(cap:Int):=by omega
 cases a with
 | none=>go_simp
 | some x=>
   by_cases hc:cap=0
   · subst hc
     obtain rfl:n=0:=by omega
     go_simp
   · go_simp
theorem wpList_slice_to {ops:Array Oper}{rest:List Oper}{o:Oper}{ac:Act}{Q:Exit→Act→World→Prop}{w:World}(hgd:o.guard=none)(T e:TypeId)(x h:Operand)(hop:o.op=Op.slice T x none (some h) none)(hu:Tryz.prog.underlying T=some (.slice e))(k:Nat)(hz:∀w:World,(Go.sizeOf e).run Tryz.prog w= .ok k w)(a:Option Addr)(len cap n:Nat)(hn:n≤cap)
 (hx:ac.eval x= .slice a len cap) (hh:ac.eval h= .int .i64 (n:Int)) (hK:wpList Tryz.prog ops Q rest (ac.put o.dst (.slice a n cap)) w):wpList Tryz.prog ops Q (o :: rest) ac w:=by
 refine wpList_plain hgd fun K' hK'=> ?_
 have hr:=slice_to T e hu k hz a len cap n hn w
 unfold Oper.wp
 simp [execOp,hop,hx,hh,hr,Result.andThen]
 exact hK' _ _ hK
end Go.Proofs.YtbobcmimkonnoaaGreat.Hz
namespace Go.Proofs.YtbobcmimkonnoaaGreat.Jz
open ChangeShapes WideShapes ChangeAt RowKit Sl Cop Deep G2 P4 Q4 U3 L5 X3 G4
theorem cells_item:Tryz.prog.cellsOf 58=4:=by kernel_rfl
theorem cells_page:Tryz.prog.cellsOf 31=5:=by kernel_rfl
theorem bytes_u8:Tryz.prog.bytesOf 5=1:=by kernel_rfl
theorem bytes_item:Tryz.prog.bytesOf 58=64:=by kernel_rfl
section
variable {H:Type}{enc:TypeId × Value→H}
def Small(d:DataW H)(t:TypeId):Prop:= ∀m∈d.weights Tryz.prog t,m≤reachBytes
theorem weights_all {e:TypeId}:∀ {l:List (DataW H)} {i:Nat} {d:DataW H},l[i]? =some d→∀m∈d.weights Tryz.prog e,m∈DataW.weightsAll Tryz.prog e l
 | [],_,_,h,_,_=>by simp at h
 | x :: l,0,d,h,m,hm=>by
   simp only [List.getElem?_cons_zero,Option.some.injEq] at h
   subst h
   simp only [DataW.weightsAll,List.mem_append]
   exact .inl hm
 | x :: l,i+1,d,h,m,hm=>by
   simp only [List.getElem?_cons_succ] at h
   simp only [DataW.weightsAll,List.mem_append]
   exact .inr (weights_all h m hm)
theorem int_of {W:World}{base n:Nat}{v:Value}{x:DataW H × List MemPlace}(h:DataW.trod enc Tryz.prog W base (fun _=>true) true n 3 [v]=some x):∃z,v= .int .i64 z∧ -9223372036854775808≤z∧z≤9223372036854775807:=by
 cases n with
 | zero=>simp [DataW.trod] at h
 | succ n=>
   unfold DataW.trod at h
   rw [Tryz.underlying3] at h
   cases v with
   | int k z=>
     simp only at h
     split at h
     · rename_i hk
       have e1:IntKind.i64.min= -9223372036854775808:=by decide
       have e2:IntKind.i64.max=9223372036854775807:=by decide
       simp_all [Lit.wf]
     · simp at h
   | _=>simp at h
theorem bytes_sz {W:World}{base n:Nat}{v:Value}{x:DataW H × List MemPlace}(h:DataW.trod enc Tryz.prog W base (fun _=>true) true n 29 [v]=some x):
 ∃l:List Int,Bytes (heapOf W) v l∧U8 l∧(Small x.1 29→l.length≤reachBytes):=by
 rcases open_ints Tryz.underlying29 Tryz.underlying5 cells_u8 h with⟨e,_⟩ | ⟨a,len,cap,zs,e,_,hl,hm,hz,hx,hcell,hwf⟩
 · simp at e
   subst e
   exact⟨[],RowIn.nil _ _,fun z hz=>(by cases hz),fun _=>Nat.zero_le _⟩
 · simp at e
   subst e
   simp only [if_true] at hz
   have hlen:(zs.take len).length=len:=by simp;omega
   refine⟨zs.take len,⟨by simp,some a,cap,by rw [hlen],by omega,hm,fun h0=> ?_⟩,fun z hz'=> ?_,fun hs=> ?_⟩
   · obtain⟨ab,ao,spot⟩:=a
     have hspot:spot=none:=by simpa [Addr.add] using World.cell?_spot (hcell 0 (by omega))
     subst hspot
     refine⟨ab,ao,rfl,fun i hi=> ?_⟩
     have hc:=hcell i (by omega)
     rw [Addr.add_lit] at hc
     rw [heap_cell hc]
     have h1:i<zs.length:=by omega
     have h2:i<len:=by omega
     simp [h1,h2]
   · have:=hwf z (List.mem_of_mem_take hz')
     simp only [Lit.wf,Bool.and_eq_true,decide_eq_true_eq] at this
     have e1:IntKind.u8.min=0:=by decide
     have e2:IntKind.u8.max=255:=by decide
     rw [e1,e2] at this
     exact this
   · subst hx
     have h2:=hs (((lits .u8 (zs.take len)).length+(lits .u8 (zs.drop len)).length)*Tryz.prog.bytesOf 5:Nat) (by
      simp only [DataW.weights,Tryz.underlying29]
      exact List.mem_cons_self)
     rw [bytes_u8] at h2
     simp [lits] at h2
     rw [hlen]
     omega
def ItemCells(h:Hp)(cs:List Value)(y:ItemV):Prop:= ∃kv vv,cs= [kv,vv,.int .i64 y.child,.int .i64 y.size]∧Bytes h kv y.key∧Bytes h vv y.value
def ItemFits(y:ItemV):Prop:=U8 y.key∧U8 y.value∧(-9223372036854775808≤y.child∧y.child≤9223372036854775807)∧(-9223372036854775808≤y.size∧y.size≤9223372036854775807)
def ItemSized(y:ItemV):Prop:=y.key.length≤reachBytes∧y.value.length≤reachBytes
theorem item_of {W:World}{base n:Nat}{cs:List Value}{x:DataW H × List MemPlace}(h:DataW.trod enc Tryz.prog W base (fun _=>true) true n 58 cs=some x):
 ∃y:ItemV,ItemCells (heapOf W) cs y∧ItemFits y∧(Small x.1 58→ItemSized y):=by
 obtain⟨xs,m,rfl,rfl,hl,hlen,hf⟩:=DataW.trod_struct Tryz.underlying58 h
 rw [cells_item] at hl
 match cs,hl with
 | [c0,c1,c2,c3],_=>
   match xs,hlen with
   | [x0,x1,x2,x3],_=>
     have f0:=hf 0 _ rfl
     have f1:=hf 1 _ rfl
     have f2:=hf 2 _ rfl
     have f3:=hf 3 _ rfl
     simp only [List.getElem?_cons_zero,List.getElem?_cons_succ] at f0 f1 f2 f3
     obtain⟨K,hk,uk,sk⟩:=bytes_sz f0
     obtain⟨V,hv,uv,sv⟩:=bytes_sz f1
     obtain⟨c,rfl,hc⟩:=int_of f2
     obtain⟨s,rfl,hs⟩:=int_of f3
     refine⟨⟨K,V,c,s⟩,⟨c0,c1,rfl,hk,hv⟩,⟨uk,uv,hc,hs⟩,fun hw=>⟨sk fun m hm=>hw m ?_,sv fun m hm=>hw m ?_⟩⟩
     · simp only [DataW.weights,Tryz.underlying58,List.map_cons,List.map_nil,DataW.weightsEach,List.mem_append]
       exact .inl hm
     · simp only [DataW.weights,Tryz.underlying58,List.map_cons,List.map_nil,DataW.weightsEach,List.mem_append]
       exact .inr (.inl hm)
theorem zip_range {α β:Type}(f:Nat→α)(g:Nat→β)(n:Nat):((List.range n).map f).zip ((List.range n).map g)=(List.range n).map fun i=>(f i,g i):=by
 rw [List.zip_map']
theorem rows_of {W:World}{base n:Nat}{t e:TypeId}{k:Nat}(ht:Tryz.prog.underlying t=some (.slice e))(hk:Tryz.prog.cellsOf e=k)(hk0:0<k){v:Value}{x:DataW H × List MemPlace}(h:DataW.trod enc Tryz.prog W base (fun _=>true) true n t [v]=some x):
 ∃(len n':Nat) (C:Nat→List Value) (D:Nat→DataW H) (Pl:Nat→List MemPlace),(∀i,i<len→(C i).length=k∧DataW.trod enc Tryz.prog W base (fun _=>true) true n' e (C i)=some (D i,Pl i))∧
  RowIn (heapOf W) k v len ((List.range len).flatMap C)∧(Small x.1 t→len*Tryz.prog.bytesOf e≤reachBytes∧∀i,i<len→Small (D i) e):=by
 rcases open_slice ht h with⟨e1,e2⟩ | ⟨a,len,cap,m,n',D,Pl,e1,_,hl,hm,hmm,hx,hc⟩
 · simp at e1
   subst e1
   exact⟨0,0,fun _=> [],fun _=> .nil,fun _=> [],fun i hi=>absurd hi (by omega),RowIn.nil _ _,fun _=>⟨by simp,fun i hi=>absurd hi (by omega)⟩⟩
 · simp at e1
   subst e1
   simp only [if_true] at hmm
   subst hmm
   rw [hk] at hc
   obtain⟨C,hC⟩:=choose_lt (α:=List Value) (n:=m) (p:=fun i cs'=>W.cells? base (a.add (i*k)) k=some cs'∧DataW.trod enc Tryz.prog W base (fun _=>true) true n' e cs'=some (D i,Pl i)) hc
   have hC2:∀i,i<m→(C i).length=k∧∀j,j<k→W.cell? ((a.add (i*k)).add j)=(C i)[j]? :=fun i hi=>by
    obtain⟨_,h2,h3⟩:=World.cells?_some (hC i hi).1
    exact⟨h2,h3⟩
   refine⟨len,n',C,D,Pl,fun i hi=>⟨(hC2 i (by omega)).1,(hC i (by omega)).2⟩,⟨?_,some a,m,rfl,hl,hm,fun h0=> ?_⟩,fun hs=>⟨?_,fun i hi w hw=>hs w ?_⟩⟩
   · have e2:∀q,q≤m→((List.range q).flatMap C).length=q*k:=by
      intro q
      induction q with
      | zero=>intro _;simp
      | succ q ih=>
        intro hq
        rw [List.range_succ,List.flatMap_append,List.length_append,ih (by omega)]
        simp only [List.flatMap_cons,List.flatMap_nil,List.append_nil,(hC2 q (by omega)).1]
        rw [Nat.succ_mul]
     exact e2 len hl
   · obtain⟨ab,ao,spot⟩:=a
     have hspot:spot=none:=by
      have h1:=(hC2 0 (by omega)).2 0 hk0
      rw [List.getElem?_eq_getElem (by rw [(hC2 0 (by omega)).1];exact hk0)] at h1
      have:=World.cell?_spot h1
      simpa [Addr.add] using this
     subst hspot
     refine⟨ab,ao,rfl,fun i hi=> ?_⟩
     have e2:∀q,q≤m→∀i,i<q*k→((List.range q).flatMap C)[i]? =(C (i / k))[i % k]? :=by
      intro q
      induction q with
      | zero=>intro _ i hi;omega
      | succ q ih=>
        intro hq i hi
        have hlen:((List.range q).flatMap C).length=q*k:=by
         have e3:∀r,r≤m→((List.range r).flatMap C).length=r*k:=by
          intro r
          induction r with
          | zero=>intro _;simp
          | succ r ihr=>
            intro hr
            rw [List.range_succ,List.flatMap_append,List.length_append,ihr (by omega)]
            simp only [List.flatMap_cons,List.flatMap_nil,List.append_nil,(hC2 r (by omega)).1]
            rw [Nat.succ_mul]
         exact e3 q (by omega)
        rw [List.range_succ,List.flatMap_append]
        rcases Nat.lt_or_ge i (q*k) with h1 | h1
        · rw [List.getElem?_append_left (by rw [hlen];exact h1)]
          exact ih (by omega) i h1
        · rw [List.getElem?_append_right (by rw [hlen];exact h1),hlen]
          have h2:i<q*k+k:=by rw [Nat.succ_mul] at hi;exact hi
          have h3:i / k=q:=by
           have:q≤i / k:=(Nat.le_div_iff_mul_le hk0).2 h1
           have:i / k<q+1:=(Nat.div_lt_iff_lt_mul hk0).2 (by rw [Nat.succ_mul];exact h2)
           omega
          have h4:i % k=i-q*k:=by
           have:=Nat.div_add_mod i k
           rw [h3,Nat.mul_comm] at this
           omega
          rw [h3,h4]
          simp
     rw [e2 len hl i hi]
     have hik:i / k<len:=(Nat.div_lt_iff_lt_mul hk0).2 hi
     have h5:=(hC2 (i / k) (by omega)).2 (i % k) (Nat.mod_lt _ hk0)
     rw [List.getElem?_eq_getElem (by rw [(hC2 (i / k) (by omega)).1];exact Nat.mod_lt _ hk0)] at h5 ⊢
     rw [add_add,Addr.add_lit,show i / k*k+i % k=i by rw [Nat.mul_comm];exact Nat.div_add_mod i k] at h5
     exact heap_cell h5
   · subst hx
     have h2:=hs ((((List.range len).map D).length+((List.range (m-len)).map fun j=>D (len+j)).length)*Tryz.prog.bytesOf e:Nat) (by
      simp only [DataW.weights,ht]
      exact List.mem_cons_self)
     simp only [List.length_map,List.length_range] at h2
     exact Nat.le_trans (Nat.mul_le_mul_right _ (by omega)) h2
   · subst hx
     simp only [DataW.weights,ht,List.mem_cons,List.mem_append]
     exact .inr (.inl (weights_all (l:=(List.range len).map D) (i:=i) (by simp [hi]) w hw))
instance:Inhabited ItemV:=⟨⟨[],[],0,0⟩⟩
instance:Inhabited PageV:=⟨⟨0,0,[],[],0⟩⟩
instance:Inhabited NumV:=⟨⟨0,default⟩⟩
theorem items_of {W:World}{base n:Nat}{v:Value}{x:DataW H × List MemPlace}(h:DataW.trod enc Tryz.prog W base (fun _=>true) true n 28 [v]=some x):
 ∃l:List ItemV,ItemsIn (heapOf W) v l∧(∀y∈l,ItemFits y)∧(Small x.1 28→l.length*64≤reachBytes∧∀y∈l,ItemSized y):=by
 obtain⟨len,n',C,D,Pl,hC,hr,hs⟩:=rows_of Tryz.underlying28 cells_item (by omega) h
 obtain⟨Y,hY⟩:=choose_lt (α:=ItemV × Value × Value) (n:=len) (p:=fun i y=>C i= [y.2.1,y.2.2,.int .i64 y.1.child,.int .i64 y.1.size]∧(Bytes (heapOf W) y.2.1 y.1.key∧Bytes (heapOf W) y.2.2 y.1.value)∧ItemFits y.1∧(Small (D i) 58→ItemSized y.1)) (fun i hi=>by
  obtain⟨y,⟨kv,vv,e,h1,h2⟩,h3,h4⟩:=item_of (hC i hi).2
  exact⟨(y,kv,vv),e,⟨h1,h2⟩,h3,h4⟩)
 refine⟨(List.range len).map fun i=>(Y i).1,⟨(List.range len).map fun i=>(Y i).2,by simp,?_,?_⟩,?_,fun hw=>⟨?_,?_⟩⟩
 · rw [zip_range]
   have e1:(List.range len).flatMap C=((List.range len).map fun i=>((Y i).2,(Y i).1)).flatMap fun x=> [x.1.1,x.1.2,.int .i64 x.2.child,.int .i64 x.2.size]:=by
    rw [List.flatMap_map]
    exact flatMap_congr_range fun i hi=>(hY i hi).1
   rw [← e1]
   simpa using hr
 · intro i hx hl
   simp at hl
   simp only [List.getElem_map,List.getElem_range]
   exact(hY i hl).2.1
 · intro y hy
   obtain⟨i,hi,rfl⟩:=List.mem_map.1 hy
   exact(hY i (List.mem_range.1 hi)).2.2.1
 · have:=(hs hw).1
   rw [bytes_item] at this
   simpa using this
 · intro y hy
   obtain⟨i,hi,rfl⟩:=List.mem_map.1 hy
   exact(hY i (List.mem_range.1 hi)).2.2.2 ((hs hw).2 i (List.mem_range.1 hi))
def PageFits(g:PageV):Prop:=(∀y∈g.items,ItemFits y)∧U8 g.data∧(-9223372036854775808≤g.kind∧g.kind≤9223372036854775807)∧(-9223372036854775808≤g.level∧g.level≤9223372036854775807)∧(-9223372036854775808≤g.next∧g.next≤9223372036854775807)
def PageSized(g:PageV):Prop:=g.items.length*64≤reachBytes∧(∀y∈g.items,ItemSized y)∧g.data.length≤reachBytes
def PageCells(h:Hp)(cs:List Value)(g:PageV):Prop:= ∃vi vd,cs= [.int .i64 g.kind,.int .i64 g.level,vi,vd,.int .i64 g.next]∧ItemsIn h vi g.items∧Bytes h vd g.data
theorem page_of {W:World}{base n:Nat}{cs:List Value}{x:DataW H × List MemPlace}(h:DataW.trod enc Tryz.prog W base (fun _=>true) true n 31 cs=some x):
 ∃g:PageV,PageCells (heapOf W) cs g∧PageFits g∧(Small x.1 31→PageSized g):=by
 obtain⟨xs,m,rfl,rfl,hl,hlen,hf⟩:=DataW.trod_struct Tryz.underlying31 h
 rw [cells_page] at hl
 match cs,hl with
 | [c0,c1,c2,c3,c4],_=>
   match xs,hlen with
   | [x0,x1,x2,x3,x4],_=>
     have f0:=hf 0 _ rfl
     have f1:=hf 1 _ rfl
     have f2:=hf 2 _ rfl
     have f3:=hf 3 _ rfl
     have f4:=hf 4 _ rfl
     simp only [List.getElem?_cons_zero,List.getElem?_cons_succ] at f0 f1 f2 f3 f4
     obtain⟨k,rfl,hk⟩:=int_of f0
     obtain⟨l,rfl,hl⟩:=int_of f1
     obtain⟨I,hI,fI,sI⟩:=items_of f2
     obtain⟨B,hB,uB,sB⟩:=bytes_sz f3
     obtain⟨nx,rfl,hn⟩:=int_of f4
     refine⟨⟨k,l,I,B,nx⟩,⟨c2,c3,rfl,hI,hB⟩,⟨fI,uB,hk,hl,hn⟩,fun hw=> ?_⟩
     have w2:=sI fun m hm=>hw m (by
      simp only [DataW.weights,Tryz.underlying31,List.map_cons,List.map_nil,DataW.weightsEach,List.mem_append]
      exact .inr (.inr (.inl hm)))
     have w3:=sB fun m hm=>hw m (by
      simp only [DataW.weights,Tryz.underlying31,List.map_cons,List.map_nil,DataW.weightsEach,List.mem_append]
      exact .inr (.inr (.inr (.inl hm))))
     exact⟨w2.1,w2.2,w3⟩
end
end Go.Proofs.YtbobcmimkonnoaaGreat.Jz
namespace Go.Cop
structure OpP where
 kind:Int
 n:Int
 k:Int
 g:PageV
end Go.Cop
namespace Go.Proofs.YtbobcmimkonnoaaGreat.Kz
open ChangeShapes WideShapes ChangeAt RowKit Sl Cop Deep G2 M2 P4 Q4 U3 L5 X3 G4 Jz
theorem cells_op11:Tryz.prog.cellsOf 33=8:=by kernel_rfl
def i64P(z:Int):Prop:= -9223372036854775808≤z∧z≤9223372036854775807
def opPCells(o:OpP)(v:Value × Value):List Value:= [.int .i64 o.kind,.int .i64 o.n,.int .i64 o.k,.int .i64 o.g.kind,.int .i64 o.g.level,v.1,v.2,.int .i64 o.g.next]
def OpPB(h:Hp)(o:OpP)(v:Value × Value):Prop:=ItemsIn h v.1 o.g.items∧Bytes h v.2 o.g.data
def OpsP(h:Hp)(v:Value)(l:List OpP):Prop:=
 ∃xs:List (Value × Value),xs.length=l.length∧RowIn h 8 v l.length ((xs.zip l).flatMap fun y=>opPCells y.2 y.1)∧∀i (hx:i<xs.length) (hl:i<l.length),OpPB h l[i] xs[i]
theorem opsP_rd {h:Hp}{v:Value}{l:List OpP}(hi:OpsP h v l):∃a c,v= .slice a l.length c∧l.length≤c∧c≤maxLen∧∀i (hl:i<l.length),∃b off ai ad ci cd,a=some ⟨b,off,none⟩∧
 OpPB h l[i] (.slice ai l[i].g.items.length ci,.slice ad l[i].g.data.length cd)∧
 ∀w,h.le w→w.cell? ⟨b,off+i*8,none⟩=some (.int .i64 l[i].kind)∧w.cell? ⟨b,off+i*8+1,none⟩=some (.int .i64 l[i].n)∧
  w.cell? ⟨b,off+i*8+2,none⟩=some (.int .i64 l[i].k)∧w.cell? ⟨b,off+i*8+3,none⟩=some (.int .i64 l[i].g.kind)∧
  w.cell? ⟨b,off+i*8+4,none⟩=some (.int .i64 l[i].g.level)∧w.cell? ⟨b,off+i*8+5,none⟩=some (.slice ai l[i].g.items.length ci)∧
  w.cell? ⟨b,off+i*8+6,none⟩=some (.slice ad l[i].g.data.length cd)∧w.cell? ⟨b,off+i*8+7,none⟩=some (.int .i64 l[i].g.next):=by
 obtain⟨xs,hxl,⟨hlen,a,c,e,hnc,hcm,hc⟩,hb⟩:=hi
 refine⟨a,c,e,hnc,hcm,fun i hl=> ?_⟩
 obtain⟨b,off,ea,hcell⟩:=hc (by omega)
 have hxi:i<xs.length:=by omega
 obtain⟨h1,h2⟩:=hb i hxi hl
 obtain⟨ai,ci,e1, -, -⟩:=items_rd h1
 obtain⟨ad,cd,e2⟩:=bytes_shape h2
 have hz:i<(xs.zip l).length:=by simp;omega
 have ez:(xs.zip l)[i]=(xs[i],l[i]):=by simp
 refine⟨b,off,ai,ad,ci,cd,ea,⟨e1 ▸ h1,e2 ▸ h2⟩,fun w hw=> ?_⟩
 have at':∀j,j<8→∀v,(opPCells l[i] xs[i])[j]? =some v→w.cell? ⟨b,off+i*8+j,none⟩=some v:=by
  intro j hj v hv
  have h3:=hcell (i*8+j) (by omega)
  have h4:=flat_at (fun y:(Value × Value) × OpP=>opPCells y.2 y.1) 8 (fun _=>rfl) (xs.zip l) i j hz hj
  rw [ez,hv] at h4
  rw [Nat.add_assoc]
  exact Hp.cell_le hw (h3.trans h4)
 have k5:=at' 5 (by omega) _ rfl
 have k6:=at' 6 (by omega) _ rfl
 rw [e1] at k5
 rw [e2] at k6
 exact⟨at' 0 (by omega) _ rfl,at' 1 (by omega) _ rfl,at' 2 (by omega) _ rfl,at' 3 (by omega) _ rfl,at' 4 (by omega) _ rfl,k5,k6,at' 7 (by omega) _ rfl⟩
section
variable {H:Type}{enc:TypeId × Value→H}
instance:Inhabited OpP:=⟨⟨0,0,0,default⟩⟩
def OpPI(o:OpP):Prop:=(i64P o.kind∧i64P o.n∧i64P o.k)∧PageFits o.g
theorem opP_of {W:World}{base n:Nat}{cs:List Value}{x:DataW H × List MemPlace}(h:DataW.trod enc Tryz.prog W base (fun _=>true) true n 33 cs=some x):
 ∃(o:OpP) (v:Value × Value),cs=opPCells o v∧OpPB (heapOf W) o v∧OpPI o∧(Small x.1 33→PageSized o.g):=by
 obtain⟨xs,m,rfl,rfl,hl,hlen,hf⟩:=DataW.trod_struct Tryz.underlying33 h
 rw [cells_op11] at hl
 match cs,hl with
 | [c0,c1,c2,c3,c4,c5,c6,c7],_=>
   match xs,hlen with
   | [x0,x1,x2,x3],_=>
     have f0:=hf 0 _ rfl
     have f1:=hf 1 _ rfl
     have f2:=hf 2 _ rfl
     have f3:=hf 3 _ rfl
     simp only [List.getElem?_cons_zero,List.getElem?_cons_succ] at f0 f1 f2 f3
     obtain⟨kind,rfl,hk⟩:=int_of f0
     obtain⟨nn,rfl,hn⟩:=int_of f1
     obtain⟨kk,rfl,hkk⟩:=int_of f2
     obtain⟨g,⟨vi,vd,e,h1,h2⟩,fy,sy⟩:=page_of f3
     cases e
     refine⟨⟨kind,nn,kk,g⟩,(c5,c6),rfl,⟨h1,h2⟩,⟨⟨hk,hn,hkk⟩,fy⟩,fun hw=>sy fun m hm=>hw m ?_⟩
     simp only [DataW.weights,Tryz.underlying33,List.map_cons,List.map_nil,DataW.weightsEach,List.mem_append]
     exact .inr (.inr (.inr (.inl hm)))
theorem opsP_of {W:World}{base n:Nat}{v:Value}{x:DataW H × List MemPlace}(h:DataW.trod enc Tryz.prog W base (fun _=>true) true n 22 [v]=some x):
 ∃l:List OpP,OpsP (heapOf W) v l∧(∀o∈l,OpPI o)∧(Small x.1 22→∀o∈l,PageSized o.g):=by
 obtain⟨len,n',C,D,Pl,hC,hr,hs⟩:=rows_of Tryz.underlying22 cells_op11 (by omega) h
 obtain⟨Y,hY⟩:=choose_lt (α:=OpP × Value × Value) (n:=len) (p:=fun i y=>C i=opPCells y.1 y.2∧OpPB (heapOf W) y.1 y.2∧OpPI y.1∧(Small (D i) 33→PageSized y.1.g)) (fun i hi=>by
  obtain⟨o,v,h1,h2,h3,h4⟩:=opP_of (hC i hi).2
  exact⟨(o,v),h1,h2,h3,h4⟩)
 refine⟨(List.range len).map fun i=>(Y i).1,⟨(List.range len).map fun i=>(Y i).2,by simp,?_,?_⟩,?_,?_⟩
 · rw [zip_range]
   have e1:(List.range len).flatMap C=((List.range len).map fun i=>((Y i).2,(Y i).1)).flatMap fun y=>opPCells y.2 y.1:=by
    rw [List.flatMap_map]
    exact flatMap_congr_range fun i hi=>(hY i hi).1
   rw [← e1]
   simpa using hr
 · intro i hx hl
   simp at hl
   simp only [List.getElem_map,List.getElem_range]
   exact(hY i hl).2.1
 · intro o ho
   obtain⟨i,hi,rfl⟩:=List.mem_map.1 ho
   exact(hY i (List.mem_range.1 hi)).2.2.1
 · intro hw o ho
   obtain⟨i,hi,rfl⟩:=List.mem_map.1 ho
   exact(hY i (List.mem_range.1 hi)).2.2.2 ((hs hw).2 i (List.mem_range.1 hi))
theorem open_opsP {W:World}{base:Nat}{v:Value}{d:DataW H}{p:List MemPlace}(hval:Value.okWide Tryz.prog W .any base 22 v)(h:DataW.Trod enc Tryz.prog W 0 (fun _=>true) true 22 v d p):
 ∃l:List OpP,OpsP (heapOf W) v l∧(∀o∈l,OpPI o)∧(Small d 22→∀o∈l,PageSized o.g):=by
 obtain⟨a,len,cap,rfl⟩:=okWide_slice Tryz.underlying22 hval
 obtain⟨n,hn⟩:=h
 exact opsP_of hn
end
end Go.Proofs.YtbobcmimkonnoaaGreat.Kz
namespace Go.Proofs.YtbobcmimkonnoaaGreat.Lz
open ChangeShapes WideShapes ChangeAt RowKit Sl Cop K3 G2 M2 U3 Y3 X3 P4 Kz Z6 Fy Jy Z9 Cz Ly Fz Gz Hz X9 M5 G6
structure OpPFits(o:OpP):Prop where
 k: -9223372036854775808≤o.k∧o.k≤9223372036854775807
 z:SzP o.g
 u:∀x∈o.g.items,U8 x.key
theorem begin_int(pg refs:Int)(h:rangeOk pg refs=true)(k:Nat)(hk:k≤1000000)(F:Pr)(w:World)(hF:Sat F w):
 Calls Tryz.prog 9 #[.int .i64 pg,.int .i64 refs] w fun e w'=>Stays w w'∧∃wb v r,e= .returned (.tuple #[.pointer (some ⟨wb,0,none⟩),.bool true])∧DoneH wb v r k F w':=by
 obtain⟨n1,_⟩:=rangeOk_iff.1 h
 obtain⟨n,rfl⟩:∃n:Nat,pg=n:=⟨pg.toNat,by omega⟩
 refine(begin_any n refs h k hk F w hF).mono ?_
 rintro e w' ⟨st,wb,v,r,he,ok,hs⟩
 exact⟨st,wb,v,r,he,_,ok,hs⟩
theorem do_at(wb v r k:Nat)(hp:Hp)(F:Pr)(w:World)(hd:DoneH wb v r (k+1) ((Pr.own hp).star F) w)(o:OpP)(vi vd:Value)(hb:OpPB hp o (vi,vd))(hf:OpPFits o):
 Calls Tryz.prog 10 #[.pointer (some ⟨wb,0,none⟩),.agg #[.int .i64 o.kind,.int .i64 o.n,.int .i64 o.k,.int .i64 o.g.kind,.int .i64 o.g.level,vi,vd,.int .i64 o.g.next]] w fun e w'=>e= .returned (.bool true)∧Stays w w'∧DoneH wb v r k ((Pr.own hp).star F) w':=by
 obtain⟨z,ok,hs⟩:=hd
 exact ldo_any wb v r k z ok o.kind o.n o.k hf.k o.g vi vd hp ⟨vi,vd,rfl,hb.1,hb.2⟩ hf.z hf.u F w hs.norm
theorem done_own {wb v r k:Nat}{hp:Hp}{F:Pr}{w:World}(hd:DoneH wb v r k ((Pr.own hp).star F) w):hp.le w:=by
 obtain⟨z,ok,hs⟩:=hd
 exact(hs.pull1 (A1:=(Pr.own hp).star F)).left.own
theorem done_sat {wb v r k:Nat}{F:Pr}{w:World}(hd:DoneH wb v r k F w):Sat F w:=by
 obtain⟨z,ok,hs⟩:=hd
 exact hs.end1
theorem plays_walk(pages refs:Int)(vo:Value)(ops:List OpP)(w:World)(ho:OpsP (heapOf w) vo ops)(hof:∀o∈ops,OpPFits o):
 Calls Tryz.prog 3 #[.int .i64 pages,.int .i64 refs,vo] w fun e w'=>e= .returned (.bool true)∧Sat (Pr.own (heapOf w)) w'∧Stays w w':=by
 obtain⟨ao,co,rfl,hoc,hom,rd⟩:=opsP_rd ho
 obtain⟨n,hn⟩:∃n:Nat,n=min ops.length 60:=⟨_,rfl⟩
 have hmin:min (ops.length:Int) 60=(n:Int):=by omega
 have hnc:n≤co:=by omega
 have hn2:n≤60:=by omega
 have hn3:n≤ops.length:=by omega
 have X:=hQ (lives_any ((Pr.own (heapOf w)).star Pr.emp) w ((sat_heap w).perm (Pr.star_emp _).symm))
 have RD:=hQ rd
 have HOF:=hQ hof
 obtain⟨pg,hpg⟩:∃pg:Int,(300<pages∧pg=300)∨(pages≤300∧pg=pages):=by
  by_cases h:300<pages
  · exact⟨300,.inl ⟨h,rfl⟩⟩
  · exact⟨pages,.inr ⟨by omega,rfl⟩⟩
 have BAD:=hQ (fun(h:rangeOk pg refs=false) (wx:World)=>begin_bad pg refs h wx)
 have GOOD:=hQ (fun(h:rangeOk pg refs=true) (wx:World) hF=>begin_int pg refs h 60 (by omega) ((Pr.own (heapOf w)).star Pr.emp) wx hF)
 clear ho hoc hom hn rd hof
 rcases hpg with⟨hp3,rfl⟩ | ⟨hp3,rfl⟩
 all_goals
  go_enter Tryz.func3,Tryz.ntmps3
  go_wp2_with (first | refine wpList_min rfl _ _ rfl rfl (ops.length:Int) 60 (n:Int) hmin.symm rfl rfl ?_ | refine wpList_slice_to rfl 22 33 _ _ rfl Tryz.underlying22 8 (fun w=>by go_simp) ao ops.length co n hnc rfl rfl ?_)
  refine X.out.mono ?_
  rintro e w1 ⟨rfl,st1,hs1⟩
  have HST:=hQ st1
  have HS1:=hQ hs1
  clear X st1 hs1
  cases hrg:rangeOk _ refs with
  | false=>
    have B:=hQ (BAD.out hrg w1)
    clear hrg BAD GOOD
    go_wp2_with fail
    refine B.out.mono ?_
    rintro e w2 ⟨rfl,rfl⟩
    go_wp2
    go_ret
    exact⟨rfl,HS1.out.left,HST.out⟩
  | true=>
    have B:=hQ (GOOD.out hrg w1 HS1.out)
    clear hrg BAD GOOD HS1
    go_wp2_with fail
    refine B.out.mono ?_
    rintro e w2 ⟨st2,wb,v,r,rfl,hd⟩
    have HD:=hQ hd
    have HST2:=hQ (HST.out.trans st2)
    clear hd st2 B HST
    go_wp2_with fail
    go_loopw [9] (fun i wr=> ∃k:Nat,k≤n∧i= .int .i64 k∧Stays w wr∧Hid (DoneH wb v r (60-k) ((Pr.own (heapOf w)).star Pr.emp) wr)) (fun i _=>n-(intOf i).toNat)
    case atStart=>exact⟨0,Nat.zero_le _,rfl,HST2.out,HD⟩
    case round=>
     obtain⟨i,hi,rfl,hst,hd⟩:=hrel
     clear HD HST2
     rcases Nat.lt_or_ge i n with hlt | hge
     · have hio:i<ops.length:=by omega
       obtain⟨b,off,ai,ad,ci,cd,rfl,ob,cells⟩:=RD.out i hio
       have hf:=HOF.out ops[i] (List.getElem_mem hio)
       have k8:=cells wr (done_own hd.out)
       have z0:=World.block_lt_of_cell? _ _ k8.1
       have D:=hQ (do_at wb v r (60-i-1) (heapOf w) Pr.emp wr (by rw [show 60-i-1+1=60-i by omega];exact hd.out) ops[i] _ _ ob hf)
       have HST3:=hQ hst
       clear cells ob hf hd hst
       generalize ops[i]=O at*
       go_wp2_with fail
       refine D.out.mono ?_
       rintro e w3 ⟨rfl,st3,hd3⟩
       have HD3:=hQ hd3
       have HST4:=hQ (HST3.out.trans st3)
       clear k8 z0 D HST3 hd3 st3
       go_wp2
       go_roundw
       case rel=>exact⟨i+1,by omega,congrArg (Value.int .i64) (by omega),HST4.out,by rw [show 60-(i+1)=60-i-1 by omega];exact HD3⟩
       case measure=>simp [intOf];omega
     · have hin:i=n:=by omega
       subst hin
       have A:=hQ (all_any wb v r (60-i) _ wr hd.out)
       have HST3:=hQ hst
       clear hd hst
       go_wp2_with fail
       refine A.out.mono ?_
       rintro e w3 ⟨rfl,st3,hd3⟩
       have HD3:=hQ hd3
       have HST4:=hQ (HST3.out.trans st3)
       clear A HST3 hd3 st3
       go_wp2
       go_ret
       exact⟨rfl,(done_sat HD3.out).left,HST4.out⟩
end Go.Proofs.YtbobcmimkonnoaaGreat.Lz
