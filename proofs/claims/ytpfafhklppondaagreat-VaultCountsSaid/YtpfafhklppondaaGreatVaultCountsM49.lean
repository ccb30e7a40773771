/- The law's lives; the conditions stand as hypotheses. -/
import Derived.Test.YtpfafhklppondaaGreatVaultCountsM40
import Derived.Test.YtpfafhklppondaaGreatVaultCountsM43
import Derived.Test.YtpfafhklppondaaGreatVaultCountsM46
import Derived.Lib.SmallJoins
import Derived.Test.YtpfafhklppondaaGreatVaultCountsM39
import Derived.Test.YtpfafhklppondaaGreatVaultCountsM34
import Derived.Test.YtpfafhklppondaaGreatVaultCountsM01
set_option maxRecDepth 100000
set_option maxHeartbeats 16000000
namespace Go.Proofs.YtpfafhklppondaaGreat.Dx
open M6 E5 ChangeShapes WideShapes ChangeAt RowKit Sl Cop M2 P3 X3 G4 Q2 X2 J4 L4 D5 P4 Q6 Y6 V9 Xy Az J7 Bz C9 Q8 Dz Fz Ax Qz Bx Sy
abbrev cO(c:Int):Obj:= .cells #[.int .u8 c] 5 (1,2)
abbrev iO(N:Nat):Obj:= .cells #[.slice (some ⟨N,0,none⟩) 1 1,.slice none 0 0,.int .i64 0,.int .i64 0] 49
abbrev jO(N:Nat):Obj:= .cells #[.slice none 0 0,.slice none 0 0,.int .i64 1,.int .i64 0,.slice (some ⟨N,0,none⟩) 1 1,.slice none 0 0,.int .i64 2,.int .i64 0] 49
theorem const_in {N:Nat}{c:Int}{h:Hp}(ha:Pr.pts N (cO c) h):Bytes h (.slice (some ⟨N,0,none⟩) 1 1) [c]:=
 ⟨by simp,_,_,rfl,Nat.le_refl _,by simp [maxLen],fun _=>⟨_,_,rfl,fun i hi=>by
   have:i=0:=by simp at hi;omega
   subst this
   show h.cell _ _=_
   rw [ha]
   simp [Hp.cell]⟩⟩
theorem leaf_in {N M:Nat}{c:Int}{h:Hp}(hh:((Pr.pts N (cO c)).star (Pr.pts M (iO N))) h):PageIn h (pageV 1 0 (.slice (some ⟨M,0,none⟩) 1 1) (.slice none 0 0) 0) (leafG c):=by
 obtain⟨a,b,ha,hb,s1,s2⟩:=star_sub hh;refine⟨_,_,rfl,items_mk' [(.slice (some ⟨N,0,none⟩) 1 1,.slice none 0 0)] rfl ((pts_rowIn (xs:= [.slice (some ⟨N,0,none⟩) 1 1,.slice none 0 0,.int .i64 0,.int .i64 0]) hb rfl rfl (by simp [maxLen])).sub s2) fun i hx hl=> ?_,RowIn.nil _ _⟩;have:i=0:=by simp at hx;omega
 subst this;exact⟨(const_in ha).sub s1,RowIn.nil _ _⟩
theorem index_in {N M:Nat}{h:Hp}(hh:((Pr.pts N (cO 109)).star (Pr.pts M (jO N))) h):PageIn h (pageV 2 1 (.slice (some ⟨M,0,none⟩) 2 2) (.slice none 0 0) 0) indexG:=by
 obtain⟨a,b,ha,hb,s1,s2⟩:=star_sub hh;refine⟨_,_,rfl,items_mk' [(.slice none 0 0,.slice none 0 0),(.slice (some ⟨N,0,none⟩) 1 1,.slice none 0 0)] rfl ((pts_rowIn (xs:= [.slice none 0 0,.slice none 0 0,.int .i64 1,.int .i64 0,.slice (some ⟨N,0,none⟩) 1 1,.slice none 0 0,.int .i64 2,.int .i64 0]) hb rfl rfl (by simp [maxLen])).sub s2) fun i hx hl=> ?_,RowIn.nil _ _⟩;have:i=0∨i=1:=by simp at hx;omega
 rcases this with rfl | rfl
 · exact⟨RowIn.nil _ _,RowIn.nil _ _⟩
 · exact⟨(const_in ha).sub s1,RowIn.nil _ _⟩
section
variable(wb v r k:Nat)(z:LawS)
theorem law_pack {T:List Pr}{w:World}(h:OwnL (lawL wb v r z T) w):OwnL (lawL wb v r z [starL T]) w:=⟨h.sat.perm (by simp only [starL,Pr.star_emp])⟩
theorem law_pack1 {A:Pr}{T:List Pr}{w:World}(h:OwnL (lawL wb v r z (A :: T)) w):OwnL (lawL wb v r z [A,starL T]) w:=⟨h.sat.perm (by simp only [starL,Pr.star_emp])⟩
theorem law_open {T:List Pr}{w:World}(h:OwnL (lawL wb v r z [starL T]) w):OwnL (lawL wb v r z T) w:=⟨h.sat.perm (by simp only [starL,Pr.star_emp])⟩
def DoneT(P:VaultS→Prop)(T:List Pr)(w:World):Prop:= ∃z,LOK z k∧P z.s∧OwnL (lawL wb v r z T) w
theorem doneT_of {P:VaultS→Prop}{T:List Pr}{w:World}(h:DoneP wb v r k P (starL T) w):DoneT wb v r k P T w:=by
 obtain⟨z,ok,hp,hs⟩:=h;exact⟨z,ok,hp,law_open _ _ _ _ hs⟩
theorem call_make(ok:LOK z (k+1))(g:PageV)(vi vd:Value)(hp:Hp)(hpg:PageIn hp (pageV g.kind g.level vi vd g.next) g)(hz:SzP g)(hu:∀x∈g.items,U8 x.key)(P:VaultS→Prop)(hP:∀a b s' H',QMake z.s z.H g a b s' H'→P s')(T:List Pr)(w:World)(hs:OwnL (lawL wb v r z (Pr.own hp :: T)) w):
 Calls Tryz.prog 27 #[.pointer (some ⟨wb,0,none⟩),.agg #[.int .i64 0,.int .i64 0,.int .i64 0,.int .i64 g.kind,.int .i64 g.level,vi,vd,.int .i64 g.next]] w fun e w'=>e= .returned (.bool true)∧Stays w w'∧DoneT wb v r k P (Pr.own hp :: T) w':=by
 refine(do0_tell wb v r k z ok 0 0 g vi vd hp hpg hz hu P hP (starL T) w (law_pack1 _ _ _ _ hs)).mono ?_;rintro e w' ⟨h1,h2,h3⟩;exact⟨h1,h2,doneT_of wb v r k (T:=Pr.own hp :: T) h3⟩
theorem call_keep(ok:LOK z (k+1))(n:Int)(P:VaultS→Prop)(hP:∀b s' H',QKeep z.s z.H n b s' H'→P s')(T:List Pr)(w:World)(hs:OwnL (lawL wb v r z T) w):
 Calls Tryz.prog 27 #[.pointer (some ⟨wb,0,none⟩),.agg #[.int .i64 4,.int .i64 n,.int .i64 0,.int .i64 0,.int .i64 0,.slice none 0 0,.slice none 0 0,.int .i64 0]] w fun e w'=>e= .returned (.bool true)∧Stays w w'∧DoneT wb v r k P T w':=by
 refine(do4_tell wb v r k z ok 4 n 0 0 0 0 none none 0 0 0 0 (by omega) rfl P hP (starL T) w (law_pack _ _ _ _ hs)).mono ?_;rintro e w' ⟨h1,h2,h3⟩;exact⟨h1,h2,doneT_of wb v r k h3⟩
theorem call_shadow(ok:LOK z (k+1))(n:Int)(P:VaultS→Prop)(hP:∀a b s' H',QShadow z.s z.H n a b s' H'→P s')(T:List Pr)(w:World)(hs:OwnL (lawL wb v r z T) w):
 Calls Tryz.prog 27 #[.pointer (some ⟨wb,0,none⟩),.agg #[.int .i64 2,.int .i64 n,.int .i64 0,.int .i64 0,.int .i64 0,.slice none 0 0,.slice none 0 0,.int .i64 0]] w fun e w'=>e= .returned (.bool true)∧Stays w w'∧DoneT wb v r k P T w':=by
 refine(do2_tell wb v r k z ok 2 n 0 0 0 0 none none 0 0 0 0 (by omega) rfl P hP (starL T) w (law_pack _ _ _ _ hs)).mono ?_;rintro e w' ⟨h1,h2,h3⟩;exact⟨h1,h2,doneT_of wb v r k h3⟩
end
theorem lives_any(F:Pr)(w:World)(hF:Sat F w):
 Calls Tryz.prog 6 #[] w fun e w'=>e= .returned (.bool true)∧Stays w w'∧Sat F w':=by
 have B:=hQ (begin_any 6 3 (by decide) 1000 (by omega) F w hF);clear hF;go_enter Tryz.func6,Tryz.ntmps6
 go_wp2_with fail
 refine B.out.mono ?_;rintro e w1 ⟨st1,wb,v,r,rfl,ok,hs⟩;obtain⟨N,hN⟩:∃N,w1.heap.size=N:=⟨_,rfl⟩;obtain⟨wA,hwA⟩:∃wA,wA=((w1.alloc (cO 97)).alloc (iO N)).alloc (pageC 1 0 (.slice (some ⟨N+1,0,none⟩) 1 1) (.slice none 0 0) 0):=⟨_,rfl⟩;obtain⟨wB,hwB⟩:∃wB,wB=((wA.alloc (cO 112)).alloc (iO (N+1+1+1))).alloc (pageC 1 0 (.slice (some ⟨N+1+1+1+1,0,none⟩) 1 1) (.slice none 0 0) 0):=⟨_,rfl⟩
 obtain⟨wC,hwC⟩:∃wC,wC=((wB.alloc (cO 109)).alloc (jO (N+1+1+1+1+1+1))).alloc (pageC 2 1 (.slice (some ⟨N+1+1+1+1+1+1+1,0,none⟩) 2 2) (.slice none 0 0) 0):=⟨_,rfl⟩;have sA:wA.heap.size=N+1+1+1:=by rw [hwA, ← hN];simp
 have sB:wB.heap.size=N+1+1+1+1+1+1:=by rw [hwB, ← sA];simp
 have hcvA:=Go.Joins.run_convert_bytes_const_at (P:=Tryz.prog) w1 35 5 #[.int .u8 97] 1 1 N hN.symm Tryz.underlying35 Tryz.underlying5;have hcvB:=Go.Joins.run_convert_bytes_const_at (P:=Tryz.prog) wA 35 5 #[.int .u8 112] 1 1 (N+1+1+1) sA.symm Tryz.underlying35 Tryz.underlying5
 have hcvC:=Go.Joins.run_convert_bytes_const_at (P:=Tryz.prog) wB 35 5 #[.int .u8 109] 1 1 (N+1+1+1+1+1+1) sB.symm Tryz.underlying35 Tryz.underlying5;have es:∀(u:World) (o:Obj),(u.alloc o).heap.size=u.heap.size+1:=fun u o=>by simp
 have h3:=((hs.alloc (cO 97)).alloc (iO N)).alloc (pageC 1 0 (.slice (some ⟨N+1,0,none⟩) 1 1) (.slice none 0 0) 0);simp only [es,hN] at h3;rw [← hwA] at h3;have h6:=((h3.alloc (cO 112)).alloc (iO (N+1+1+1))).alloc (pageC 1 0 (.slice (some ⟨N+1+1+1+1,0,none⟩) 1 1) (.slice none 0 0) 0);simp only [es,sA] at h6;rw [← hwB] at h6
 have h9:=((h6.alloc (cO 109)).alloc (jO (N+1+1+1+1+1+1))).alloc (pageC 2 1 (.slice (some ⟨N+1+1+1+1+1+1+1,0,none⟩) 2 2) (.slice none 0 0) 0);simp only [es,sB] at h9;rw [← hwC] at h9
 have stC:Stays w wC:=by
  rw [hwC,hwB,hwA];exact(((((((((st1.alloc _).alloc _).alloc _).alloc _).alloc _).alloc _).alloc _).alloc _).alloc _)
 have HST:=hQ stC;have HOK:=hQ ok;have HS:=hQ h9;rw [hwB,hwA] at hwC;rw [hwB,hwA] at hcvC;rw [hwA] at hcvB;have c1:=h9.facts;simp only [CellsAt,Nat.reduceAdd,and_true] at c1;rw [hwC] at c1;have HWC:=hQ hwC;clear h3 h6 h9 hs ok stC st1 B es hwC hwB hwA sA sB;go_wp2_with fail
 rw [← HWC.out];have hs0:=HS.out;obtain⟨hA,haA,hs1⟩:=(hs0.join2 (Pr.pts N (cO 97)) (Pr.pts (N+1) (iO N))).arena ((Pr.pts N (cO 97)).star (Pr.pts (N+1) (iO N)));obtain⟨hB,haB,hs2⟩:=(hs1.join2 (Pr.pts (N+1+1+1) (cO 112)) (Pr.pts (N+1+1+1+1) (iO (N+1+1+1)))).arena ((Pr.pts (N+1+1+1) (cO 112)).star (Pr.pts (N+1+1+1+1) (iO (N+1+1+1))))
 obtain⟨hC,haC,hs3⟩:=(hs2.join2 (Pr.pts (N+1+1+1+1+1+1) (cO 109)) (Pr.pts (N+1+1+1+1+1+1+1) (jO (N+1+1+1+1+1+1)))).arena ((Pr.pts (N+1+1+1+1+1+1) (cO 109)).star (Pr.pts (N+1+1+1+1+1+1+1) (jO (N+1+1+1+1+1+1))));have PB:=hQ (leaf_in haB);have PC:=hQ (index_in haC)
 have hs4:OwnL (lawL wb v r (zNew 3 6) [Pr.own hA,Pr.own hB,Pr.own hC,Pr.pts (N+1+1+1+1+1) (pageC 1 0 (.slice (some ⟨N+1+1+1+1,0,none⟩) 1 1) (.slice none 0 0) 0),Pr.pts (N+1+1+1+1+1+1+1+1) (pageC 2 1 (.slice (some ⟨N+1+1+1+1+1+1+1,0,none⟩) 2 2) (.slice none 0 0) 0),F]) wC:=hs3.to;generalize N+1+1+1+1+1+1+1+1=N8 at*;generalize N+1+1+1+1+1+1+1=N7 at*;generalize N+1+1+1+1+1=N5 at*
 generalize N+1+1+1+1=N4 at*;generalize N+1=N1 at*;have C1:=hQ (call_make wb v r 999 (zNew 3 6) HOK.out (leafG 97) _ _ hA (leaf_in haA) (sz_leaf 97) u8_a (fun s=>LiveS s [1,0,0,0,0,0]) (fun a b s' H' hq=>(live_make live_zero check_a (i:=0) (by omega) rfl (fun j hj=>absurd hj (by omega)) hq).1) _ _ hs4);clear hs0 hs1 hs2 hs3 hs4 haA haB haC HOK HS hcvA hcvB hcvC c1 HWC;refine C1.out.mono ?_
 rintro e w2 ⟨rfl,st2,z1,ok1,p1,hs5⟩;have HST2:=hQ (HST.out.trans st2);have c1:=hs5.facts;simp only [CellsAt,Nat.reduceAdd,and_true] at c1
 have C2:=hQ (call_make wb v r 998 z1 ok1 (leafG 112) _ _ hB PB.out (sz_leaf 112) u8_p (fun s=>LiveS s [1,1,0,0,0,0]) (fun a b s' H' hq=>(live_make p1 check_p (i:=1) (by omega) rfl (fun j hj=>by
  obtain rfl:j=0:=by omega
  decide) hq).1) [Pr.own hA,Pr.own hC,Pr.pts N5 (pageC 1 0 (.slice (some ⟨N4,0,none⟩) 1 1) (.slice none 0 0) 0),Pr.pts N8 (pageC 2 1 (.slice (some ⟨N7,0,none⟩) 2 2) (.slice none 0 0) 0),F] _ hs5.to)
 clear st2 ok1 p1 hs5 C1 HST PB;go_wp2_with fail
 refine C2.out.mono ?_;rintro e w3 ⟨rfl,st3,z2,ok2,p2,hs6⟩;have HST3:=hQ (HST2.out.trans st3);clear c1;have c1:=hs6.facts;simp only [CellsAt,Nat.reduceAdd,and_true] at c1
 have C3:=hQ (call_make wb v r 997 z2 ok2 indexG _ _ hC PC.out sz_index u8_i (fun s=>LiveS s [1,1,1,0,0,0]∧s.on 3=some indexG) (fun a b s' H' hq=>by
  obtain⟨g1,g2⟩:=live_make p2 check_i (i:=2) (by omega) rfl (fun j hj=>by
   have:j=0∨j=1:=by omega
   rcases this with rfl | rfl<;>decide) hq
  exact⟨g1,(g2 3).trans (if_pos rfl)⟩) [Pr.own hA,Pr.own hB,Pr.pts N5 (pageC 1 0 (.slice (some ⟨N4,0,none⟩) 1 1) (.slice none 0 0) 0),Pr.pts N8 (pageC 2 1 (.slice (some ⟨N7,0,none⟩) 2 2) (.slice none 0 0) 0),F] _ hs6.to)
 clear st3 ok2 p2 hs6 C2 HST2 PC;go_wp2_with fail
 refine C3.out.mono ?_;rintro e w4 ⟨rfl,st4,z3,ok3,⟨p3,q3⟩,hs7⟩;have HST4:=hQ (HST3.out.trans st4)
 have C4:=hQ (call_keep wb v r 996 z3 ok3 3 (fun s=>LiveS s [1,1,2,0,0,0]∧s.on 3=some indexG) (fun b s' H' hq=>by
  obtain⟨g1,g2⟩:=live_keep p3 (i:=2) (by omega) (by decide) (by decide) hq
  exact⟨g1,(g2 3).trans q3⟩) [F] _ hs7.to)
 clear c1 st4 ok3 p3 q3 hs7 C3 HST3;go_wp2_with fail
 refine C4.out.mono ?_;rintro e w5 ⟨rfl,st5,z4,ok4,⟨p4,q4⟩,hs8⟩;have HST5:=hQ (HST4.out.trans st5);have C5:=hQ (call_shadow wb v r 995 z4 ok4 3 (fun s=>LiveS s [2,2,1,1,0,0]) (fun a b s' H' hq=>live_shadow p4 q4 kids_i hq) [F] _ hs8);clear st5 ok4 p4 q4 hs8 C4 HST4;go_wp2_with fail
 refine C5.out.mono ?_;rintro e w6 ⟨rfl,st6,z5,ok5,p5,hs9⟩;have HST6:=hQ (HST5.out.trans st6);obtain⟨x,okx,hs10⟩:=vault_open (v:=v) (s:=z5.s) hs9;have c1:=hs10.facts;simp only [CellsAt,Nat.reduceAdd,and_true] at c1;have M1:=hQ (count_A x.p z5.s.pool 1 _ _ (hs10.pull1 (A1:=PoolA x.p z5.s.pool)));have M4:=hQ (count_A x.p z5.s.pool 4 _ _ (hs10.pull1 (A1:=PoolA x.p z5.s.pool)))
 rw [show z5.s.pool.count 1=2 from p5.count (i:=0) (by omega)] at M1;rw [show z5.s.pool.count 4=1 from p5.count (i:=3) (by omega)] at M4;have A:=hQ (all_any wb v r 995 F w6 ⟨z5,ok5,hs9⟩);clear st6 ok5 p5 hs9 hs10 okx C5 HST5;go_wp2_with fail
 refine M1.out.mono ?_;rintro e w7 ⟨rfl,rfl⟩;go_wp2_with fail
 refine M4.out.mono ?_;rintro e w7 ⟨rfl,rfl⟩;clear c1;go_wp2_with fail
 refine A.out.mono ?_;rintro e w7 ⟨rfl,st7,z6,ok6,hs11⟩;have HST7:=hQ (HST6.out.trans st7);have HF:=hQ (hs11.end1 (A1:=F));clear st7 ok6 hs11 A M1 M4;go_wp2;go_ret;exact⟨rfl,HST7.out,HF.out⟩
end Go.Proofs.YtpfafhklppondaaGreat.Dx
namespace Go.Proofs.YtpfafhklppondaaGreat.Ex
open ChangeShapes WideShapes ChangeAt RowKit Sl Cop M2 P3 X3 G4 Q2 X2 J4 L4 P4 Q6 Y6 E5 M6 Dx Sy
abbrev mP:Obj:= .cells #[.int .u8 109] 5 (1,2)
abbrev jP(ra rb:Int)(B:Nat):Obj:= .cells #[.slice none 0 0,.slice none 0 0,.int .i64 ra,.int .i64 0,.slice (some ⟨B,0,none⟩) 1 1,.slice none 0 0,.int .i64 rb,.int .i64 0] 49
theorem index_page {N M:Nat}{l ra rb:Int}{h:Hp}(hh:((Pr.pts M (jP ra rb N)).star (Pr.pts N mP)) h):PageIn h (pageV 2 (l+1) (.slice (some ⟨M,0,none⟩) 2 2) (.slice none 0 0) 0) (indexP l ra rb):=by
 obtain⟨b,a,hb,ha,s2,s1⟩:=star_sub hh;refine⟨_,_,rfl,items_mk' [(.slice none 0 0,.slice none 0 0),(.slice (some ⟨N,0,none⟩) 1 1,.slice none 0 0)] rfl ((pts_rowIn (xs:= [.slice none 0 0,.slice none 0 0,.int .i64 ra,.int .i64 0,.slice (some ⟨N,0,none⟩) 1 1,.slice none 0 0,.int .i64 rb,.int .i64 0]) hb rfl rfl (by simp [maxLen])).sub s2) fun i hx hl=> ?_,RowIn.nil _ _⟩
 have:i=0∨i=1:=by simp at hx;omega
 rcases this with rfl | rfl
 · exact⟨RowIn.nil _ _,RowIn.nil _ _⟩
 · exact⟨(const_in ha).sub s1,RowIn.nil _ _⟩
end Go.Proofs.YtpfafhklppondaaGreat.Ex
