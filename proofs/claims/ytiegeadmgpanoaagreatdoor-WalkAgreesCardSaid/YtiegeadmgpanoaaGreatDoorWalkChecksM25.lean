/- The document's Kept at what has been kept; the conditions stand as hypotheses. -/
import Derived.Test.YtiegeadmgpanoaaGreatDoorWalkChecksM23
import Derived.Test.YtiegeadmgpanoaaGreatDoorWalkChecksM03
import Derived.Test.YtiegeadmgpanoaaGreatDoorWalkChecksM15
import Derived.Test.YtiegeadmgpanoaaGreatDoorWalkChecksM05
import Derived.Deep.CutRange
import Derived.Test.YtiegeadmgpanoaaGreatDoorWalkChecksM22
import Derived.Test.YtiegeadmgpanoaaGreatDoorWalkChecksM16
import Derived.Test.YtiegeadmgpanoaaGreatDoorWalkChecksM21
import Derived.Test.YtiegeadmgpanoaaGreatDoorWalkChecksM13
import Derived.Test.YtiegeadmgpanoaaGreatDoorWalkChecksM11
import Derived.BigQuiet
import Derived.Deep.QuietTactic
import Derived.Lib.SmallJoins
import Derived.Test.YtiegeadmgpanoaaGreatDoorWalkChecksM17
import Derived.Test.YtiegeadmgpanoaaGreatDoorWalkChecksM01
set_option maxRecDepth 100000
set_option maxHeartbeats 16000000
namespace Go.Proofs.YtiegeadmgpanoaaGreatDoor.Y6
open ChangeShapes WideShapes ChangeAt RowKit Sl Cop F3 P3 G2 J2 N2 Q3 V3 X3 E4 U6
end Go.Proofs.YtiegeadmgpanoaaGreatDoor.Y6
namespace Go.Proofs.YtiegeadmgpanoaaGreatDoor.Z6
open ChangeShapes WideShapes ChangeAt RowKit Sl Cop F3 P3 G2 J2 N2 Q3 V3 X3 M5 E4 U6 Y6
end Go.Proofs.YtiegeadmgpanoaaGreatDoor.Z6
namespace Go.Proofs.YtiegeadmgpanoaaGreatDoor.B7
open ChangeShapes WideShapes ChangeAt RowKit Sl Cop F3 P3 G2 J2 N2 Q3 V3 X3 M5 P5 U6 Y6
abbrev It:=(Value × Value) × ItemV
abbrev ZRow(b n c:Nat)(zs:List It):Pr:=Row 89 4 (.slice (some ⟨b,0,none⟩) n c) n (zs.flatMap itCells)
def zeroZ:It:=((.slice none 0 0,.slice none 0 0),⟨[],[],0,0⟩)
def kvOf(p:Nat × Nat)(x:ItemV):Value × Value:=(.slice (some ⟨p.1,0,none⟩) x.key.length (x.key.length+64),.slice (some ⟨p.2,0,none⟩) x.value.length (x.value.length+64))
def extZ(i:Nat):It:=((.slice none 0 0,.slice none 0 0),⟨[],[], -5-(i:Int), -9⟩)
def spZ(bs:List (Nat × Nat))(its:List ItemV)(k i:Nat):It:=if i<k then(if h:i<its.length then(kvOf (bs.getD i (0,0)) its[i],its[i]) else extZ i) else zeroZ
def spL(bs:List (Nat × Nat))(its:List ItemV)(k:Nat):List It:=(List.range (its.length+2)).map (spZ bs its k)
def wholeOf(p:(Nat × Nat) × ItemV):Pr:=(WholeRow p.1.1 p.2.key).star (WholeRow p.1.2 p.2.value)
structure SpX where
 ib:Nat
 db:Nat
 bs:List (Nat × Nat)
def SpX.pv(x:SpX)(g:PageV):Value:=pageV g.kind g.level (.slice (some ⟨x.ib,0,none⟩) g.items.length (g.items.length+2)) (.slice (some ⟨x.db,0,none⟩) g.data.length (g.data.length+64)) g.next
abbrev SpRow(ib:Nat)(bs:List (Nat × Nat))(its:List ItemV):Pr:=ZRow ib (its.length+2) (its.length+2) (spL bs its (its.length+2))
abbrev SpRows(x:SpX)(g:PageV):Pr:=(SpRow x.ib x.bs g.items).star ((big wholeOf (x.bs.zip g.items)).star (WholeRow x.db g.data))
end Go.Proofs.YtiegeadmgpanoaaGreatDoor.B7
namespace Go.Proofs.YtiegeadmgpanoaaGreatDoor.C7
open ChangeShapes WideShapes ChangeAt RowKit Sl Cop F3 P3 G2 J2 N2 Q3 V3 X3 M5 P5 U6 Y6 B7
structure SzP(g:PageV):Prop where
 n:g.items.length≤2199023255488
 k:∀x∈g.items,x.key.length≤140737488351232∧x.value.length≤140737488351232
 d:g.data.length≤140737488351232
end Go.Proofs.YtiegeadmgpanoaaGreatDoor.C7
namespace Go.Proofs.YtiegeadmgpanoaaGreatDoor.D7
open ChangeShapes WideShapes ChangeAt RowKit Sl Cop G2 J2 Q3 V3 X3 M5 K5 G6 J6 L6 T6
end Go.Proofs.YtiegeadmgpanoaaGreatDoor.D7
namespace Go.Proofs.YtiegeadmgpanoaaGreatDoor.E7
open ChangeShapes WideShapes ChangeAt RowKit Sl Cop L3 P3 G4 J4 F6 J6 P6 L6 T6
structure Right(cs:List Int)(on:Int→Option PageV):Prop where
 ok:OnOk cs on
 full:∀n,cntL cs n≠0→∃g,on n=some g
 n2:cs.length≤65536
theorem right_load {refs:Int}{cs:List Int}{l:List NumV}(h:(loadE refs cs l).1=0):Right cs (loadE refs cs l).2:=by
 unfold loadE at h ⊢;split at h
 · cases h
 · rename_i hr
   rw [if_neg hr];have hr2:rangeOk cs.length refs=true:=by simpa using hr
   split at h
   · cases h
   · rename_i hb
     rw [if_neg hb];split at h
     · rename_i h1;exact absurd h h1
     · rename_i h1
       rw [if_neg h1];split at h
       · cases h
       · rename_i h2
         rw [if_neg h2];refine⟨lay_ok (OnOk.none cs),fun n hn=> ?_,by have:=Go.Proofs.YtiegeadmgpanoaaGreatDoor.J5.rangeOk_iff.1 hr2;omega⟩;cases ho:(lay cs l fun _=>none).2 n with
         | some g=>exact⟨g,rfl⟩
         | none=>exact absurd (lacks_iff.2 ⟨n,held_mem.2 hn,ho⟩) h2
theorem look_some {cs:List Int}{on:Int→Option PageV}(h:Right cs on){n:Int}{g:PageV}(hg:lookL cs on n=some g):cntL cs n≠0∧on n=some g∧Fit g:=by
 unfold lookL at hg;split at hg
 · cases hg
 · rename_i hc
   obtain⟨g2,h2⟩:=h.full n hc;rw [h2] at hg;cases hg;exact⟨hc,h2,h.ok.fit n _ h2⟩
theorem look_none {cs:List Int}{on:Int→Option PageV}{n:Int}(hg:lookL cs on n=none):cntL cs n=0:=by
 unfold lookL at hg;split at hg
 · assumption
 · cases hg
theorem looks_of {refs:Int}{cs:List Int}{on:Int→Option PageV}(h:Right cs on):Looks (loadV refs cs on) (lookL cs on):=by
 constructor
 · intro n hn
   exact(count_poolOf refs cs n).trans (look_none hn)
 · intro n g hg
   obtain⟨h1,h2,h3⟩:=look_some h hg;have hb:=cntL_bd h1;have:=h.n2
   exact⟨by omega,by rw [show (loadV refs cs on).pool.count n=cntL cs n from count_poolOf refs cs n];exact h1,h2,h3⟩
theorem rlooks_of {refs:Int}{cs:List Int}{on:Int→Option PageV}(h:Right cs on):RLooks (poolOf refs cs 0) (pgsOf cs.length on) (lookL cs on):=by
 constructor
 · intro n hn
   exact(count_poolOf refs cs n).trans (look_none hn)
 · intro n g hg
   obtain⟨h1,h2,h3⟩:=look_some h hg;obtain⟨b1,b2⟩:=cntL_bd h1;refine⟨by rw [show (poolOf refs cs 0).count n=cntL cs n from count_poolOf refs cs n];exact h1,?_,h3⟩;unfold pgAt pgsOf;rw [List.getD_eq_getElem?_getD,List.getElem?_map,List.getElem?_range (by omega)];simp only [Option.map_some,Option.getD_some];rw [show (((n.toNat-1:Nat):Int))+1=n by omega,h2];rfl
end Go.Proofs.YtiegeadmgpanoaaGreatDoor.E7
namespace Go.Proofs.YtiegeadmgpanoaaGreatDoor.F7
open ChangeShapes WideShapes ChangeAt RowKit Sl Cop F3 P3 G2 J2 N2 Q3 V3 X3 M5 G6 Q6 U6 Y6 Z6 L6 S6 T6 D7
def x17(z:Int):Int:=bits .xor .u8 z 17
def xorK(k:Nat)(l:List Int):List Int:=(l.take k).map x17++l.drop k
abbrev XRow(b k:Nat)(l:List Int):Pr:=Row 5 1 (.slice (some ⟨b,0,none⟩) (l.length+64) (l.length+64)) (l.length+64) ((spareL (xorK k l)).map (Value.int .u8))
end Go.Proofs.YtiegeadmgpanoaaGreatDoor.F7
namespace Go.Proofs.YtiegeadmgpanoaaGreatDoor.G7
open ChangeShapes WideShapes ChangeAt RowKit Sl Cop F3 G2 J2 Q3 V3 X3 J4 U6 Y6 B7 C7 E7
structure NX where
 n:NumV
 x:SpX
def nxV(y:NX):Value × Value:=(.slice (some ⟨y.x.ib,0,none⟩) y.n.page.items.length (y.n.page.items.length+2),.slice (some ⟨y.x.db,0,none⟩) y.n.page.data.length (y.n.page.data.length+64))
def nxCells(y:NX):List Value:= [.int .i64 y.n.no,.int .i64 y.n.page.kind,.int .i64 y.n.page.level,(nxV y).1,(nxV y).2,.int .i64 y.n.page.next]
def nxOf(y:NX):Pr:=SpRows y.x y.n.page
def NxOk(y:NX):Prop:=y.x.bs.length=y.n.page.items.length
structure WX where
 n:NumV
 vi:Value
 vd:Value
 h:Hp
def wxCells(y:WX):List Value:= [.int .i64 y.n.no,.int .i64 y.n.page.kind,.int .i64 y.n.page.level,y.vi,y.vd,.int .i64 y.n.page.next]
def wxOf(y:WX):Pr:=Pr.own y.h
def WxOk(y:WX):Prop:=ItemsIn y.h y.vi y.n.page.items∧Bytes y.h y.vd y.n.page.data
abbrev NxRow(v:Value)(n:Nat)(ys:List NX):Pr:=Row 91 6 v n (ys.flatMap nxCells)
abbrev WxRow(v:Value)(n:Nat)(ys:List WX):Pr:=Row 91 6 v n (ys.flatMap wxCells)
abbrev IRow(b n:Nat)(zs:List Int):Pr:=Row 3 1 (.slice (some ⟨b,0,none⟩) (n+64) (n+64)) (n+64) (zs.map (Value.int .i64))
end Go.Proofs.YtiegeadmgpanoaaGreatDoor.G7
namespace Go.Proofs.YtiegeadmgpanoaaGreatDoor.J7
open ChangeShapes WideShapes ChangeAt RowKit Sl Cop D2 F3 K3 P3 G2 J2 N2 Q3 V3 G4 G5 X3 M5 G6 J6 Q5 L6 T6 F7
theorem fit_zero:Fit zeroP:=⟨by simp,by simp,fun x hx=>by cases hx⟩
theorem zero_in:PageIn Hp.nil zeroPage zeroP:=⟨_,_,rfl,items_mk (Nat.zero_le _),RowIn.nil _ _⟩
theorem vread_any(v:Nat)(s:VaultS)(look:Int→Option PageV)(hl:Looks s look)(n:Int)(F:Pr)(w:World)(hF:Sat ((VaultA v s).star F) w):
 Calls Tryz.prog 45 #[.pointer (some ⟨v,0,none⟩),.int .i64 n] w fun e w'=>
  Stays w w'∧∃pv,e= .returned (.tuple #[pv,.int .i64 (if look n=none then 15 else 0)])∧∃h',PageIn h' pv ((look n).getD zeroP)∧Sat ((Pr.own h').star ((VaultA v s).star F)) w':=by
 cases hn:look n with
 | none=>
   refine(read_none v s n F w hF (hl.none n hn)).mono ?_;rintro e w' ⟨rfl,ho⟩;exact⟨ho.st,zeroPage,by simp,Hp.nil,zero_in,by rw [own_nil,Pr.emp_star];exact hF.only ho⟩
 | some g=>
   obtain⟨h1,h2,h3,h4⟩:=hl.some n g hn;refine(read_some v s n h1 g h4 F w hF h2 h3).mono ?_;rintro e w' ⟨hst,pv,rfl,h',hp,hs⟩;exact⟨hst,pv,by simp,h',hp,hs⟩
theorem rread_any(r:Nat)(s:PoolS)(gs:List PageV)(hush:RTail)(look:Int→Option PageV)(hl:RLooks s gs look)(n:Int)(F:Pr)(w:World)(hF:Sat ((RefA r s gs hush).star F) w):
 Calls Tryz.prog 46 #[.pointer (some ⟨r,0,none⟩),.int .i64 n] w fun e w'=>
  Stays w w'∧∃pv,e= .returned (.tuple #[pv,.int .i64 (if look n=none then 15 else 0)])∧∃h',PageIn h' pv ((look n).getD zeroP)∧Sat ((Pr.own h').star ((RefA r s gs hush).star F)) w':=by
 cases hn:look n with
 | none=>
   refine(rread_none r s gs hush n F w hF (hl.none n hn)).mono ?_;rintro e w' ⟨rfl,ho⟩;exact⟨ho.st,zeroPage,by simp,Hp.nil,zero_in,by rw [own_nil,Pr.emp_star];exact hF.only ho⟩
 | some g=>
   obtain⟨h2,h3,h4⟩:=hl.some n g hn;refine(rread_some r s gs hush n F w hF h2).mono ?_;rintro e w' ⟨hst,pv,rfl,h',hp,hs⟩;exact⟨hst,pv,by simp,h',by rw [h3] at hp;exact hp,hs⟩
theorem vault_at_pool {v:Nat}{s:VaultS}{x:VX}{F:Pr}{w:World}(h:Sat ((VaultAt v s x).star F) w):
 w.cell? ⟨v,0,none⟩=some (.pointer (some ⟨x.p,0,none⟩))∧v<w.heap.size∧Sat ((PoolA x.p s.pool).star ((Pr.pts v (.cells #[.pointer (some ⟨x.p,0,none⟩),.map (some x.mb),x.av,.int .i64 s.floor] 108)).star
  ((((MapA Tryz.prog 3 x.mb x.f).star ((Row 169 2 x.av s.acts.length (actCells x.axs)).star (Pr.own x.h)))).star F))) w:=by
 have h2:Sat ((PoolA x.p s.pool).star ((Pr.pts v (.cells #[.pointer (some ⟨x.p,0,none⟩),.map (some x.mb),x.av,.int .i64 s.floor] 108)).star
  ((((MapA Tryz.prog 3 x.mb x.f).star ((Row 169 2 x.av s.acts.length (actCells x.axs)).star (Pr.own x.h)))).star F))) w:=h.perm (by unfold VaultAt;ac_rfl)
 exact⟨by rw [cell_of_heap h2.right.pts_heap];rfl,h2.right.lt,h2⟩
theorem pool_at_vault {v:Nat}{s:VaultS}{x:VX}{F X:Pr}{w:World}(h:Sat (X.star ((PoolA x.p s.pool).star ((Pr.pts v (.cells #[.pointer (some ⟨x.p,0,none⟩),.map (some x.mb),x.av,.int .i64 s.floor] 108)).star
 ((((MapA Tryz.prog 3 x.mb x.f).star ((Row 169 2 x.av s.acts.length (actCells x.axs)).star (Pr.own x.h)))).star F)))) w):Sat (X.star ((VaultAt v s x).star F)) w:=h.perm (by unfold VaultAt;ac_rfl)
theorem ints_le {v:Value}{V:List Int}{F:Pr}{w:World}(h:Sat ((IntsRow v V).star F) w):∃a,Ints a v V∧a.le w:=by
 obtain⟨a,ha,h2⟩:=h.toOwn;exact⟨a,Row.rowIn ha,h2.own⟩
end Go.Proofs.YtiegeadmgpanoaaGreatDoor.J7
namespace Go.Proofs.YtiegeadmgpanoaaGreatDoor.K7
open ChangeShapes WideShapes ChangeAt RowKit Sl Cop F3 G2 J2 Q3 V3 G4 X3 M5 K4 L6 J7
def metF(M:List Int)(n:Int):Option Value:=if n∈M then some (.int .i64 1) else none
theorem metF_cons(n:Int)(M:List Int):(fun m=>if m=n then some (.int .i64 1) else metF M m)=metF (n :: M):=by
 funext m
 unfold metF;by_cases h:m=n
 · subst h;simp
 · by_cases h2:m∈M<;>simp [h,h2]
abbrev ckC(v mb:Nat)(keys:Int):Obj:= .cells #[.pointer (some ⟨v,0,none⟩),.map (some mb),.int .i64 keys] 101
abbrev ckL(c v mb:Nat)(s:VaultS)(M:List Int)(keys:Int)(T:List Pr):List Pr:=VaultA v s :: Pr.pts c (ckC v mb keys) :: MapA Tryz.prog 3 mb (metF M) :: T
theorem zero_int(wx:World):(zeroValue 3).run Tryz.prog wx= .ok (.int .i64 0) wx:=by kernel_rfl
theorem page_sh {h:Hp}{pv:Value}{g:PageV}(hp:PageIn h pv g):∃(tai tad:Option Addr) (tci tcd:Nat),pv=pageV g.kind g.level (.slice tai g.items.length tci) (.slice tad g.data.length tcd) g.next:=by
 obtain⟨vi,vd,rfl,hi,hb⟩:=hp;obtain⟨a1,d1,rfl,_,_⟩:=items_rd hi;obtain⟨a2,d2,rfl⟩:=bytes_shape hb;exact⟨a1,a2,d1,d2,rfl⟩
abbrev ZP:Obj:=pageC 0 0 (.slice none 0 0) (.slice none 0 0) 0
theorem enter_any(c v mb:Nat)(s:VaultS)(look:Int→Option PageV)(hl:Looks s look)(M:List Int)(keys n:Int)(F:Pr)(w:World)(hF:OwnL (ckL c v mb s M keys [F]) w):
 Calls Tryz.prog 81 #[.pointer (some ⟨c,0,none⟩),.int .i64 n] w fun e w'=>Stays w w'∧
  ((enterK look M n=none∧e= .returned (.tuple #[pageV 0 0 (.slice none 0 0) (.slice none 0 0) 0,.bool false])∧OwnL (ckL c v mb s M keys [F]) w')∨
   ∃g h' tai tad tci tcd,enterK look M n=some g∧e= .returned (.tuple #[pageV g.kind g.level (.slice tai g.items.length tci) (.slice tad g.data.length tcd) g.next,.bool true])∧PageIn h' (pageV g.kind g.level (.slice tai g.items.length tci) (.slice tad g.data.length tcd) g.next) g∧OwnL (Pr.own h' :: ckL c v mb s (n :: M) keys [F]) w'):=by
 have hs0:=hF.alloc ZP;have RD:=hQ (vread_any v s look hl n _ _ (hs0.pull1 (A1:=VaultA v s)));have HST:=hQ ((Stays.refl w).alloc ZP);have c1:=hs0.facts;simp only [CellsAt,Nat.reduceAdd,and_true] at c1;have HL:=hQ hl;clear hF hs0;cases hn:look n with
 | none=>
   rw [hn] at RD;simp only [if_true,Option.getD_none] at RD;have HE:=hQ (show enterK look M n=none from by unfold enterK;rw [hn];split<;>rfl);clear hn HL;generalize zeroP=g0 at*;go_enter Tryz.func81,Tryz.ntmps81
   go_wp2_with fail
   refine RD.out.mono ?_;rintro e w1 ⟨st1,pv,rfl,h1,hp,hs1⟩;obtain⟨tai,tad,tci,tcd,rfl⟩:=page_sh hp;dsimp only [pageV];generalize w.heap.size=BR at*;have hs2:=OwnL.of2 hs1;have hs3:=((((hs2.set BR 0 (.int .i64 0)).set BR 1 (.int .i64 0)).set BR 2 (.slice none 0 0)).set BR 3 (.slice none 0 0)).set BR 4 (.int .i64 0)
   have HS3:=hQ (hs3.alloc (pageC g0.kind g0.level (.slice tai g0.items.length tci) (.slice tad g0.data.length tcd) g0.next));have HST1:=hQ (HST.out.trans st1);clear c1;have c1:=hs2.facts;simp only [CellsAt,Nat.reduceAdd,and_true] at c1;clear hs1 hs2 hs3 st1 RD HST hp;go_wp2
   refine bodyPost_ret (results_cell_row_tmp rfl _ _ BR _ rfl (run_loadVar_row _ BR _ _ _ _ _ (HS3.out.pts BR).pts_heap Tryz.underlying83 rfl infoPage)) rfl ?_;exact⟨(((((HST1.out.setCell _ _).setCell _ _).setCell _ _).setCell _ _).setCell _ _).alloc _,.inl ⟨HE.out,rfl,HS3.out.to⟩⟩
 | some g=>
   rw [hn] at RD;simp only [reduceCtorEq,if_false,Option.getD_some] at RD;obtain⟨hnb,_,_,_⟩:=HL.out.some n g hn;by_cases hM:n∈M
   · have HE:=hQ (show enterK look M n=none from by unfold enterK;rw [if_pos hM])
     have hlk:(metF M n).getD (.int .i64 0)= .int .i64 1:=by unfold metF;rw [if_pos hM];rfl
     clear hn HL hM;go_enter Tryz.func81,Tryz.ntmps81
     go_wp2_with fail
     refine RD.out.mono ?_;rintro e w1 ⟨st1,pv,rfl,h1,hp,hs1⟩;obtain⟨tai,tad,tci,tcd,rfl⟩:=page_sh hp;dsimp only [pageV];generalize w.heap.size=BR at*;have hs2:=OwnL.of2 hs1;have LK:=hQ ((hs2.alloc (pageC g.kind g.level (.slice tai g.items.length tci) (.slice tad g.data.length tcd) g.next)).pull1 (A1:=MapA Tryz.prog 3 mb (metF M)))
     have hs3:=((((hs2.set BR 0 (.int .i64 0)).set BR 1 (.int .i64 0)).set BR 2 (.slice none 0 0)).set BR 3 (.slice none 0 0)).set BR 4 (.int .i64 0);have HS3:=hQ (hs3.alloc (pageC g.kind g.level (.slice tai g.items.length tci) (.slice tad g.data.length tcd) g.next));have HST1:=hQ (HST.out.trans st1);clear c1;have c1:=hs2.facts;simp only [CellsAt,Nat.reduceAdd,and_true] at c1
     clear hs1 hs2 hs3 st1 RD HST hp;have LK2:=map_look Tryz.underlying3 Tryz.underlying99 (zero_int _) false hnb LK.out;simp only [hlk,Bool.false_eq_true,if_false,pageC] at LK2;clear LK;go_wp2;refine bodyPost_ret (results_cell_row_tmp rfl _ _ BR _ rfl (run_loadVar_row _ BR _ _ _ _ _ (HS3.out.pts BR).pts_heap Tryz.underlying83 rfl infoPage)) rfl ?_
     exact⟨(((((HST1.out.setCell _ _).setCell _ _).setCell _ _).setCell _ _).setCell _ _).alloc _,.inl ⟨HE.out,rfl,HS3.out.to⟩⟩
   · have HE:=hQ (show enterK look M n=some g from by unfold enterK;rw [if_neg hM,hn])
     have hlk:(metF M n).getD (.int .i64 0)= .int .i64 0:=by unfold metF;rw [if_neg hM];rfl
     clear hn HL hM;go_enter Tryz.func81,Tryz.ntmps81
     go_wp2_with fail
     refine RD.out.mono ?_;rintro e w1 ⟨st1,pv,rfl,h1,hp,hs1⟩;obtain⟨tai,tad,tci,tcd,rfl⟩:=page_sh hp;dsimp only [pageV];generalize w.heap.size=BR at*;have hs2:=OwnL.of2 hs1;have hs3:=hs2.alloc (pageC g.kind g.level (.slice tai g.items.length tci) (.slice tad g.data.length tcd) g.next);have LK:=hQ (hs3.pull1 (A1:=MapA Tryz.prog 3 mb (metF M)));have HP:=hQ hp
     have HST1:=hQ ((HST.out.trans st1).alloc (pageC g.kind g.level (.slice tai g.items.length tci) (.slice tad g.data.length tcd) g.next));clear c1;have c1:=hs2.facts;simp only [CellsAt,Nat.reduceAdd,and_true] at c1;have z1:w1.heap.size=w1.heap.size:=rfl;clear hs1 hs2 hs3 st1 RD HST hp;have LK2:=map_look Tryz.underlying3 Tryz.underlying99 (zero_int _) false hnb LK.out
     simp only [hlk,Bool.false_eq_true,if_false,pageC] at LK2
     go_wp2_with
      (refine wpList_put rfl _ _ _ _ rfl Tryz.underlying3 Tryz.underlying99 n hnb (.int .i64 1) rfl rfl rfl LK.out ?_
       intro w4 hs4 hg4
       rw [metF_cons] at hs4
       have hs5:=OwnL.of1 hs4
       have HS5:=hQ hs5
       have HG5:=hQ (HST1.out.of_grown hg4)
       clear c1
       have c1:=hs5.facts
       simp only [CellsAt,Nat.reduceAdd,and_true] at c1
       clear hs4 hs5 hg4)
     have HS6:=hQ (((((HS5.out.set BR 0 (.int .i64 g.kind)).set BR 1 (.int .i64 g.level)).set BR 2 (.slice tai g.items.length tci)).set BR 3 (.slice tad g.data.length tcd)).set BR 4 (.int .i64 g.next));refine bodyPost_ret (results_cell_row_tmp rfl _ _ BR _ rfl (run_loadVar_row _ BR _ _ _ _ _ (HS6.out.pts BR).pts_heap Tryz.underlying83 rfl infoPage)) rfl ?_
     exact⟨((((HG5.out.setCell _ _).setCell _ _).setCell _ _).setCell _ _).setCell _ _,.inr ⟨g,HE.out,h1,tai,tad,tci,tcd,rfl,HP.out,HS6.out.to⟩⟩
end Go.Proofs.YtiegeadmgpanoaaGreatDoor.K7
namespace Go.Proofs.YtiegeadmgpanoaaGreatDoor.L7
open ChangeShapes WideShapes ChangeAt RowKit Sl Cop D2 F3 G2 J2 Q3 V3 G4 G5 X3 M5 K4 G6 J6 L6 T6 Q5 J7
theorem ref_parts {r:Nat}{s:PoolS}{gs:List PageV}{hush:RTail}{L R:List Pr}{w:World}(o:OwnL L w) [Pull (RefA r s gs hush) L R]:
 ∃y,ROk s gs y∧OwnL (Pr.pts r (refC s.refs y.cv y.lv y.pv hush) :: IntsRow y.cv s.counts :: BoolsRow y.lv s.last :: PgRow y.pv y.xs gs :: Pr.own y.h :: R) w:=by
 obtain⟨y,ok,h⟩:=refA_iff.1 (o.pull1 (A1:=RefA r s gs hush));exact⟨y,ok,⟨h.perm (by unfold RefAt;simp only [starL];ac_rfl)⟩⟩
theorem ref_whole {r:Nat}{s:PoolS}{gs:List PageV}{hush:RTail}{y:RX}(ok:ROk s gs y){R:List Pr}{w:World}(o:OwnL (Pr.pts r (refC s.refs y.cv y.lv y.pv hush) :: IntsRow y.cv s.counts :: BoolsRow y.lv s.last :: PgRow y.pv y.xs gs :: Pr.own y.h :: R) w):OwnL (RefA r s gs hush :: R) w:=
 ⟨refA_iff.2 ⟨y,ok,o.sat.perm (by unfold RefAt;simp only [starL];ac_rfl)⟩⟩
theorem wkept_any(v r:Nat)(s:VaultS)(rs:PoolS)(gs:List PageV)(hush:RTail)(look:Int→Option PageV)(hl:Looks s look)(hrl:RLooks rs gs look)(hc:s.pool.counts=rs.counts)(F:Pr)(w:World)(hF:OwnL [VaultA v s,RefA r rs gs hush,F] w):
 Calls Tryz.prog 11 #[.pointer (some ⟨v,0,none⟩),.pointer (some ⟨r,0,none⟩)] w fun e w'=>e= .returned (.bool true)∧Stays w w'∧OwnL [VaultA v s,RefA r rs gs hush,F] w':=by
 obtain⟨y,oky,hs1⟩:=ref_parts (r:=r) (s:=rs) (gs:=gs) (hush:=hush) hF;obtain⟨ac,cc,ecv,_,_⟩:=Row.read (hs1.pull1 (A1:=IntsRow y.cv rs.counts));have hn2:=oky.n2;have hn3:(rs.counts.length:Int)≤65536:=by omega
 obtain⟨x,ok,h1⟩:=vaultA_iff.1 (hs1.pull1 (A1:=VaultA v s));obtain⟨v0,vz,h2⟩:=vault_at_pool h1;have CA:=hQ (counts_A x.p s.pool _ _ h2.drew);rw [hc] at CA;have c1:=hs1.facts;simp only [CellsAt,Nat.reduceAdd,and_true] at c1;rw [ecv] at c1;have HOK:=hQ (And.intro ok (And.intro oky hn2));have HL:=hQ (And.intro hl (And.intro hrl hc));have HCV:=hQ ecv;clear hF hs1 h1 h2 ok oky hl hrl hc ecv hn2
 go_enter Tryz.func11,Tryz.ntmps11
 go_wp2_with fail
 refine wS 48 [0,1,2,3,5,6,7,8] [(4,[],[0,1,2,5,6,7,8]),(9,[10],[0,1,2,5,6,7])] ?_;refine wpQ_all _ rfl rfl ?_;simp only [pick,pQ];iterate 8 (go_big_quiet_step (fail))
 refine wpQuiet_nil ?_;refine wpRest_act rfl ?_;go_wp2_with fail
 refine CA.out.mono ?_;rintro e w2 ⟨cv1,rfl,hs2,st2⟩;obtain⟨ac1,cc1,e1,_,_⟩:=Row.read hs2;subst e1;have hs3:=OwnL.of2 (A1:=VaultA v s) (A2:=IntsRow (.slice ac1 rs.counts.length cc1) rs.counts) (vaultA_iff.2 ⟨x,HOK.out.1,(pool_at_vault hs2).perm (Pr.left_comm _ _ _)⟩);clear c1 v0 vz CA;have c1:=hs3.facts;simp only [CellsAt,Nat.reduceAdd,and_true] at c1;rw [HCV.out] at c1
 obtain⟨a1,i1,l1⟩:=ints_le (hs3.pull1 (A1:=IntsRow (.slice ac1 rs.counts.length cc1) rs.counts));obtain⟨a2,i2,l2⟩:=ints_le (hs3.pull1 (A1:=IntsRow y.cv rs.counts));rw [HCV.out] at i2;have EI:=hQ (eqints_same a1 a2 _ _ rs.counts i1 i2 HOK.out.2.2 w2 l1 l2);have HS3:=hQ hs3;have HST2:=hQ ((Stays.refl w).drew.trans st2);clear hs2 hs3 st2 i1 i2 l1 l2;go_wp2;refine onN_mk ?_;refine wpQ_nil ⟨?_,?_⟩
 · exact cQ
 refine wpRest_act rfl ?_;go_wp2_with fail
 refine EI.out.mono ?_;rintro e w4 ⟨rfl,oe⟩;have hs4:=HS3.out.ext oe.heap;clear c1;have c1:=hs4.facts;simp only [CellsAt,Nat.reduceAdd,and_true] at c1;rw [HCV.out] at c1
 have H6:=hQ ((ref_whole (r:=r) (hush:=hush) HOK.out.2.1 (hs4.to (M:=Pr.pts r (refC rs.refs y.cv y.lv y.pv hush) :: IntsRow y.cv rs.counts :: BoolsRow y.lv rs.last :: PgRow y.pv y.xs gs :: Pr.own y.h :: [VaultA v s,F]))).to (M:= [VaultA v s,RefA r rs gs hush,F]));have HST5:=hQ (HST2.out.trans oe.st);clear hs4 EI HS3 HST2 oe;go_wp2;refine onN_mk ?_;refine wpQ_all _ rfl rfl ?_;simp only [pick,pQ]
 iterate 1 (go_big_quiet_step (fail))
 refine wpQuiet_nil ⟨?_,?_⟩
 · exact cQ
 refine wpRest_nil ?_;clear HCV HOK;go_wp2_with fail
 clear c1;go_loopw [5] (fun i wr=> ∃k:Nat,1≤k∧k≤rs.counts.length+1∧i= .int .i64 k∧Stays w wr∧OwnL [VaultA v s,RefA r rs gs hush,F] wr) (fun i _=>rs.counts.length+1-(intOf i).toNat)
 case atStart=>exact⟨1,Nat.le_refl _,by omega,rfl,HST5.out,H6.out⟩
 case round=>
  obtain⟨k,hk1,hk2,rfl,hst,hs⟩:=hrel;clear H6 HST5;have RL:=hQ (rlen_any r rs gs hush _ _ (hs.pull1 (A1:=RefA r rs gs hush)));have HST:=hQ hst;rcases Nat.lt_or_ge rs.counts.length k with hgt | hle
  · have HS:=hQ hs
    clear hs hst;go_wp2_with fail
    refine RL.out.mono ?_;rintro e w1 ⟨rfl,rfl⟩;go_wp2;go_ret;exact⟨rfl,HST.out,HS.out⟩
  · obtain⟨g,hg⟩:∃g,(look (k:Int)).getD zeroP=g:=⟨_,rfl⟩
    obtain⟨er,her⟩:∃er:Int,(if look (k:Int)=none then(15:Int) else 0)=er:=⟨_,rfl⟩
    have hfit:Fit g:=by
     rw [← hg];cases hk:look (k:Int) with
     | none=>exact fit_zero
     | some g2=>exact(HL.out.1.some _ g2 hk).2.2.2
    have RRD:=fun F w hF=>rread_any r rs gs hush look HL.out.2.1 k F w hF
    have VRD:=vread_any v s look HL.out.1 k _ _ (hs.pull1 (A1:=VaultA v s));rw [hg,her] at VRD;rw [hg,her] at RRD;have HRRD:=hQ RRD;have HVRD:=hQ VRD;have HFIT:=hQ hfit;clear hs hst hg her VRD RRD hfit;go_wp2_with fail
    refine RL.out.mono ?_;rintro e w1 ⟨rfl,rfl⟩;go_wp2_with fail
    refine HVRD.out.mono ?_;rintro e w1 ⟨st1,pv,rfl,h1,hp1,hs1⟩;obtain⟨vi,vd,rfl,hi1,hd1⟩:=id hp1;obtain⟨ai,ci,rfl,_,_⟩:=items_rd hi1;obtain⟨ad,cd,rfl⟩:=bytes_shape hd1;clear hi1 hd1 HVRD RL;have hs2:=(OwnL.of2 hs1).alloc (pageC g.kind g.level (.slice ai g.items.length ci) (.slice ad g.data.length cd) g.next);have RR:=hQ (HRRD.out _ _ (hs2.pull1 (A1:=RefA r rs gs hush)))
    have HST1:=hQ ((HST.out.trans st1).alloc (pageC g.kind g.level (.slice ai g.items.length ci) (.slice ad g.data.length cd) g.next));have HP1:=hQ hp1;clear hs1 hs2 st1 HST hp1 HRRD;go_wp2_with fail
    refine RR.out.mono ?_;rintro e w2 ⟨st2,pv2,rfl,h2,hp2,hs4⟩;obtain⟨wi,wd,rfl,hi2,hd2⟩:=id hp2;obtain⟨bi,di,rfl,_,_⟩:=items_rd hi2;obtain⟨bd,dd,rfl⟩:=bytes_shape hd2;clear hi2 hd2 RR;have hs5:=OwnL.of2 hs4;have c1:=hs5.facts;simp only [CellsAt,Nat.reduceAdd,and_true] at c1;have hs6:=hs5.alloc (pageC g.kind g.level (.slice bi g.items.length di) (.slice bd g.data.length dd) g.next)
    have HST2:=hQ ((HST1.out.trans st2).alloc (pageC g.kind g.level (.slice bi g.items.length di) (.slice bd g.data.length dd) g.next));have EP:=hQ (eqpage_same h1 h2 _ _ g HP1.out hp2 HFIT.out _ (hs6.le (a:=h1)) (hs6.le (a:=h2)));have HE:=hQ (hs6.to (M:= [VaultA v s,RefA r rs gs hush,F]));clear hs4 hs5 hs6 st2 HST1 hp2;go_wp2_with fail
    refine EP.out.mono ?_;rintro e w5 ⟨rfl,oe⟩;have HE2:=hQ (HE.out.ext oe.heap);have HST3:=hQ (HST2.out.trans oe.st);clear oe EP HE HST2 c1;go_wp2;go_roundw
    case rel=>exact⟨k+1,by omega,by omega,congrArg (Value.int .i64) (by omega),HST3.out,HE2.out⟩
    case measure=>simp [intOf];omega
end Go.Proofs.YtiegeadmgpanoaaGreatDoor.L7
namespace Go.Proofs.YtiegeadmgpanoaaGreatDoor.M7
open ChangeShapes WideShapes ChangeAt RowKit Sl Cop F3 G2 J2 Q3 V3 X3 M5 G6 J6 L6 T6
def metL(N:Nat)(M:List Int):List Value:=(List.range (N+1)).map fun i:Nat=> .bool (decide ((i:Int)∈M))
theorem metL_set(N:Nat)(M:List Int)(j:Nat):(metL N M).set j (.bool true)=metL N ((j:Int) :: M):=by
 apply List.ext_getElem (by simp [metL]);intro i h1 h2;by_cases hij:j=i
 · subst hij
   simp [metL]
 · rw [List.getElem_set_ne hij]
   have:¬((i:Int)=(j:Int)):=by omega
   simp [metL,this]
abbrev MetA(b cap N:Nat)(M:List Int):Pr:=Row 4 1 (.slice (some ⟨b,0,none⟩) (N+1) cap) (N+1) (metL N M)
theorem met_at {b cap N:Nat}{M:List Int}{F:Pr}{w:World}(h:Sat ((MetA b cap N M).star F) w){j:Nat}(hj:j≤N):w.cell? ⟨b,j,none⟩=some (.bool (decide ((j:Int)∈M)))∧w.frozen? ⟨b,j,none⟩=false:=by
 obtain⟨a,c,hv,hl,hc0⟩:=Row.read h;obtain⟨b',ha,hc⟩:=hc0 (by omega);cases hv;cases ha;have h1:=hc j (by rw [Nat.mul_one];omega);refine⟨h1.1.trans ?_,h1.2⟩;simp [metL,show j<N+1 by omega]
abbrev ckR(r b cap N:Nat)(keys:Int):Obj:= .cells #[.pointer (some ⟨r,0,none⟩),.slice (some ⟨b,0,none⟩) (N+1) cap,.int .i64 keys] 96
abbrev ckRL(c r b cap:Nat)(s:PoolS)(gs:List PageV)(hush:RTail)(x:RX)(M:List Int)(keys:Int)(T:List Pr):List Pr:=RefAt r s gs hush x :: Pr.pts c (ckR r b cap s.counts.length keys) :: MetA b cap s.counts.length M :: T
theorem count_pos {s:PoolS}{gs:List PageV}{x:RX}(ok:ROk s gs x){n:Int}(h:s.count n≠0):s.there n∧0<s.count n:=by
 by_cases ht:s.there n
 · refine⟨ht,?_⟩
   obtain⟨j,rfl,hj⟩:=there_idx ht;rw [count_idx hj] at h ⊢
   have:s.counts.getD j 0∈s.counts:=by
    rw [List.getD_eq_getElem?_getD,List.getElem?_eq_getElem hj];exact List.getElem_mem hj
   have:=ok.c0 _ this
   omega
 · exact absurd (by unfold PoolS.count;rw [if_neg ht]) h
theorem renter_any(c r b cap:Nat)(s:PoolS)(gs:List PageV)(hush:RTail)(x:RX)(ok:ROk s gs x)(look:Int→Option PageV)(hl:RLooks s gs look)(M:List Int)(keys n:Int)(F:Pr)(w:World)(hF:OwnL (ckRL c r b cap s gs hush x M keys [F]) w):
 Calls Tryz.prog 78 #[.pointer (some ⟨c,0,none⟩),.int .i64 n] w fun e w'=>Stays w w'∧
  ((enterK look M n=none∧e= .returned (.bool false)∧OwnL (ckRL c r b cap s gs hush x M keys [F]) w')∨
   ∃g,enterK look M n=some g∧e= .returned (.bool true)∧OwnL (ckRL c r b cap s gs hush x (n :: M) keys [F]) w'):=by
 have RT:=hQ (rthere_any r s gs hush n _ w (refA_iff.2 ⟨x,ok,hF.pull1 (A1:=RefAt r s gs hush x)⟩));have c1:=hF.facts;simp only [CellsAt,Nat.reduceAdd,and_true] at c1;have HS:=hQ hF;have HST:=hQ (Stays.refl w);cases hn:look n with
 | none=>
   rw [hl.none n hn] at RT;have HE:=hQ (show enterK look M n=none from by unfold enterK;rw [hn];split<;>rfl);clear hF hl hn ok;go_enter Tryz.func78,Tryz.ntmps78
   go_wp2_with fail
   refine RT.out.mono ?_;rintro e w1 ⟨rfl,rfl⟩;go_wp2;go_ret;exact⟨HST.out,.inl ⟨HE.out,rfl,HS.out⟩⟩
 | some g=>
   obtain⟨h1,_,_⟩:=hl.some n g hn;obtain⟨ht,hp⟩:=count_pos ok h1;rw [decide_eq_true hp] at RT;obtain⟨j,rfl,hj⟩:=there_idx ht;have hn2:=ok.n2;obtain⟨m0,m1⟩:=met_at (hF.pull1 (A1:=MetA b cap s.counts.length M)) (j:=j+1) (by omega);have mz:=World.block_lt_of_cell? _ _ m0;simp only at mz;rw [show (((j+1:Nat)):Int)=(j:Int)+1 by omega] at m0;have hix:((j:Int)+1).toNat=j+1:=by omega
   have hix2:(j:Int)+1<(s.counts.length:Int)+1:=by omega
   by_cases hM:(j:Int)+1∈M
   · rw [decide_eq_true hM] at m0
     have HE:=hQ (show enterK look M ((j:Int)+1)=none from by unfold enterK;rw [if_pos hM]);clear hF hl hn ok hM ht hp h1;go_enter Tryz.func78,Tryz.ntmps78
     go_wp2_with fail
     refine RT.out.mono ?_;rintro e w1 ⟨rfl,rfl⟩;go_wp2;go_ret;exact⟨HST.out,.inl ⟨HE.out,rfl,HS.out⟩⟩
   · rw [decide_eq_false hM] at m0
     have HE:=hQ (show enterK look M ((j:Int)+1)=some g from by unfold enterK;rw [if_neg hM,hn]);have hs2:=OwnL.of1 (Row.set (hF.pull1 (A1:=MetA b cap s.counts.length M)) (i:=j+1) (by omega) (.bool true));rw [metL_set,show (((j+1:Nat)):Int)=(j:Int)+1 by omega] at hs2;have HE2:=hQ (hs2.to (M:=ckRL c r b cap s gs hush x (((j:Int)+1) :: M) keys [F]));clear hF hl hn ok hM ht hp h1 hs2
     go_enter Tryz.func78,Tryz.ntmps78
     go_wp2_with fail
     refine RT.out.mono ?_;rintro e w1 ⟨rfl,rfl⟩;go_wp2;go_ret;exact⟨HST.out.setCell _ _,.inr ⟨g,HE.out,rfl,HE2.out⟩⟩
end Go.Proofs.YtiegeadmgpanoaaGreatDoor.M7
namespace Go.Proofs.YtiegeadmgpanoaaGreatDoor.N7
open ChangeShapes WideShapes ChangeAt RowKit Sl Cop F3 G2 J2 Q3 V3 G4 X3 M5 N2 L6 N5 S5 M2 K7
theorem chainK_step {look:Int→Option PageV}{lack n:Int}{M:List Int}(h:0<lack):chainK look lack.toNat lack n M=match enterK look M n with
 | none=>(15,M)
 | some g=>if g.kind≠3 then(15,n :: M) else if(g.data.length:Int)≠min lack 480∨¬(g.next=0↔lack≤480) then(5,n :: M) else chainK look (lack-min lack 480).toNat (lack-min lack 480) g.next (n :: M):=by
 obtain⟨k,hk⟩:∃k,lack.toNat=k+1:=⟨lack.toNat-1,by omega⟩;rw [hk];conv=>lhs;unfold chainK
 rw [if_neg (by omega)];cases enterK look M n with
 | none=>rfl
 | some g=>
   simp only;split
   · rfl
   · split
     · rfl
     · exact chainK_more look k _ _ _ (by omega)
theorem item_any(c v mb:Nat)(s:VaultS)(look:Int→Option PageV)(hl:Looks s look)(M:List Int)(keys:Int)(hk:0≤keys∧keys≤4611686018427387904)(x:ItemV)(r:RangeV)(h:Hp)(iv rv:Value)(hi:ItemIn h iv x)(hr:RangeIn h rv r)(ux:U8 x.key)(ur:RU8 r)(nx:x.key.length≤140737488355328)(hs:x.size≤3840)(F:Pr)(w:World)(hF:OwnL (ckL c v mb s M keys [Pr.own h,F]) w):
 Calls Tryz.prog 82 #[.pointer (some ⟨c,0,none⟩),iv,rv] w fun e w'=>Stays w w'∧e= .returned (.int .i64 (itemK look x r (M,keys)).1)∧OwnL (ckL c v mb s (itemK look x r (M,keys)).2.1 (itemK look x r (M,keys)).2.2 [Pr.own h,F]) w':=by
 obtain⟨kv,vv,rfl,hkb,hvb⟩:=hi;obtain⟨lo,hi,rfl,hlo,hhi⟩:=id hr;obtain⟨ak,ck,rfl,_⟩:=bytes_rd hkb;obtain⟨av,cv,rfl,_⟩:=bytes_rd hvb;obtain⟨rl,dl,rfl,_⟩:=bytes_rd hlo;obtain⟨rh,dh,rfl,_⟩:=bytes_rd hhi;have hs0:=(hF.alloc (.cells #[.slice ak x.key.length ck,.slice av x.value.length cv,.int .i64 x.child,.int .i64 x.size] 89)).alloc (rangeC (.slice rl r.lo.length dl) (.slice rh r.hi.length dh) r.op)
 rw [show (w.alloc (.cells #[.slice ak x.key.length ck,.slice av x.value.length cv,.int .i64 x.child,.int .i64 x.size] 89)).heap.size=w.heap.size+1 by simp] at hs0;have HH:=hQ (has_any h _ _ r x.key hr hkb ur ux nx _ hs0.le)
 have HST:=hQ (((Stays.refl w).alloc (.cells #[.slice ak x.key.length ck,.slice av x.value.length cv,.int .i64 x.child,.int .i64 x.size] 89)).alloc (rangeC (.slice rl r.lo.length dl) (.slice rh r.hi.length dh) r.op));have HS0:=hQ hs0;have HL:=hQ hl;have c1:=hs0.facts;simp only [CellsAt,Nat.reduceAdd,and_true] at c1;clear hF hs0 hkb hvb hlo hhi hr ux ur nx hl;cases hhas:hasR r x.key with
 | false=>
   rw [hhas] at HH;have hv:itemK look x r (M,keys)=(11,(M,keys)):=by unfold itemK;rw [if_pos hhas]
   rw [hv];clear hv hhas HL;go_enter Tryz.func82,Tryz.ntmps82
   go_wp2_with fail
   refine HH.out.mono ?_;rintro e w1 ⟨rfl,ho⟩;have hs1:=HS0.out.ext ho.heap;have HST1:=hQ (HST.out.trans ho.st);clear HH HS0 HST ho c1;have HE:=hQ (hs1.to (M:=ckL c v mb s M keys [Pr.own h,F]));have HSTE:=HST1;go_wp2;go_ret;exact⟨HSTE.out,rfl,HE.out⟩
 | true=>
   rw [hhas] at HH;by_cases h32:x.size≤32
   · have hv:itemK look x r (M,keys)=(0,(M,keys+1)):=by unfold itemK;rw [if_neg (by rw [hhas];simp),if_pos h32]
     rw [hv];clear hv hhas HL;go_enter Tryz.func82,Tryz.ntmps82
     go_wp2_with fail
     refine HH.out.mono ?_;rintro e w1 ⟨rfl,ho⟩;have hs1:=HS0.out.ext ho.heap;have HST1:=hQ (HST.out.trans ho.st);clear c1;have c1:=hs1.facts;simp only [CellsAt,Nat.reduceAdd,and_true] at c1;have HE:=hQ ((hs1.set c 2 (.int .i64 (keys+1))).to (M:=ckL c v mb s M (keys+1) [Pr.own h,F]));clear HH HS0 HST ho hs1;go_wp2;go_ret;exact⟨HST1.out.setCell _ _,rfl,HE.out⟩
   · have hv:itemK look x r (M,keys)=((chainK look x.size.toNat x.size x.child M).1,((chainK look x.size.toNat x.size x.child M).2,keys+1)):=by unfold itemK;rw [if_neg (by rw [hhas];simp),if_neg h32]
     rw [hv];clear hv hhas;go_enter Tryz.func82,Tryz.ntmps82
     go_wp2_with fail
     refine HH.out.mono ?_;rintro e w1 ⟨rfl,ho⟩;have hs1:=HS0.out.ext ho.heap;have HST1:=hQ ((HST.out.trans ho.st).setCell ⟨c,2,none⟩ (.int .i64 (keys+1)));clear c1;have c1:=hs1.facts;simp only [CellsAt,Nat.reduceAdd,and_true] at c1;have hs2:=hs1.set c 2 (.int .i64 (keys+1));generalize w.heap.size+1=BG at*;generalize w.heap.size=BI at*
     have HS2:=hQ (hs2.to (M:=ckL c v mb s M (keys+1) [Pr.pts BG (rangeC (.slice rl r.lo.length dl) (.slice rh r.hi.length dh) r.op),Pr.pts BI (.cells #[.slice ak x.key.length ck,.slice av x.value.length cv,.int .i64 x.child,.int .i64 x.size] 89),Pr.own h,F]));clear HH HS0 HST ho hs1 hs2;go_wp2;clear c1
     go_loopw [7,8] (fun lf nn wr=> ∃(lack n:Int) (M':List Int),lf= .int .i64 lack∧nn= .int .i64 n∧lack≤3840∧Stays w wr∧Hid (chainK look x.size.toNat x.size x.child M=chainK look lack.toNat lack n M')∧OwnL (ckL c v mb s M' (keys+1) [Pr.pts BG (rangeC (.slice rl r.lo.length dl) (.slice rh r.hi.length dh) r.op),Pr.pts BI (.cells #[.slice ak x.key.length ck,.slice av x.value.length cv,.int .i64 x.child,.int .i64 x.size] 89),Pr.own h,F]) wr) (fun lf _ _=>(intOf lf).toNat)
     case atStart=>exact⟨x.size,x.child,M,rfl,rfl,hs,HST1.out,hQ rfl,HS2.out⟩
     case round=>
      obtain⟨lack,n,M',rfl,rfl,hlk,hst,heq,hsr⟩:=hrel;clear HST1 HS2;have HST:=hQ hst;have c1:=hsr.facts;simp only [CellsAt,Nat.reduceAdd,and_true] at c1;by_cases hz:0<lack
      · have EN:=hQ (enter_any c v mb s look HL.out M' (keys+1) n _ _ (OwnL.in3 (hsr.pull3 (A1:=VaultA v s) (A2:=Pr.pts c (ckC v mb (keys+1))) (A3:=MapA Tryz.prog 3 mb (metF M')))))
        have HEQ:=hQ (heq.out.trans (chainK_step hz));clear hst heq hsr;go_wp2_with fail
        refine EN.out.mono ?_;rintro e w3 ⟨st3,(⟨hen,rfl,hs3⟩ | ⟨g,h1,tai,tad,tci,tcd,hen,rfl,hpg,hs3⟩)⟩
        · have heq:=HEQ.out
          rw [hen] at heq;simp only at heq;have HQ:=hQ heq;have hs4:=hs3.flat;have HST3:=hQ ((HST.out.trans st3).alloc (pageC 0 0 (.slice none 0 0) (.slice none 0 0) 0));have HE:=hQ ((hs4.alloc (pageC 0 0 (.slice none 0 0) (.slice none 0 0) 0)).to (M:=ckL c v mb s M' (keys+1) [Pr.own h,F]));clear c1 heq;have c1:=hs4.facts;simp only [CellsAt,Nat.reduceAdd,and_true] at c1
          clear hs3 hs4 st3 EN HEQ hen;go_wp2;go_ret;rw [HQ.out];exact⟨HST3.out,rfl,HE.out⟩
        · have heq:=HEQ.out
          rw [hen] at heq;simp only at heq;have hs4:=hs3.flat;have HST3:=hQ ((HST.out.trans st3).alloc (pageC g.kind g.level (.slice tai g.items.length tci) (.slice tad g.data.length tcd) g.next));have hs5:=hs4.alloc (pageC g.kind g.level (.slice tai g.items.length tci) (.slice tad g.data.length tcd) g.next);have HS5:=hQ hs5;clear c1;have c1:=hs4.facts
          simp only [CellsAt,Nat.reduceAdd,and_true] at c1;dsimp only [pageV];clear hs3 hs4 hs5 st3 EN HEQ hen hpg;by_cases hk3:g.kind≠3
          · rw [if_pos hk3] at heq
            have HQ:=hQ heq;have HE:=hQ (HS5.out.to (M:=ckL c v mb s (n :: M') (keys+1) [Pr.own h,F]));clear heq;go_wp2;go_ret;rw [HQ.out];exact⟨HST3.out,rfl,HE.out⟩
          · rw [if_neg hk3] at heq
            have hk3':g.kind=3:=by omega
            rw [hk3'] at HST3 HS5;obtain⟨m,hm⟩:∃m,min lack 480=m:=⟨_,rfl⟩;have hmb:0<m∧m≤lack∧m≤480∧(m=lack∨m=480):=by omega
            have hmz:(lack-m=0)=(lack≤480):=by apply propext;omega
            rw [hm] at heq;by_cases hd:(g.data.length:Int)=m
            · by_cases hx:g.next=0↔lack≤480
              · rw [if_neg (by intro h;rcases h with h | h;exact h hd;exact h hx)] at heq
                have HQ:=hQ heq;have HS6:=hQ (HS5.out.to (M:=ckL c v mb s (n :: M') (keys+1) [Pr.pts BG (rangeC (.slice rl r.lo.length dl) (.slice rh r.hi.length dh) r.op),Pr.pts BI (.cells #[.slice ak x.key.length ck,.slice av x.value.length cv,.int .i64 x.child,.int .i64 x.size] 89),Pr.own h,F]));clear heq HS5
                have hbb:(g.next == 0)=(lack-m == 0):=by
                 rw [Bool.eq_iff_iff,beq_iff_eq,beq_iff_eq,hx];omega
                clear hx hmz;go_wp2_with (refine wpList_min rfl _ _ rfl rfl lack 480 m hm.symm rfl rfl ?_)
                go_roundw
                case rel=>exact⟨lack-m,g.next,n :: M',rfl,rfl,by omega,HST3.out,HQ,HS6.out⟩
                case measure=>simp [intOf];omega
              · rw [if_pos (.inr hx)] at heq
                have HQ:=hQ heq;have HE:=hQ (HS5.out.to (M:=ckL c v mb s (n :: M') (keys+1) [Pr.own h,F]));clear heq
                have hbb:(g.next == 0)= !(lack-m == 0):=by
                 rw [Bool.eq_iff_iff,beq_iff_eq,Bool.not_eq_true',beq_eq_false_iff_ne];omega
                clear hx hmz;go_wp2_with (refine wpList_min rfl _ _ rfl rfl lack 480 m hm.symm rfl rfl ?_)
                go_ret;rw [HQ.out];exact⟨HST3.out,rfl,HE.out⟩
            · rw [if_pos (.inl hd)] at heq
              have HQ:=hQ heq;have HE:=hQ (HS5.out.to (M:=ckL c v mb s (n :: M') (keys+1) [Pr.own h,F]));have hbd:((g.data.length:Int) != m)=true:=bne_iff_ne.2 hd;clear heq hmz hd;go_wp2_with (refine wpList_min rfl _ _ rfl rfl lack 480 m hm.symm rfl rfl ?_)
              go_ret;rw [HQ.out];exact⟨HST3.out,rfl,HE.out⟩
      · have h0:chainK look lack.toNat lack n M'=(0,M'):=by
         rw [show lack.toNat=0 by omega];rfl
        have HQ:=hQ (heq.out.trans h0);have HE:=hQ (hsr.to (M:=ckL c v mb s M' (keys+1) [Pr.own h,F]));clear hst heq hsr h0;go_wp2;go_ret;rw [HQ.out];exact⟨HST.out,rfl,HE.out⟩
end Go.Proofs.YtiegeadmgpanoaaGreatDoor.N7
