/- Back and Scan: the pairs of a range, gone over; the conditions stand as hypotheses. -/
import Derived.Test.YtiegeadmgpanoaaGreatDoorWalkAgreesM09
import Derived.Test.YtiegeadmgpanoaaGreatDoorWalkAgreesM10
import Derived.Test.YtiegeadmgpanoaaGreatDoorWalkAgreesM07
import Derived.Test.YtiegeadmgpanoaaGreatDoorWalkChecksM01
set_option maxRecDepth 100000
set_option maxHeartbeats 16000000
namespace Go.Proofs.YtiegeadmgpanoaaGreatDoor.C9
open ChangeShapes WideShapes ChangeAt RowKit Sl Cop Go.Shelf D2 F3 N3 P3 G2 J2 Q3 V3 G4 K4 X3 M5 P5 U5 W5 N2 P2 L6 S6 J7 N5 S5 K7 V7 Z7 B8 C8 P8 Q8 X8
attribute [local go_sem] Oper.semAt_some
theorem told_any(fi sb:Nat)(w:World):Calls Tryz.prog 59 #[.func (.func fi) #[] #[.pointer (some ⟨sb,0,none⟩)]] w fun e w'=>
 e= .returned (.func (.func 95) #[] #[.pointer (some ⟨w.heap.size,0,none⟩)])∧w'=w.alloc (.cells #[.func (.func fi) #[] #[.pointer (some ⟨sb,0,none⟩)]] 129):=by
 go_enter Tryz.func59,Tryz.ntmps59
 go_wp2;go_ret;exact⟨rfl,rfl⟩
theorem backwardF_any(a:Option Addr)(n c:Nat)(w:World):Calls Tryz.prog 60 #[.slice a n c] w fun e w'=>
 e= .returned (.func (.func 97) #[] #[.pointer (some ⟨w.heap.size,0,none⟩)])∧w'=w.alloc (.cells #[.slice a n c] 60):=by
 go_enter Tryz.func60,Tryz.ntmps60
 go_wp2;go_ret;exact⟨rfl,rfl⟩
theorem back_iter(tb sb:Nat)(pv:Value)(h:Hp)(zs:List PairX)(hP:PairsIn h pv zs)(hl:zs.length≤140737488355328)(hn:∀x∈zs,x.2.1.length≤65536∧x.2.2.length≤65536)(ws:List (List Int × List Int))(hw:zs.map (·.2)=ws):
 IterV Tryz.prog 95 #[.pointer (some ⟨tb,0,none⟩)] encW (OkW (turnB true ws)) (fun xs=>xs.length=(turnB true ws).length) (fun xs=>xs.length≤(turnB true ws).length) pairRows (WalkOwn tb sb 97 pv h):=by
 subst hw;refine told1 _ tb sb pv h zs _ (OkBP zs) (by rw [turnB_len,List.length_map]) (backwardP sb pv h zs hP hl) (enters_of Tryz.func97 (by kernel_rfl) rfl) ?_ hP ?_
 · rintro pre x ⟨i,hi,he,rfl⟩
   refine⟨List.getElem_mem hi,by rw [turnB_len,List.length_map];omega,?_⟩;show (zs[i]).2=((zs.map (·.2)).reverse)[pre.length]'(by rw [List.length_reverse,List.length_map];omega)
   rw [List.getElem_reverse,List.getElem_map];congr 2
   rw [List.length_map];omega
 · intro x hx
   have hx2:x∈zs.map (·.2):=by have h1:x∈(zs.map (·.2)).reverse:=hx;exact List.mem_reverse.1 h1
   obtain⟨y,hy,rfl⟩:=List.mem_map.1 hx2;exact hn y hy
theorem back_any(v:Nat)(s:VaultS)(look:Int→Option PageV)(hl:L6.Looks s look)(okp:PgsOk look)(root height items:Int)(L:List ItemV)(hT:StandT look root height items L)(rv:Value)(r:RangeV)(hr:Hp)(hri:RangeIn hr rv r)(ur:RU8 r)(nr:RLen 140737488355000 r)(F:Pr)(w:World)(hF:OwnL [VaultA v s,Pr.own hr,F] w):
 Calls Tryz.prog 31 #[.pointer (some ⟨v,0,none⟩),treeV root height items,rv] w fun e w'=>Stays w w'∧∃tb sb pv zs a,e= .returned (.func (.func 95) #[] #[.pointer (some ⟨tb,0,none⟩)])∧zs.map (·.2)=(L.filter fun x=>hasR r x.key).map (pairK look)∧PairsIn a pv zs∧
  OwnL [WalkOwn tb sb 97 pv a,VaultA v s,Pr.own hr,F] w':=by
 obtain⟨lo,hi,rfl,hlo,hhi⟩:=id hri;obtain⟨al,cl,rfl,_⟩:=bytes_rd hlo;obtain⟨ah,ch,rfl,_⟩:=bytes_rd hhi;have hs0:=(hF.alloc (treeC root height items)).alloc (rangeC (.slice al r.lo.length cl) (.slice ah r.hi.length ch) r.op);have PA:=hQ (pairs_any v s look hl okp root height items L hT _ r hr hri ur nr _ _ (OwnL.in2 (hs0.pull2 (A1:=VaultA v s) (A2:=Pr.own hr))))
 have HST:=hQ (((Stays.refl w).alloc (treeC root height items)).alloc (rangeC (.slice al r.lo.length cl) (.slice ah r.hi.length ch) r.op));clear hF hlo hhi hri hT hl okp ur nr hs0;go_enter Tryz.func31,Tryz.ntmps31
 go_wp2_with fail
 refine PA.out.mono ?_;rintro e w1 ⟨st1,o,zs,rfl,hz,hs1⟩;have hs2:=hs1.flat;obtain⟨oa,oc,rfl⟩:=Row.shape (hs2.pull1 (A1:=PairRow o zs));have hs3:=hs2.join2 (PairRow (.slice oa zs.length oc) zs) (big pairRows zs);obtain⟨a,ha,hs4⟩:=hs3.arena ((PairRow (.slice oa zs.length oc) zs).star (big pairRows zs));have HP:=hQ (pairs_in ha);have HE:=hQ hs4;have HST1:=hQ (HST.out.trans st1);have HZ:=hQ hz
 clear hs1 hs2 hs3 hs4 ha st1 hz PA HST;go_wp2_with fail
 refine(backwardF_any _ _ _ _).mono ?_;rintro e w2 ⟨rfl,rfl⟩;have h5:=(HE.out.alloc (.cells #[.slice oa zs.length oc] 60));have st5:=(HST1.out.alloc (.cells #[.slice oa zs.length oc] 60));clear HE HST1;generalize w1.alloc (.cells #[.slice oa zs.length oc] 60)=w3 at*;generalize w1.heap.size=sb at*;have HE:=hQ h5;have HST1:=hQ st5;clear h5 st5;go_wp2_with fail
 refine(told_any 97 sb _).mono ?_;rintro e w4 ⟨rfl,rfl⟩;go_wp2;go_ret;refine⟨HST1.out.alloc _,_,sb,.slice oa zs.length oc,zs,a,rfl,HZ.out,HP.out,?_⟩
 have h6:=(HE.out.alloc (.cells #[.func (.func 97) #[] #[.pointer (some ⟨sb,0,none⟩)]] 129)).to (M:= [Pr.pts w3.heap.size (.cells #[.func (.func 97) #[] #[.pointer (some ⟨sb,0,none⟩)]] 129),Pr.pts sb (.cells #[.slice oa zs.length oc] 60),Pr.own a,VaultA v s,Pr.own hr,F]);exact⟨h6.sat.perm (by simp only [starL,Pr.star_emp,Pr.star_assoc,WalkOwn,BackOwnP])⟩
end Go.Proofs.YtiegeadmgpanoaaGreatDoor.C9
namespace Go.Proofs.YtiegeadmgpanoaaGreatDoor.D9
open ChangeShapes WideShapes ChangeAt RowKit Sl Cop Go.Shelf D2 F3 N3 P3 G2 J2 Q3 V3 G4 K4 X3 M5 P5 U5 W5 N2 P2 L6 S6 J7 N5 S5 K7 V7 Z7 B8 G6 J6 T6 B6 M2 N7 M7 K3 C4 D4 F4 M4 G5 K5 F6 D7 C8 K8 Q7 U7 X5 Y5 X7 G8 M8 D8 W7 J8 Y8 N8
attribute [local go_sem] Oper.semAt_some
theorem infoTree3:(Tryz.prog.info? 35).map (·.size)=some 3:=by kernel_rfl
theorem load_tree {w:World}{b:Nat}{x y z:Value}{fz:Nat × Nat}(h:w.heap[b]? =some (.cells #[x,y,z] 35 fz)):(loadVar 35 ⟨b,0,none⟩).run Tryz.prog w= .ok (.agg #[x,y,z]) w:=
 run_loadVar_row (P:=Tryz.prog) w b _ _ _ _ _ h Tryz.underlying35 rfl infoTree3
theorem results_cell_tmp {fn:Func}{p u:Tmp}{ty:TypeId}(h:fn.results= #[.cell p ty,.tmp u])(tmps:Array Value)(w:World)(g:Nat)(x y:Value)
 (hp:tmps.getD p undef= .pointer (some ⟨g,0,none⟩)) (hr:(loadVar ty ⟨g,0,none⟩).run Tryz.prog w= .ok x w) (hy:tmps.getD u undef=y):
 (results fn tmps).run Tryz.prog w= .ok (.tuple #[x,y]) w:=by
 have hp':tmps[p]?.getD undef= .pointer (some ⟨g,0,none⟩):=by simpa using hp
 have hy':tmps[u]?.getD undef=y:=by simpa using hy
 simp [results,h,hp',hy',asAddr,Result.andThen,hr]
def TreeTold(look:Int→Option PageV)(e:Ending)(P:Prop):Prop:= ∃(t:TreeV) (b:Bool),e= .returned (.tuple #[treeV t.root t.height t.items,.bool b])∧(b=true→checkK look t.root t.height t.items=0)∧P
theorem rtree_any(r:Nat)(s:PoolS)(gs:List PageV)(hush:RTail)(x0:RX)(ok0:ROk s gs x0)(look:Int→Option PageV)(hl:RLooks s gs look)(okp:PgsOk look)(ts:List TreeV)(tv:Value)(h:Hp)(ht:TreesIn h tv ts)(which:Int)(F:Pr)(w:World)(hF:OwnL [RefAt r s gs hush x0,Pr.own h,F] w):
 Calls Tryz.prog 12 #[.pointer (some ⟨r,0,none⟩),tv,.int .i64 which] w fun e w'=>Stays w w'∧TreeTold look e (OwnL [RefAt r s gs hush x0,Pr.own h,F] w'):=by
 obtain⟨at',ct,rfl,rd⟩:=trees_rd ht;obtain⟨hs1,_⟩:=hF.fresh [.int .i64 0,.int .i64 0,.int .i64 0] 35 w.heap.size rfl;have HS1:=hQ hs1;have c1:=hs1.facts;simp only [CellsAt,Nat.reduceAdd,and_true] at c1;have HST1:=hQ ((Stays.refl w).alloc (.cells [Value.int .i64 0,.int .i64 0,.int .i64 0].toArray 35));by_cases hin:which<0∨(ts.length:Int)≤which
 · clear hF hs1 ht rd ok0 hl okp
   by_cases h0:which<0
   all_goals
    have h1:¬which<0→(ts.length:Int)≤which:=by omega
    clear hin;go_enter Tryz.func12,Tryz.ntmps12
    (try have h2:=h1 h0)
    go_wp2;refine bodyPost_ret (results_cell_tmp rfl _ _ w.heap.size (.agg #[.int .i64 0,.int .i64 0,.int .i64 0]) (.bool false) rfl (load_tree (HS1.out.pts w.heap.size).pts_heap) rfl) rfl ?_;exact⟨HST1.out,⟨0,0,0⟩,false,rfl,(fun h=>by cases h),HS1.out.to⟩
 · obtain⟨i,rfl⟩:∃i:Nat,which=(i:Int):=⟨which.toNat,by omega⟩
   have hlt:i<ts.length:=by omega
   have hil:(i:Int)<(ts.length:Int):=by omega
   obtain⟨tb,off,rfl,hc⟩:=rd i hlt;generalize ts[i]=t at*;obtain⟨w0,hw0⟩:∃w0,w.alloc (.cells #[Value.int .i64 0,.int .i64 0,.int .i64 0] 35)=w0:=⟨_,rfl⟩;have hs1:OwnL [Pr.pts w.heap.size (.cells #[Value.int .i64 0,.int .i64 0,.int .i64 0] 35),RefAt r s gs hush x0,Pr.own h,F] w0:=hw0 ▸ HS1.out;have hst1:Stays w w0:=hw0 ▸ HST1.out;clear c1 HS1 HST1;have c1:=hs1.facts
   simp only [CellsAt,Nat.reduceAdd,and_true] at c1;have HST1:=hQ hst1;obtain⟨e0,e1,e2⟩:=hc _ (hs1.le (a:=h));have ez:=World.block_lt_of_cell? _ _ e0;simp only at ez;have hs2:=hs1.drew.alloc (.cells #[.int .i64 t.root,.int .i64 t.height,.int .i64 t.items] 35);rw [World.size_drew] at hs2
   have h3:=hs2.pull1 (A1:=Pr.pts w0.heap.size (.cells #[.int .i64 t.root,.int .i64 t.height,.int .i64 t.items] 35));have h4:=OwnL.of1 (Row.mk' (T:=35) (k:=3) (b:=w0.heap.size) (cap:=1) (n:=1) (xs:=treeCells t) (sp:= []) rfl rfl (Nat.le_refl _) (by simp [maxLen]) h3);obtain⟨a,ha,h5⟩:=h4.arena (Row 35 3 (.slice (some ⟨w0.heap.size,0,none⟩) 1 1) 1 (treeCells t))
   have htr:TreesIn a (.slice (some ⟨w0.heap.size,0,none⟩) 1 1) [t]:=by
    have:=Row.rowIn ha
    show RowIn a 3 _ 1 ([t].flatMap treeCells)
    rw [show [t].flatMap treeCells=treeCells t by simp];exact this
   have SD:=hQ (rstand_any r s gs hush x0 ok0 look hl okp [t] _ a htr (by simp) _ _ (OwnL.in2 (h5.pull2 (A1:=RefAt r s gs hush x0) (A2:=Pr.own a))));have HSTB:=hQ (HST1.out.drew.alloc (.cells #[.int .i64 t.root,.int .i64 t.height,.int .i64 t.items] 35));have HW0:=hQ hw0;have HC:=hQ hc;have HS2:=hQ hs2;clear hF hs1 hst1 hs2 h3 h4 h5 ht rd hw0 hin ok0 hl okp hc htr ha
   go_enter Tryz.func12,Tryz.ntmps12
   go_wp2;rw [HW0.out];generalize w.heap.size=A6 at*;refine wS 28 [0,1,2,3,4,5,6,7,8] [(9,[],[0,1,2,3,4,5,6,7]),(10,[],[0,1,2,3,5,6,7]),(11,[12],[5,6,7])] ?_;refine wpQ_all _ rfl rfl ?_;simp only [pick,pQ];iterate 9 (go_big_quiet_step (fail))
   refine wpQuiet_nil ?_;refine wpRest_act rfl ?_;go_wp2;refine onN_mk ?_;refine wpQ_nil ⟨?_,?_⟩
   · exact cQ
   refine wpRest_act rfl ?_;go_wp2_with fail
   refine SD.out.mono ?_;rintro e w5 ⟨st5,b,rfl,hb,hs5⟩;have hs6:=hs5.flat;have HS6:=hQ hs6;have HB:=hQ hb;have HST5:=hQ (HSTB.out.trans st5);clear c1;have c1:=hs6.facts;simp only [CellsAt,Nat.reduceAdd,and_true] at c1;clear e0 e1 e2 ez;obtain⟨e0,e1,e2⟩:=HC.out w5 (hs6.le (a:=h));have ez:=World.block_lt_of_cell? _ _ e0;simp only at ez
   have hna:A6≠tb:=fun e=>by
    subst e;have h1:=(hs6.pull2 (A1:=Pr.pts A6 (.cells #[Value.int .i64 0,.int .i64 0,.int .i64 0] 35)) (A2:=Pr.own h)).putObj (.cells #[] 35);have h2:=(HC.out _ h1.right.own).1;rw [cell_of_heap h1.pts_heap] at h2;simp at h2
   clear hs5 hs6 hb st5 SD HSTB HC HS2;go_wp2;refine onN_mk ?_;refine wpQ_nil ⟨?_,?_⟩
   · exact cQ
   refine wpRest_act rfl ?_;go_wp2;refine onN_mk ?_;refine wpQ_all _ rfl rfl ?_;simp only [pick,pQ];iterate 1 (go_big_quiet_step (fail))
   refine wpQuiet_nil ⟨?_,?_⟩
   · exact cQ
   refine wpRest_nil ?_;go_wp2;have h6:=((HS6.out.set A6 0 (.int .i64 t.root)).set A6 1 (.int .i64 t.height)).set A6 2 (.int .i64 t.items);refine bodyPost_ret (results_cell_tmp rfl _ _ A6 (.agg #[.int .i64 t.root,.int .i64 t.height,.int .i64 t.items]) (.bool b) rfl (load_tree (h6.pts A6).pts_heap) rfl) rfl ?_
   exact⟨((HST5.out.setCell _ _).setCell _ _).setCell _ _,t,b,rfl,(fun h=>HB.out h t (by simp)),h6.to⟩
end Go.Proofs.YtiegeadmgpanoaaGreatDoor.D9
