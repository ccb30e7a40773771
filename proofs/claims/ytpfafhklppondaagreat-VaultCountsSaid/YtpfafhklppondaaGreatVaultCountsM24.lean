/- The law's book of pages that were told; keep: a page goes into it; the conditions stand as hypotheses. -/
import Derived.Test.YtpfafhklppondaaGreatVaultCountsM23
import Derived.Test.YtpfafhklppondaaGreatVaultCountsM05
import Derived.Test.YtpfafhklppondaaGreatVaultCountsM22
import Derived.Test.YtpfafhklppondaaGreatVaultCountsM01
set_option maxRecDepth 100000
set_option maxHeartbeats 16000000
namespace Go.Proofs.YtpfafhklppondaaGreat.J7
open ChangeShapes WideShapes ChangeAt RowKit Sl Cop M2 P3 Q2 X2 J4 L4 P4 Q6 Y6 C7 G5 E7 F7 G7 Z6
theorem infoPg:(Tryz.prog.info? 37).map (fun i=>(i.zero,i.size,i.bytes))=some (some (.agg #[.int .i64 0,.int .i64 0,.slice none 0 0,.slice none 0 0,.int .i64 0]),5,72):=by kernel_rfl
structure BkE where
 t:ToldX
 wi:Value
 wd:Value
def bkT(e:BkE):List Value:= [.int .i64 e.t.g.kind,.int .i64 e.t.g.level,e.t.vi,e.t.vd,.int .i64 e.t.g.next]
def bkW(e:BkE):List Value:= [.int .i64 e.t.g.kind,.int .i64 e.t.g.level,e.wi,e.wd,.int .i64 e.t.g.next]
def bkOwn(e:BkE):Pr:=PgOwn e.t
structure WkE where
 fv:Value
 wv:Value
 l:List NumV
def wkCells(k:WkE):List Value:= [k.fv,k.wv]
structure WkOk(h:Hp)(k:WkE):Prop where
 walk:WalkIn h k.fv k.l
 want:NumsIn h k.wv k.l
 fit:∀x∈k.l,Fit x.page
 len:k.l.length≤65536
structure BX where
 tv:Value
 xv:Value
 bs:List BkE
structure BOk(h:Hp)(y:BX):Prop where
 bs:∀e∈y.bs,Fit e.t.g∧PageIn h (pageV e.t.g.kind e.t.g.level e.wi e.wd e.t.g.next) e.t.g
 bl:y.bs.length≤40
theorem BOk.sub {a b:Hp}(hs:a.sub b){y:BX}(h:BOk a y):BOk b y:=⟨fun e he=>⟨(h.bs e he).1,(h.bs e he).2.sub hs⟩,h.bl⟩
theorem WkOk.sub {a b:Hp}(hs:a.sub b){k:WkE}(h:WkOk a k):WkOk b k:=by
 obtain⟨xs,h1,h2,h3⟩:=h.want;exact⟨h.walk.sub hs,⟨xs,h1,h2.sub hs,fun i hx hl=>⟨(h3 i hx hl).1.sub hs,(h3 i hx hl).2.sub hs⟩⟩,h.fit,h.len⟩
abbrev workO(wb v r:Nat)(kv tv xv:Value):Pr:=Pr.pts wb (.cells #[.pointer (some ⟨v,0,none⟩),.pointer (some ⟨r,0,none⟩),kv,tv,xv] 79)
abbrev WksRow(kv:Value)(ws:List WkE):Pr:=Row 125 2 kv ws.length (ws.flatMap wkCells)
abbrev TldRow(tv:Value)(bs:List BkE):Pr:=Row 37 5 tv bs.length (bs.flatMap bkT)
abbrev WntRow(xv:Value)(bs:List BkE):Pr:=Row 37 5 xv bs.length (bs.flatMap bkW)
abbrev BookP(wb v r:Nat)(kv:Value)(y:BX)(T:Pr):Pr:=(workO wb v r kv y.tv y.xv).star ((TldRow y.tv y.bs).star ((WntRow y.xv y.bs).star ((big bkOwn y.bs).star T)))
def BookE(wb v r:Nat)(kv:Value)(h:Hp):Pr:=Pr.ex fun y:BX=>(Pr.pure (BOk h y)).star (BookP wb v r kv y Pr.emp)
theorem bookE_iff {wb v r:Nat}{kv:Value}{h:Hp}{F:Pr}{w:World}:Sat ((BookE wb v r kv h).star F) w↔∃y,BOk h y∧Sat (BookP wb v r kv y F) w:=by
 have e:∀y,(BookP wb v r kv y Pr.emp).star F=BookP wb v r kv y F:=fun y=>by simp only [BookP,Pr.star_assoc,Pr.emp_star]
 unfold BookE;rw [Sat.ex];constructor
 · rintro⟨y,h2⟩
   rw [Pr.star_assoc] at h2;obtain⟨h3,h4⟩:=Sat.pure.1 h2;exact⟨y,h3,h4.perm (e y)⟩
 · rintro⟨y,h1,h2⟩
   refine⟨y,?_⟩;rw [Pr.star_assoc];exact Sat.pure.2 ⟨h1,h2.perm (e y).symm⟩
def WalksE(kv:Value)(ws:List WkE)(h:Hp):Pr:=(Pr.pure (∀k∈ws,WkOk h k)).star (WksRow kv ws)
theorem BOk.more {h:Hp}{y:BX}(ok:BOk h y){e:BkE}(hl:y.bs.length<40)(fit:Fit e.t.g)(hw:PageIn h (pageV e.t.g.kind e.t.g.level e.wi e.wd e.t.g.next) e.t.g)(tv xv:Value):
 BOk h ⟨tv,xv,y.bs++ [e]⟩:=by
 refine⟨fun x hx=> ?_,by show (y.bs++ [e]).length≤40;rw [List.length_append,List.length_singleton];omega⟩;rcases List.mem_append.1 hx with hx | hx
 · exact ok.bs x hx
 · rw [List.mem_singleton.1 hx];exact⟨fit,hw⟩
theorem keep_any(wb v r:Nat)(kv:Value)(t:ToldX)(fit:Fit t.g)(h':Hp)(wi wd:Value)(hw:PageIn h' (pageV t.g.kind t.g.level wi wd t.g.next) t.g)(F:Pr)(w:World)(hF:Sat ((BookE wb v r kv h').star ((PgOwn t).star ((Pr.own h').star F))) w):
 Calls Tryz.prog 80 #[.pointer (some ⟨wb,0,none⟩),t.pv,pageV t.g.kind t.g.level wi wd t.g.next] w fun e w'=>e= .returned (.bool true)∧Stays w w'∧Sat ((BookE wb v r kv h').star ((Pr.own h').star F)) w':=by
 obtain⟨y,ok,h0⟩:=bookE_iff.1 hF;obtain⟨hyl,h00⟩:=pgOwn_iff.1 (((OwnL.in6 h0).pull1 (A1:=PgOwn t)));obtain⟨vi,vd,ys,g⟩:=t;dsimp only at hyl fit hw h00;obtain⟨ai,ci,e1⟩:=Row.shape h00;obtain⟨ad,cd,e2⟩:=Row.shape h00.right.right;dsimp only at e1 e2 ⊢;subst e1 e2;obtain⟨wi',wd',ew,hwi,hwd⟩:=id hw;simp only [pageV,Value.agg.injEq,Array.mk.injEq,List.cons.injEq,and_true,true_and] at ew
 obtain⟨rfl,rfl⟩:=ew;obtain⟨bi,di,rfl,_,_⟩:=items_rd hwi;obtain⟨bd,dd,rfl⟩:=bytes_shape hwd;obtain⟨tv,xv,bs⟩:=y;have hs0:=OwnL.in6 h0;try dsimp only at hs0
 obtain⟨at',ct,rfl⟩:=Row.shape (hs0.row tv);obtain⟨ax,cx,rfl⟩:=Row.shape (hs0.row xv);have hs1:=(hs0.alloc (pageC g.kind g.level (.slice ai g.items.length ci) (.slice ad g.data.length cd) g.next)).alloc (pageC g.kind g.level (.slice bi g.items.length di) (.slice bd g.data.length dd) g.next)
 rw [show (w.alloc (pageC g.kind g.level (.slice ai g.items.length ci) (.slice ad g.data.length cd) g.next)).heap.size=w.heap.size+1 by simp] at hs1;have HST:=hQ (((Stays.refl w).alloc (pageC g.kind g.level (.slice ai g.items.length ci) (.slice ad g.data.length cd) g.next)).alloc (pageC g.kind g.level (.slice bi g.items.length di) (.slice bd g.data.length dd) g.next));have c1:=hs1.facts
 simp only [CellsAt,Nat.reduceAdd,and_true] at c1;have HOK:=hQ ok;have HW:=hQ hw;have HFIT:=hQ fit;have hbl:bs.length≤40:=ok.bl;obtain⟨bn,hbn⟩:∃bn,bs.length=bn:=⟨_,rfl⟩;have HBN:=hQ hbn;rw [hbn] at hbl;obtain⟨j0,hj,hy0,hy1,hy2⟩:=info_parts infoPg;by_cases hlt:bn<40
 · have hlt3:(bn:Int)<40:=by omega
   have HLT:=hQ hlt;dsimp only [TldRow,WntRow] at hs1;rw [hbn] at hs1;rw [hbn] at c1;clear hF h0 h00 hs0 hw hwi hwd ok hyl fit hlt;have HS1:=hQ hs1;clear hs1;rw [show ToldX.pv ⟨.slice ai g.items.length ci,.slice ad g.data.length cd,ys,g⟩=pageV g.kind g.level (.slice ai g.items.length ci) (.slice ad g.data.length cd) g.next from rfl];go_enter Tryz.func80,Tryz.ntmps80
   go_wp2_with fail
   have hs1:=HS1.out;have hst1:=HST.out;clear HS1 HST;generalize hw2:(w.alloc (pageC g.kind g.level (.slice ai g.items.length ci) (.slice ad g.data.length cd) g.next)).alloc (pageC g.kind g.level (.slice bi g.items.length di) (.slice bd g.data.length dd) g.next)=w2 at*
   obtain⟨hs2,hn2⟩:=hs1.freshD [.int .i64 g.kind,.int .i64 g.level,.slice ai g.items.length ci,.slice ad g.data.length cd,.int .i64 g.next] 37 w2.heap.size rfl;have A1:=hQ (hs2.drop.pull1 (A1:=Row 37 5 (.slice at' bn ct) bn (bs.flatMap bkT)));have HNEW:=hQ hn2
   have HSTA:=hQ (hst1.alloc (.cells [Value.int .i64 g.kind,.int .i64 g.level,.slice ai g.items.length ci,.slice ad g.data.length cd,.int .i64 g.next].toArray 37)).drew;clear hs1 hs2 hn2 hst1 hw2;refine wS 36 [0,1,2,3,4,5] [(6,[],[0,1,2,3,4]),(7,[8,9],[0,1,2,3]),(10,[],[8])] ?_;refine wpQ_all _ rfl rfl ?_;simp only [pick,pQ];iterate 6 (go_big_quiet_step (fail))
   refine wpQuiet_nil ?_;refine wpRest_act rfl ?_;go_wp2;refine onN_mk ?_;refine wpQ_nil ⟨?_,?_⟩
   · exact cQ
   refine wpRest_act rfl ?_
   refine wpList_appN rfl _ _ _ rfl 37 j0 (.agg #[.int .i64 0,.int .i64 0,.slice none 0 0,.slice none 0 0,.int .i64 0]) 5 72 Tryz.underlying77 hj hy0 hy1 hy2 rfl _ _ _ rfl A1.out ⟨w2.heap.size,0,none⟩ 1 1 [.int .i64 g.kind,.int .i64 g.level,.slice ai g.items.length ci,.slice ad g.data.length cd,.int .i64 g.next] rfl rfl HNEW.out (by simp [Value.oneCell']) (by simp only [maxLen];omega) (by omega) (fun v7 w7 hs7 hg7 K0 hK0=> ?_)
   obtain⟨a7,c7,e7,_,_⟩:=Row.read hs7;subst e7;go_simp;refine hK0 _ ?_;clear hK0 K0;have HS7:=hQ (OwnL.of1 hs7);have HST7:=hQ (HSTA.out.of_grown hg7);clear hs7 hg7 A1 HNEW HSTA c1;have c1:=HS7.out.facts;simp only [CellsAt,Nat.reduceAdd,and_true] at c1;refine wpList_nil ?_;refine onN_mk ?_;refine wpQ_all _ rfl rfl ?_;simp only [pick,pQ];iterate 2 (go_big_quiet_step (fail))
   refine wpQuiet_nil ⟨?_,?_⟩
   · exact cQ
   refine wpRest_act rfl ?_;go_wp2;refine onN_mk ?_;refine wpQ_nil ⟨?_,?_⟩
   · exact cQ
   refine wpRest_nil ?_;have hs8:=(HS7.out.set wb 3 (.slice a7 (bn+1) c7));have HST8:=hQ (HST7.out.setCell ⟨wb,3,none⟩ (.slice a7 (bn+1) c7));clear c1 HS7 HST7;generalize hw8:w7.setCell ⟨wb,3,none⟩ (.slice a7 (bn+1) c7)=w8 at*;have c1:=hs8.facts;simp only [CellsAt,Nat.reduceAdd,and_true] at c1
   obtain⟨hs9,hn9⟩:=hs8.freshD [.int .i64 g.kind,.int .i64 g.level,.slice bi g.items.length di,.slice bd g.data.length dd,.int .i64 g.next] 37 w8.heap.size rfl;have A1:=hQ (hs9.drop.pull1 (A1:=Row 37 5 (.slice ax bn cx) bn (bs.flatMap bkW)));have HNEW:=hQ hn9
   have HSTA:=hQ (HST8.out.alloc (.cells [Value.int .i64 g.kind,.int .i64 g.level,.slice bi g.items.length di,.slice bd g.data.length dd,.int .i64 g.next].toArray 37)).drew;clear hs8 hs9 hn9 HST8 hw8;go_wp2_with fail
   refine wS 36 [0,1,2,3,4,5] [(6,[],[0,1,2,3,4]),(7,[8,9],[0,1,2,3]),(10,[],[8])] ?_;refine wpQ_all _ rfl rfl ?_;simp only [pick,pQ];iterate 6 (go_big_quiet_step (fail))
   refine wpQuiet_nil ?_;refine wpRest_act rfl ?_;go_wp2;refine onN_mk ?_;refine wpQ_nil ⟨?_,?_⟩
   · exact cQ
   refine wpRest_act rfl ?_
   refine wpList_appN rfl _ _ _ rfl 37 j0 (.agg #[.int .i64 0,.int .i64 0,.slice none 0 0,.slice none 0 0,.int .i64 0]) 5 72 Tryz.underlying77 hj hy0 hy1 hy2 rfl _ _ _ rfl A1.out ⟨w8.heap.size,0,none⟩ 1 1 [.int .i64 g.kind,.int .i64 g.level,.slice bi g.items.length di,.slice bd g.data.length dd,.int .i64 g.next] rfl rfl HNEW.out (by simp [Value.oneCell']) (by simp only [maxLen];omega) (by omega) (fun v9 w9 hs9 hg9 K0 hK0=> ?_)
   obtain⟨a9,c9,e9,_,_⟩:=Row.read hs9;subst e9;go_simp;refine hK0 _ ?_;clear hK0 K0;have HS9:=hQ (OwnL.of1 hs9);have HST9:=hQ (HSTA.out.of_grown hg9);clear hs9 hg9 A1 HNEW HSTA c1;have c1:=HS9.out.facts;simp only [CellsAt,Nat.reduceAdd,and_true] at c1;refine wpList_nil ?_;refine onN_mk ?_;refine wpQ_all _ rfl rfl ?_;simp only [pick,pQ];iterate 2 (go_big_quiet_step (fail))
   refine wpQuiet_nil ⟨?_,?_⟩
   · exact cQ
   refine wpRest_act rfl ?_;go_wp2;refine onN_mk ?_;refine wpQ_nil ⟨?_,?_⟩
   · exact cQ
   refine wpRest_nil ?_;obtain⟨a,ha,hs11⟩:=(HS9.out.set wb 4 (.slice a9 (bn+1) c9)).arena (PgOwn ⟨.slice ai g.items.length ci,.slice ad g.data.length cd,ys,g⟩);have HST11:=hQ (HST9.out.setCell ⟨wb,4,none⟩ (.slice a9 (bn+1) c9));clear c1 HS9 HST9;generalize hw11:w9.setCell ⟨wb,4,none⟩ (.slice a9 (bn+1) c9)=w11 at*
   have EQ:=hQ (eqpage_same a h' _ _ g (pgOwn_in ha) HW.out HFIT.out w11 hs11.le hs11.le);have c1:=hs11.facts;simp only [CellsAt,Nat.reduceAdd,and_true] at c1;have HA:=hQ ha;have HS11:=hQ hs11;rw [show ToldX.pv ⟨.slice ai g.items.length ci,.slice ad g.data.length cd,ys,g⟩=pageV g.kind g.level (.slice ai g.items.length ci) (.slice ad g.data.length cd) g.next from rfl] at EQ;clear ha hs11 hw11
   go_wp2_with fail
   refine EQ.out.mono ?_;rintro e w12 ⟨rfl,ho⟩;have hs12:=(HS11.out.ext ho.heap).back (PgOwn ⟨.slice ai g.items.length ci,.slice ad g.data.length cd,ys,g⟩) HA.out;have HS12:=hQ hs12;have HST12:=hQ (HST11.out.trans ho.st);clear hs12 ho EQ HS11 c1;go_wp2;go_ret;refine⟨rfl,HST12.out,?_⟩
   have h13b:=OwnL.of1 (show Sat ((bkOwn ⟨⟨.slice ai g.items.length ci,.slice ad g.data.length cd,ys,g⟩,.slice bi g.items.length di,.slice bd g.data.length dd⟩).star (starL _)) _ from HS12.out.pull1 (A1:=PgOwn ⟨.slice ai g.items.length ci,.slice ad g.data.length cd,ys,g⟩))
   have h14:=h13b.snoc bkOwn bs ⟨⟨.slice ai g.items.length ci,.slice ad g.data.length cd,ys,g⟩,.slice bi g.items.length di,.slice bd g.data.length dd⟩
   refine bookE_iff.2 ⟨⟨.slice a7 (bn+1) c7,.slice a9 (bn+1) c9,bs++ [⟨⟨.slice ai g.items.length ci,.slice ad g.data.length cd,ys,g⟩,.slice bi g.items.length di,.slice bd g.data.length dd⟩]⟩,
    HOK.out.more (by show bs.length<40;rw [HBN.out];exact HLT.out) HFIT.out HW.out _ _,?_⟩
   dsimp only [BookP,TldRow,WntRow];rw [List.length_append,List.flatMap_append,List.flatMap_append,List.length_singleton,HBN.out,List.flatMap_singleton,List.flatMap_singleton];dsimp only [bkT,bkW];exact h14.end6 (A6:=F)
 · have hge3:(40:Int)≤(bn:Int):=by omega
   obtain⟨a,ha,hs2⟩:=hs1.arena (PgOwn ⟨.slice ai g.items.length ci,.slice ad g.data.length cd,ys,g⟩);obtain⟨w11,hw11⟩:∃w11,w11=(w.alloc (pageC g.kind g.level (.slice ai g.items.length ci) (.slice ad g.data.length cd) g.next)).alloc (pageC g.kind g.level (.slice bi g.items.length di) (.slice bd g.data.length dd) g.next):=⟨_,rfl⟩
   have EQ:=hQ (eqpage_same a h' _ _ g (pgOwn_in ha) HW.out HFIT.out _ hs2.le hs2.le);have HA:=hQ ha;have HS2:=hQ hs2;rw [show ToldX.pv ⟨.slice ai g.items.length ci,.slice ad g.data.length cd,ys,g⟩=pageV g.kind g.level (.slice ai g.items.length ci) (.slice ad g.data.length cd) g.next from rfl] at EQ;rw [hbn] at c1;clear hF h0 h00 hs0 hs1 hs2 ha hw hwi hwd ok hyl fit hlt
   rw [show ToldX.pv ⟨.slice ai g.items.length ci,.slice ad g.data.length cd,ys,g⟩=pageV g.kind g.level (.slice ai g.items.length ci) (.slice ad g.data.length cd) g.next from rfl];go_enter Tryz.func80,Tryz.ntmps80
   go_wp2_with fail
   refine EQ.out.mono ?_;rintro e w12 ⟨rfl,ho⟩;have hs12:=(HS2.out.ext ho.heap).back (PgOwn ⟨.slice ai g.items.length ci,.slice ad g.data.length cd,ys,g⟩) HA.out;have HS12:=hQ hs12;have HST12:=hQ (HST.out.trans ho.st);clear hs12 ho EQ HS2 c1;go_wp2;go_ret;exact⟨rfl,HST12.out,bookE_iff.2 ⟨_,HOK.out,HS12.out.end6 (A6:=F)⟩⟩
end Go.Proofs.YtpfafhklppondaaGreat.J7
namespace Go.Proofs.YtpfafhklppondaaGreat.K7
open ChangeShapes WideShapes ChangeAt RowKit Sl Cop Go.Shelf M2 P3 Q2 X2 J4 L4 P4 Q6 Y6 C7 G5 E7 F7 G7 J7
attribute [local go_sem] Oper.semAt_some
theorem run_loadVar_bool {P:Program}{ty:TypeId}(hu:P.underlying ty=some .bool){w:World}{g:Nat}{v:Value}(hc:w.cell? ⟨g,0,none⟩=some v):(loadVar ty ⟨g,0,none⟩).run P w= .ok v w:=by
 have h1:(underlying ty).run P w= .ok .bool w:=by simp [underlying,hu,go_sem]
 simp [loadVar,isAgg,h1,hc,Result.andThen]
theorem results_cell1 {P:Program}{fn:Func}{p:Tmp}{ty:TypeId}(h:fn.results= #[.cell p ty])(hu:P.underlying ty=some .bool)(tmps:Array Value)(w:World)(g:Nat)(v:Value)
 (hp:tmps.getD p undef= .pointer (some ⟨g,0,none⟩)) (hc:w.cell? ⟨g,0,none⟩=some v):(results fn tmps).run P w= .ok v w:=by
 have hp':tmps[p]?.getD undef= .pointer (some ⟨g,0,none⟩):=by simpa using hp
 simp [results,h,hp',asAddr,run_loadVar_bool hu hc]
theorem func_nil(f:Nat)(c:Array Value)(w:World):(binOp .eql 95 (.func (.func f) #[] c) .nilFunc).run Tryz.prog w= .ok (.bool false) w:=by kernel_rfl
attribute [local go_sem] func_nil
abbrev GBoxes(wb:Nat)(wv:Value)(k:Int)(b:Nat)(res:Bool)(i:Nat)(T:Pr):Pr:=(Pr.pts b (.cells #[.pointer (some ⟨wb,0,none⟩)] 75)).star ((Pr.pts (b+1) (.cells #[wv] 30)).star ((Pr.pts (b+1+1) (.cells #[.int .i64 k] 3)).star
 ((Pr.pts (b+1+1+1) (.cells #[.bool res] 4)).star ((Pr.pts (b+1+1+1+1) (.cells #[.int .i64 i] 3)).star T))))
theorem pv_eq {t:ToldX}:t.pv=pageV t.g.kind t.g.level t.vi t.vd t.g.next:=rfl
theorem goes_any(wb v r:Nat)(kv:Value)(h:Hp)(fv wv:Value)(l:List NumV)(hwk:WalkIn h fv l)(hwn:NumsIn h wv l)(hfit:∀x∈l,Fit x.page)(hl:l.length≤65536)(k:Int)(F:Pr)(w:World)
 (hF:Sat ((BookE wb v r kv h).star ((Pr.own h).star F)) w):
 Calls Tryz.prog 83 #[.pointer (some ⟨wb,0,none⟩),fv,wv,.int .i64 k] w fun e w'=>e= .returned (.bool true)∧Stays w w'∧Sat ((BookE wb v r kv h).star ((Pr.own h).star F)) w':=by
 obtain⟨lb,lv,rfl,hlb,hn⟩:=hwk;obtain⟨wa,wc,rfl,rd⟩:=nums_rd hwn;have e1:(w.alloc (.cells #[.pointer (some ⟨wb,0,none⟩)] 75)).heap.size=w.heap.size+1:=by simp
 have hs0:=OwnL.in2 hF;obtain⟨hs1,_⟩:=hs0.fresh [.pointer (some ⟨wb,0,none⟩)] 75 w.heap.size rfl;obtain⟨hs2,_⟩:=hs1.fresh [.slice wa l.length wc] 30 (w.heap.size+1) (by simp);obtain⟨hs3,_⟩:=hs2.fresh [.int .i64 k] 3 (w.heap.size+1+1) (by simp);obtain⟨hs4,_⟩:=hs3.fresh [.bool false] 4 (w.heap.size+1+1+1) (by simp);obtain⟨hs5,_⟩:=hs4.fresh [.int .i64 0] 3 (w.heap.size+1+1+1+1) (by simp)
 have HS5:=hQ hs5;have HST:=hQ ((((((Stays.refl w).alloc (.cells [Value.pointer (some ⟨wb,0,none⟩)].toArray 75)).alloc (.cells [Value.slice wa l.length wc].toArray 30)).alloc (.cells [Value.int .i64 k].toArray 3)).alloc (.cells [Value.bool false].toArray 4)).alloc (.cells [Value.int .i64 0].toArray 3));have HFIT:=hQ hfit;have RD:=hQ rd;have hl3:(l.length:Int)≤65536:=by omega
 have W1:=hQ (walk1 h lb lv l hlb hn hfit hl);clear hF hs0 hs1 hs2 hs3 hs4 hs5 hfit rd hn hlb hwn e1;refine calls_of_wp_marks (n:=9) Tryz.func83 rfl ?_;simp only [Tryz.ntmps83,List.size_toArray,List.length_cons,List.length_nil,Nat.reduceAdd,Nat.reduceSub,Array.replicate_succ,Array.replicate_zero,List.push_toArray,List.append_toArray,List.nil_append,List.cons_append];go_wp2
 refine wp_rangeFunc_v 9 (gf:=106) rfl (enters_of Tryz.func106 (by kernel_rfl) rfl) W1.out (fun _=>rfl)
  (fun pre=>GBoxes wb (.slice wa l.length wc) k w.heap.size false pre.length ((BookE wb v r kv h).star F)) (fun c _=>(Pr.pure (c= .ret)).star ((Pr.pts (w.heap.size+1+1+1) (.cells #[.bool true] 4)).star ((BookE wb v r kv h).star F))) ?start ?round ?done ?stop
 case start=>
  have h1:=HS5.out.to (M:= [Pr.pts w.heap.size (.cells [Value.pointer (some ⟨wb,0,none⟩)].toArray 75),Pr.pts (w.heap.size+1) (.cells [Value.slice wa l.length wc].toArray 30),Pr.pts (w.heap.size+1+1) (.cells [Value.int .i64 k].toArray 3),Pr.pts (w.heap.size+1+1+1) (.cells [Value.bool false].toArray 4),Pr.pts (w.heap.size+1+1+1+1) (.cells [Value.int .i64 0].toArray 3),BookE wb v r kv h,F,Pr.own h])
  exact h1.sat.perm (by simp only [starL,Pr.star_emp,Pr.star_assoc];rfl)
 case round=>
  intro l' pre x W1' F1 hok hs;obtain⟨hlt,hno,hg⟩:=hok;obtain⟨no,t⟩:=x;dsimp only at hno hg;have hsa:Sat ((PgOwn t).star ((GBoxes wb (.slice wa l.length wc) k w.heap.size false pre.length ((BookE wb v r kv h).star F)).star ((Pr.own h).star F1))) W1':=hs.perm (by ac_rfl);obtain⟨_,h3⟩:=pgOwn_iff.1 hsa;obtain⟨ai,ci,e1⟩:=Row.shape h3;obtain⟨ad,cd,e2⟩:=Row.shape h3.right.right;obtain⟨vi,vd,ys,g⟩:=t
  dsimp only at hg e1 e2;subst e1 e2;have HSA:=hQ hsa;have HG:=hQ (And.intro hno hg);clear hno hg;simp only [encT];rw [pv_eq];clear hs hsa h3;gi_wp2
  refine⟨(Stays.refl W1').alloc _,(Pr.pts W1'.heap.size (pageC g.kind g.level (.slice ai g.items.length ci) (.slice ad g.data.length cd) g.next)).star ((PgOwn ⟨.slice ai g.items.length ci,.slice ad g.data.length cd,ys,g⟩).star ((GBoxes wb (.slice wa l.length wc) k w.heap.size false pre.length ((BookE wb v r kv h).star F)).star (Pr.own h))),?_,?_⟩
  · exact(HSA.out.alloc (pageC g.kind g.level (.slice ai g.items.length ci) (.slice ad g.data.length cd) g.next)).perm (by ac_rfl)
  intro F2 W2 _ hs2
  have hs3:OwnL [Pr.pts W1'.heap.size (pageC g.kind g.level (.slice ai g.items.length ci) (.slice ad g.data.length cd) g.next),PgOwn ⟨.slice ai g.items.length ci,.slice ad g.data.length cd,ys,g⟩,Pr.pts w.heap.size (.cells #[.pointer (some ⟨wb,0,none⟩)] 75),Pr.pts (w.heap.size+1) (.cells #[.slice wa l.length wc] 30),
   Pr.pts (w.heap.size+1+1) (.cells #[.int .i64 k] 3),Pr.pts (w.heap.size+1+1+1) (.cells #[.bool false] 4),Pr.pts (w.heap.size+1+1+1+1) (.cells #[.int .i64 pre.length] 3),BookE wb v r kv h,F,Pr.own h,F2] W2:=⟨hs2.perm (by simp only [starL,Pr.star_emp,Pr.star_assoc])⟩
  obtain⟨wb2,off,bi,di,bd,dd,rfl,hpg,hc⟩:=RD.out pre.length hlt;obtain⟨d0,d1,d2,d3,d4,d5⟩:=hc W2 hs3.le;have zb:=World.block_lt_of_cell? _ _ d0;have fit:=HFIT.out l[pre.length] (List.getElem_mem hlt);rw [← HG.out.2] at hpg fit d1 d2 d3 d4 d5;rw [← HG.out.1] at d0
  have KP:=hQ (keep_any wb v r kv ⟨.slice ai g.items.length ci,.slice ad g.data.length cd,ys,g⟩ fit h (.slice bi g.items.length di) (.slice bd g.data.length dd) hpg _ W2.drew (hs3.drew.pull3 (A1:=BookE wb v r kv h) (A2:=PgOwn ⟨.slice ai g.items.length ci,.slice ad g.data.length cd,ys,g⟩) (A3:=Pr.own h)));rw [pv_eq] at KP;have c1:=hs3.facts;simp only [CellsAt,Nat.reduceAdd,and_true] at c1
  obtain⟨np,hnp⟩:∃np,pre.length=np:=⟨_,rfl⟩;rw [hnp] at d0 d1 d2 d3 d4 d5 c1;have hlt3:(np:Int)<l.length:=by omega
  have HNP:=hQ hnp;have hnn:(no != no)=false:=by simp
  have hd1:decide (l.length≤np)=false:=by rw [decide_eq_false_iff_not];omega
  clear hs2 hs3 hpg fit HSA;have HC:=hQ hc;clear hc hnp;dsimp only at KP;gi_wp2_with fail
  refine wpIn_region_staged (sz:=50) (by kernel_rfl) [0,1] [(2,[3,4,5,6,7,8,9,10,11,12,13,14,15,16,17,18,19,20],[0]),(21,[22,23],[0,3,4,5,6,7,8,9,10,11,12,16,17,18,19])] rfl (by kernel_rfl) (by kernel_rfl) (by kernel_rfl) (by kernel_rfl) ?_;refine wpQ_all _ rfl rfl ?_;simp only [pick,pQ];iterate 2 (go_big_quiet_step (fail))
  refine wpQuiet_nil ?_;refine wpRest_act rfl ?_;go_wp2;refine onN_mk ?_;refine wpQ_all _ rfl rfl ?_;simp only [pick,pQ];iterate 18 (go_big_quiet_step (fail))
  refine wpQuiet_nil ⟨?_,?_⟩
  · exact cQ
  refine wpRest_act rfl ?_;go_wp2_with fail
  refine KP.out.mono ?_;rintro e w3 ⟨rfl,st3,hs4⟩;have hs5:=OwnL.of2 hs4;clear d0 d1 d2 d3 d4 d5 zb c1;obtain⟨d0,d1,d2,d3,d4,d5⟩:=HC.out w3 hs5.le;have zb:=World.block_lt_of_cell? _ _ d0;rw [← HG.out.2,HNP.out] at d1 d2 d3 d4 d5;rw [← HG.out.1,HNP.out] at d0;have c1:=hs5.facts;simp only [CellsAt,Nat.reduceAdd,and_true] at c1;rw [HNP.out] at c1;have HS5:=hQ hs5
  have HST3:=hQ ((Stays.refl W2).drew.trans st3);clear hs4 hs5 st3 KP HC;go_wp2;refine onN_mk ?_;refine wpQ_all _ rfl rfl ?_;simp only [pick,pQ];iterate 2 (go_big_quiet_step (fail))
  refine wpQuiet_nil ⟨?_,?_⟩
  · exact cQ
  refine wpRest_nil ?_;by_cases hk:k<(np:Int)+1
  · gi_wp2
    refine⟨(HST3.out.setCell _ _).setCell _ _,?_⟩;have h6:=(HS5.out.set (w.heap.size+1+1+1+1) 0 (.int .i64 ((np:Int)+1))).set (w.heap.size+1+1+1) 0 (.bool true);have h7:=h6.to (M:= [Pr.pts (w.heap.size+1+1+1) (.cells #[.bool true] 4),BookE wb v r kv h,F,Pr.own h,F2]);rw [Pr.star_assoc,Pr.star_assoc];exact Sat.pure.2 ⟨rfl,h7.sat.perm (by simp only [starL,Pr.star_emp,Pr.star_assoc])⟩
  · gi_wp2
    refine⟨HST3.out.setCell _ _,?_⟩;have h6:=(HS5.out.set (w.heap.size+1+1+1+1) 0 (.int .i64 ((np:Int)+1)))
    have h7:=h6.to (M:= [Pr.pts w.heap.size (.cells #[.pointer (some ⟨wb,0,none⟩)] 75),Pr.pts (w.heap.size+1) (.cells #[.slice (some ⟨wb2,off,none⟩) l.length wc] 30),
     Pr.pts (w.heap.size+1+1) (.cells #[.int .i64 k] 3),Pr.pts (w.heap.size+1+1+1) (.cells #[.bool false] 4),Pr.pts (w.heap.size+1+1+1+1) (.cells #[.int .i64 ((np:Int)+1)] 3),BookE wb v r kv h,F,Pr.own h,F2])
    have e9:((pre++ [(no,(⟨.slice ai g.items.length ci,.slice ad g.data.length cd,ys,g⟩:ToldX))]).length:Int)=(np:Int)+1:=by
     rw [List.length_append,HNP.out];simp
    show Sat (((GBoxes wb _ k w.heap.size false _ _).star (Pr.own h)).star F2) _
    dsimp only [GBoxes];rw [e9];exact h7.sat.perm (by simp only [starL,Pr.star_emp,Pr.star_assoc])
 case done=>
  intro D xs W2 hxs hst hs
  have hs3:OwnL [Pr.pts D (.deferred (some [])),Pr.pts w.heap.size (.cells #[.pointer (some ⟨wb,0,none⟩)] 75),Pr.pts (w.heap.size+1) (.cells #[.slice wa l.length wc] 30),
   Pr.pts (w.heap.size+1+1) (.cells #[.int .i64 k] 3),Pr.pts (w.heap.size+1+1+1) (.cells #[.bool false] 4),Pr.pts (w.heap.size+1+1+1+1) (.cells #[.int .i64 xs.length] 3),BookE wb v r kv h,F,Pr.own h] W2:=⟨hs.perm (by simp only [starL,Pr.star_emp,Pr.star_assoc];ac_rfl)⟩
  rw [hxs] at hs3;have c1:=hs3.facts;simp only [CellsAt,and_true] at c1;have HS3:=hQ hs3;have HST3:=hQ (HST.out.trans hst);clear hs hs3 hst HS5;go_wp2;have h6:=HS3.out.set (w.heap.size+1+1+1) 0 (.bool true);have q1:=h6.pull1 (A1:=Pr.pts D (.deferred (some [])));have q2:=OwnL.of0 (q1.putObj (.deferred none)).right
  refine marks_ret1 (D:=D) rfl q1.pts_heap ⟨_,results_cell1 rfl Tryz.underlying4 _ _ (w.heap.size+1+1+1) (.bool true) rfl (by rw [cell_of_heap (q2.pts (w.heap.size+1+1+1)).pts_heap];rfl),rfl,(HST3.out.setCell _ _).putObj _ _,?_⟩;exact(q2.to (M:= [BookE wb v r kv h,Pr.own h,F])).sat.perm (by simp only [starL,Pr.star_emp])
 case stop=>
  intro D c pre W2 _ hst hs;rw [Pr.star_assoc,Pr.star_assoc] at hs;obtain⟨rfl,hs2⟩:=Sat.pure.1 hs;have hs3:OwnL [Pr.pts D (.deferred (some [])),Pr.pts (w.heap.size+1+1+1) (.cells #[.bool true] 4),BookE wb v r kv h,F,Pr.own h] W2:=⟨hs2.perm (by simp only [starL,Pr.star_emp,Pr.star_assoc];ac_rfl)⟩;have HS3:=hQ hs3;have HST3:=hQ (HST.out.trans hst);clear hs hs2 hs3 hst HS5;go_wp2
  have q1:=HS3.out.pull1 (A1:=Pr.pts D (.deferred (some [])));have q2:=OwnL.of0 (q1.putObj (.deferred none)).right;refine marks_ret1 (D:=D) rfl q1.pts_heap ⟨_,results_cell1 rfl Tryz.underlying4 _ _ (w.heap.size+1+1+1) (.bool true) rfl (by rw [cell_of_heap (q2.pts (w.heap.size+1+1+1)).pts_heap];rfl),rfl,HST3.out.putObj _ _,?_⟩
  exact(q2.to (M:= [BookE wb v r kv h,Pr.own h,F])).sat.perm (by simp only [starL,Pr.star_emp])
end Go.Proofs.YtpfafhklppondaaGreat.K7
