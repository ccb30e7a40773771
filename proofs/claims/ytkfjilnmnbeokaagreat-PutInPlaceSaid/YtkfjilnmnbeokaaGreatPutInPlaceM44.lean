/- The law's start of a vault with one empty tree; the conditions stand as hypotheses. -/
import Derived.Test.YtkfjilnmnbeokaaGreatPutInPlaceM43
import Derived.Test.YtkfjilnmnbeokaaGreatPutInPlaceM20
import Derived.Test.YtkfjilnmnbeokaaGreatPutInPlaceM34
import Derived.Test.YtkfjilnmnbeokaaGreatPutInPlaceM03
import Derived.Test.YtkfjilnmnbeokaaGreatPutInPlaceM05
import Derived.Lib.SmallJoins
import Derived.Test.YtkfjilnmnbeokaaGreatPutInPlaceM36
import Derived.Test.YtkfjilnmnbeokaaGreatPutInPlaceM01
set_option maxRecDepth 100000
set_option maxHeartbeats 16000000
namespace Go.Proofs.YtkfjilnmnbeokaaGreat.Y9
open ChangeShapes WideShapes ChangeAt RowKit Sl Cop Deep D2 D3 J3 V3 G2 J2 X3 Z3 Y3 M4 Y5 K7 P7 B6 V5 Z8 V9 X9
abbrev startV(len:Int)(tb:Nat):Value:= .agg #[.int .i64 len,.int .i64 2,.slice none 0 0,.slice none 0 0,.slice (some ⟨tb,0,none⟩) 1 1]
abbrev worldC(v m o1 o2:Value):Obj:= .cells #[v,m,o1,o2] 64
def BeginPost(len:Int)(F:Pr)(w:World)(e:Ending)(w':World):Prop:=Stays w w'∧((rangeOk len 2=false∧e= .returned (.pointer none)∧OwnL [F] w')∨
 (∃n:Nat,len=n∧rangeOk n 2=true∧∃b v m o1 o2,e= .returned (.pointer (some ⟨b,0,none⟩))∧OwnL [Pr.pts b (worldC (.pointer (some ⟨v,0,none⟩)) m o1 o2),VaultA v (newV 2 n),TrRow o1 [⟨0,0,0⟩],F] w'))
theorem begin_zero(len:Int)(tb:Nat)(F:Pr)(w:World)(hF:OwnL [Pr.pts tb (treeC 0 0 0),F] w):
 Calls Tryz.prog 47 #[startV len tb] w fun e w'=>BeginPost len F w e w':=by
 have hs1:=hF.alloc (.cells #[.int .i64 len,.int .i64 2,.slice none 0 0,.slice none 0 0,.slice (some ⟨tb,0,none⟩) 1 1] 58);obtain⟨a,ha,hs2⟩:=hs1.arena (Pr.pts tb (treeC 0 0 0));have hti:TrIn a (.slice (some ⟨tb,0,none⟩) 1 1) [⟨0,0,0⟩]:=pts_rowIn (k:=3) (n:=1) ha rfl rfl (by simp [maxLen]);have CT:=hQ (fun FX wx hf=>copytrees_any a _ _ hti (by simp) FX wx hf)
 have C1:=hQ (CT.out _ _ (hs2.drew.pull1 (A1:=Pr.own a)));have c1:=hs2.facts;simp only [CellsAt,Nat.reduceAdd,and_true] at c1;have HST0:=hQ ((Stays.refl w).alloc (.cells #[.int .i64 len,.int .i64 2,.slice none 0 0,.slice none 0 0,.slice (some ⟨tb,0,none⟩) 1 1] 58)).drew;have HTI:=hQ hti;clear hF hs1 hs2 ha hti;go_enter Tryz.func47,Tryz.ntmps47
 go_wp2_with fail
 refine wS 90 [0,1,3,4] [(2,[],[0,3,4]),(5,[6],[0,3]),(7,[8],[0,3])] ?_;refine wpQ_all _ rfl rfl ?_;simp only [pick,pQ];iterate 4 (go_big_quiet_step (fail))
 refine wpQuiet_nil ?_;refine wpRest_act rfl ?_;go_wp2_with fail
 refine C1.out.mono ?_;rintro e w1 ⟨st1,o1,rfl,hs3⟩;have hs4:=hs3.flat;obtain⟨oa1,oc1,rfl⟩:=Row.shape (hs4.pull1 (A1:=TrRow o1 [⟨0,0,0⟩]));have C2:=hQ (CT.out _ _ (hs4.pull1 (A1:=Pr.own a)));clear c1;have c1:=hs4.facts;simp only [CellsAt,Nat.reduceAdd,and_true] at c1;have HST1:=hQ (HST0.out.trans st1);clear hs3 hs4 st1 C1 HST0;go_wp2;refine onN_mk ?_;refine wpQ_nil ⟨?_,?_⟩
 · refine chk_all _ rfl rfl ?_
   simp only [pick,Sl.Same,pQ,and_true];repeat' (first | apply And.intro | (go_big_quiet_step (fail);exact wpQuiet_nil rfl))
 refine wpRest_act rfl ?_;go_wp2_with fail
 refine C2.out.mono ?_;rintro e w2 ⟨st2,o2,rfl,hs3⟩;have hs4:=hs3.flat;obtain⟨oa2,oc2,rfl⟩:=Row.shape (hs4.pull1 (A1:=TrRow o2 [⟨0,0,0⟩]));clear c1;have c1:=hs4.facts;simp only [CellsAt,Nat.reduceAdd,and_true] at c1;have HST2:=hQ ((HST1.out.trans st2).alloc (worldC (.pointer none) (.pointer none) (.slice oa1 1 oc1) (.slice oa2 1 oc2)))
 have HS5:=hQ (hs4.alloc (worldC (.pointer none) (.pointer none) (.slice oa1 1 oc1) (.slice oa2 1 oc2)));clear hs3 hs4 st2 C2 HST1;go_wp2;refine onN_mk ?_;refine wpQ_all _ rfl rfl ?_;simp only [pick,pQ];iterate 1 (go_big_quiet_step (fail))
 refine wpQuiet_nil ⟨?_,?_⟩
 · refine chk_all _ rfl rfl ?_
   simp only [pick,Sl.Same,pQ,and_true];repeat' (first | apply And.intro | (go_big_quiet_step (fail);exact wpQuiet_nil rfl))
 refine wpRest_act rfl ?_;go_wp2_with fail
 refine onN_mk ?_;refine wpQ_all _ rfl rfl ?_;simp only [pick,pQ];iterate 1 (go_big_quiet_step (fail))
 refine wpQuiet_nil ⟨?_,?_⟩
 · refine chk_all _ rfl rfl ?_
   simp only [pick,Sl.Same,pQ,and_true];repeat' (first | apply And.intro | (go_big_quiet_step (fail);exact wpQuiet_nil rfl))
 refine wpRest_nil ?_;go_wp2_with fail
 clear c1;cases hro:rangeOk len 2 with
 | false=>
   have HRO:=hQ hro;refine(rnew_bad len 2 hro _).mono ?_;rintro e w3 ⟨rfl,rfl⟩;have c1:=HS5.out.facts;simp only [CellsAt,Nat.reduceAdd,and_true] at c1;clear hro;go_wp2_with fail
   refine wS 90 [0,1,2,3,4,5,6,7,8] [(9,[10,11],[0,1,3,4,5,7])] ?_;refine wpQ_all _ rfl rfl ?_;simp only [pick,pQ];iterate 9 (go_big_quiet_step (fail))
   refine wpQuiet_nil ?_;refine wpRest_act rfl ?_;go_wp2;refine onN_mk ?_;refine wpQ_all _ rfl rfl ?_;simp only [pick,pQ];iterate 2 (go_big_quiet_step (fail))
   refine wpQuiet_nil ⟨?_,?_⟩
   · refine chk_all _ rfl rfl ?_
     simp only [pick,Sl.Same,pQ,and_true];repeat' (first | apply And.intro | (go_big_quiet_step (fail);exact wpQuiet_nil rfl))
   refine wpRest_nil ?_;go_wp2;go_ret;exact⟨HST2.out.drew,.inl ⟨HRO.out,rfl,HS5.out.drew.to⟩⟩
 | true=>
   obtain⟨n1,n2,_,_⟩:=rangeOk_iff.1 hro;obtain⟨n,rfl⟩:∃n:Nat,len=n:=⟨len.toNat,by omega⟩;have HRO:=hQ hro;have hn9:1≤n∧n≤65536:=by omega
   refine(rnew_any n 2 hro _ _ HS5.out.sat).mono ?_;rintro e w3 ⟨st3,r,rfl,hs6⟩;have hs7:=(OwnL.of1 hs6).set w2.heap.size 1 (.pointer (some ⟨r,0,none⟩));have HST3:=hQ ((HST2.out.trans st3).setCell ⟨w2.heap.size,1,none⟩ (.pointer (some ⟨r,0,none⟩))).drew;have c1:=(OwnL.of1 hs6).facts;simp only [CellsAt,Nat.reduceAdd,and_true] at c1
   have SZ:=hQ (stand_zero r (poolN 2 n) (List.replicate n zeroP) (quietT false) (by simp;exact hn9) a _ HTI.out _ _ (OwnL.in2 (hs7.drew.pull2 (A1:=RefA r (poolN 2 n) (List.replicate n zeroP) (quietT false)) (A2:=Pr.own a))));clear hs6 hs7 st3 HST2 hro n1 n2;go_wp2_with fail
   refine wS 90 [0,1,2,3,4,5,6,7,8] [(9,[10,11],[0,1,3,4,5,7])] ?_;refine wpQ_all _ rfl rfl ?_;simp only [pick,pQ];iterate 9 (go_big_quiet_step (fail))
   refine wpQuiet_nil ?_;refine wpRest_act rfl ?_;go_wp2_with fail
   refine SZ.out.mono ?_;rintro e w4 ⟨st4,rfl,hs8⟩;obtain⟨x,ok,hx⟩:=refA_iff.1 (hs8.flat.pull1 (A1:=RefA r (poolN 2 n) (List.replicate n zeroP) (quietT false)));have hs9:=OwnL.of1 hx;unfold RefAt at hs9;have hs10:=hs9.norm;have hs11:=hs10.set r 6 (.bool true);clear c1;have c1:=hs10.facts;simp only [CellsAt,Nat.reduceAdd,and_true] at c1
   have HST4:=hQ ((HST3.out.trans st4).setCell ⟨r,6,none⟩ (.bool true));have VN:=hQ (vnew_any n 2 ⟨hn9.1,hn9.2,by decide,by decide⟩ _ _ hs11.sat);clear hs8 ok hx hs9 hs10 hs11 st4 SZ HST3;go_wp2;refine onN_mk ?_;refine wpQ_all _ rfl rfl ?_;simp only [pick,pQ];iterate 2 (go_big_quiet_step (fail))
   refine wpQuiet_nil ⟨?_,?_⟩
   · refine chk_all _ rfl rfl ?_
     simp only [pick,Sl.Same,pQ,and_true];repeat' (first | apply And.intro | (go_big_quiet_step (fail);exact wpQuiet_nil rfl))
   refine wpRest_nil ?_;go_wp2_with fail
   refine VN.out.mono ?_;rintro e w5 ⟨st5,v,rfl,hs12⟩;have hs13:=OwnL.of1 hs12;have hs14:=hs13.set w2.heap.size 0 (.pointer (some ⟨v,0,none⟩));clear c1;have c1:=hs13.facts;simp only [CellsAt,Nat.reduceAdd,and_true] at c1;have HEND:=hQ (And.intro ((HST4.out.trans st5).setCell ⟨w2.heap.size,0,none⟩ (.pointer (some ⟨v,0,none⟩))) hs14);clear hs12 hs13 hs14 st5 VN HST4;go_wp2;go_ret
   exact⟨HEND.out.1,.inr ⟨n,rfl,HRO.out,w2.heap.size,v,_,_,_,rfl,HEND.out.2.to (M:= [Pr.pts w2.heap.size (worldC (.pointer (some ⟨v,0,none⟩)) (.pointer (some ⟨r,0,none⟩)) (.slice oa1 1 oc1) (.slice oa2 1 oc2)),VaultA v (newV 2 n),TrRow (.slice oa1 1 oc1) [⟨0,0,0⟩],F])⟩⟩
end Go.Proofs.YtkfjilnmnbeokaaGreat.Y9
namespace Go.Proofs.YtkfjilnmnbeokaaGreat.Z9
open ChangeShapes WideShapes ChangeAt RowKit Sl Cop Deep D2 D3 J3 V3 G2 J2 X3 Z3 Y3 M4 Y5 F8 J8 Z8 U9 V9 Y9
def PutOut(s:VaultS)(k:Nat)(rt ht it:Int)(K V:List Int)(L:List ItemV)(rt' ht' it':Int)(ws:Bool)(er:Int)(s':VaultS):Prop:=
 (er=0∧keyR K=true∧V.length≤3840∧ws=(findK K L).isSome∧PutR s rt ht it K V ws s' rt' ht' it'∧RoomV s' k∧∃q,After s q s')∨
 (er≠0∧rt'=0∧ht'=0∧it'=0∧ws=false∧PutErr s rt ht K V L er∧s'=s)
theorem puts_split {v:Nat}{s:VaultS}{k:Nat}{rt ht it:Int}{K V:List Int}{L:List ItemV}{R:List Pr}{w w':World}{e:Ending}(h:PutsPost v s k rt ht it K V L R w e w'):
 Stays w w'∧∃rt' ht' it' ws er s',e= .returned (.tuple #[treeV rt' ht' it',.bool ws,.int .i64 er])∧Hid (PutOut s k rt ht it K V L rt' ht' it' ws er s')∧OwnL (VaultA v s' :: R) w':=by
 obtain⟨st,rt',ht',it',ws,er,rfl,(⟨h1,h2,h3,h4,s',h5,h6,h7,h8⟩ | ⟨h1,h2,h3,h4,h5,h6,h7⟩)⟩:=h
 · exact⟨st,rt',ht',it',ws,er,s',rfl,hQ (.inl ⟨h1,h2,h3,h4,h5,h6,h7⟩),h8⟩
 · exact⟨st,rt',ht',it',ws,er,s,rfl,hQ (.inr ⟨h1,h2,h3,h4,h5,h6,rfl⟩),h7⟩
theorem tr_cell {o:Value}{ts:List TreeV}{F:Pr}{w:World}(h:Sat ((TrRow o ts).star F) w){i:Nat}(hi:i<ts.length):
 ∃b c,o= .slice (some ⟨b,0,none⟩) ts.length c∧(w.cell? ⟨b,i*3,none⟩=some (.int .i64 ts[i].root)∧w.cell? ⟨b,i*3+1,none⟩=some (.int .i64 ts[i].height)∧w.cell? ⟨b,i*3+2,none⟩=some (.int .i64 ts[i].items))∧
  (w.frozen? ⟨b,i*3,none⟩=false∧w.frozen? ⟨b,i*3+1,none⟩=false∧w.frozen? ⟨b,i*3+2,none⟩=false)∧b<w.heap.size:=by
 obtain⟨hl,(⟨_,e0,_⟩ | ⟨b,cap,sp,e1,h2,h3,h4,h5⟩)⟩:=Row.open' h
 · omega
 · have at':∀j v,j<3→(trCells ts[i])[j]? =some v→w.cell? ⟨b,i*3+j,none⟩=some v:=by
    intro j v hj hv;have hat:=flat_at trCells 3 (fun _=>rfl) ts i j hi hj;rw [hv] at hat;rw [cell_of_heap h5.pts_heap];show ((ts.flatMap trCells++sp).toArray)[i*3+j]? =_
    rw [List.getElem?_toArray,List.getElem?_append_left (by rw [hl];omega),hat]
   exact⟨b,cap,e1,⟨at' 0 _ (by decide) rfl,at' 1 _ (by decide) rfl,at' 2 _ (by decide) rfl⟩,⟨frozen_of_heap h5.pts_heap _,frozen_of_heap h5.pts_heap _,frozen_of_heap h5.pts_heap _⟩,h5.lt⟩
theorem set3(l:List Value)(ts:List TreeV)(i:Nat)(hi:i<ts.length)(t:TreeV)(hl:l=ts.flatMap trCells):((l.set (i*3) (.int .i64 t.root)).set (i*3+1) (.int .i64 t.height)).set (i*3+2) (.int .i64 t.items)=(ts.set i t).flatMap trCells:=by
 subst hl;have h1:=flat_set trCells 3 (fun _=>rfl) 0 (.int .i64 t.root) ⟨t.root,ts[i].height,ts[i].items⟩ (by decide) ts i hi rfl;rw [show i*3=i*3+0 from rfl,h1];have h2:=flat_set trCells 3 (fun _=>rfl) 1 (.int .i64 t.height) ⟨t.root,t.height,ts[i].items⟩ (by decide) (ts.set i ⟨t.root,ts[i].height,ts[i].items⟩) i (by simpa using hi) (by rw [List.getElem_set_self];rfl)
 rw [show i*3+0+1=i*3+1 from rfl,h2,List.set_set];have h3:=flat_set trCells 3 (fun _=>rfl) 2 (.int .i64 t.items) t (by decide) (ts.set i ⟨t.root,t.height,ts[i].items⟩) i (by simpa using hi) (by rw [List.getElem_set_self];rfl);rw [show i*3+0+2=i*3+2 from rfl,h3,List.set_set]
theorem tr_set {b c:Nat}{ts:List TreeV}{F:Pr}{w:World}(h:Sat ((TrRow (.slice (some ⟨b,0,none⟩) ts.length c) ts).star F) w){i:Nat}(hi:i<ts.length)(t:TreeV):
 Sat ((TrRow (.slice (some ⟨b,0,none⟩) ts.length c) (ts.set i t)).star F) (((w.setCell ⟨b,i*3,none⟩ (.int .i64 t.root)).setCell ⟨b,i*3+1,none⟩ (.int .i64 t.height)).setCell ⟨b,i*3+2,none⟩ (.int .i64 t.items)):=by
 have hl:=(Row.open' h).1;have h1:=Row.put1 h (i*3) (by rw [hl];omega) (.int .i64 t.root);have h2:=Row.put1 h1 (i*3+1) (by rw [List.length_set,hl];omega) (.int .i64 t.height);have h3:=Row.put1 h2 (i*3+2) (by rw [List.length_set,List.length_set,hl];omega) (.int .i64 t.items);rw [set3 _ ts i hi t rfl] at h3
 show Sat ((Row 38 3 (.slice (some ⟨b,0,none⟩) ts.length c) (ts.set i t).length ((ts.set i t).flatMap trCells)).star F) _
 rw [List.length_set];exact h3
theorem whole_two {b1 b2:Nat}{K V:List Int}{h:Hp}(hp:((WholeRow b1 K).star (WholeRow b2 V)) h):Bytes h (.slice (some ⟨b1,0,none⟩) K.length (K.length+64)) K∧Bytes h (.slice (some ⟨b2,0,none⟩) V.length (V.length+64)) V:=by
 obtain⟨x,y,hx,hy,s1,s2⟩:=star_sub hp;exact⟨(whole_bytes hx).sub s1,(whole_bytes hy).sub s2⟩
def PlaysPost(b v:Nat)(m o1 o2:Value)(ts:List TreeV)(i:Nat)(t:TreeV)(s:VaultS)(k:Nat)(K V:List Int)(L:List ItemV)(R:List Pr)(w:World)(e:Ending)(w':World):Prop:=
 Stays w w'∧∃rt' ht' it' ws er s',e= .returned (.tuple #[.bool ws,.int .i64 er])∧PutOut s k t.root t.height t.items K V L rt' ht' it' ws er s'∧
  OwnL (Pr.pts b (worldC (.pointer (some ⟨v,0,none⟩)) m o1 o2) :: TrRow o1 (if er=0 then ts.set i ⟨rt',ht',it'⟩ else ts) :: VaultA v s' :: R) w'
theorem plays_put(b v:Nat)(m o1 o2:Value)(ts:List TreeV)(i:Nat)(hi:i<ts.length)(t:TreeV)(hti:ts[i]=t)(s:VaultS)(r:List VaultS)(H:HistV r s)(vi:VInv s)(k:Nat)(rm:RoomV s (k+65))(hp:Hp)(kv vv:Value)(K V:List Int)(hK:Bytes hp kv K)(hV:Bytes hp vv V)(uk:U8 K)
 (nk:K.length≤140737488351232) (nv:V.length≤140737488351232) (S P:List Int) (hc:Clo s.get s.pool.count S (rootC t.root++P)) (L:List ItemV) (hs:StandN (lookV s) t.root t.height t.items L) (hit:t.items<1099511627776) (F:Pr) (w:World)
 (hF:OwnL [Pr.pts b (worldC (.pointer (some ⟨v,0,none⟩)) m o1 o2),TrRow o1 ts,VaultA v s,Pr.own hp,F] w):
 Calls Tryz.prog 17 #[.pointer (some ⟨b,0,none⟩),.agg #[.int .i64 0,.int .i64 i,kv,vv]] w fun e w'=>PlaysPost b v m o1 o2 ts i t s k K V L [Pr.own hp,F] w e w':=by
 obtain⟨kka,kkc,rfl⟩:=bytes_shape hK;obtain⟨vva,vvc,rfl⟩:=bytes_shape hV;obtain⟨tb,oc,rfl,_⟩:=tr_cell (hF.pull1 (A1:=TrRow o1 ts)) hi;have hs1:=hF.alloc (.cells #[.int .i64 0,.int .i64 i,.slice kka K.length kkc,.slice vva V.length vvc] 53);obtain⟨_,_,e1,⟨d1,d2,d3⟩,_,d4⟩:=tr_cell (hs1.pull1 (A1:=TrRow (.slice (some ⟨tb,0,none⟩) ts.length oc) ts)) hi;cases e1;rw [hti] at d1 d2 d3
 have hs2:=(hs1.alloc (treeC t.root t.height t.items)).drew;have HST0:=hQ (((Stays.refl w).alloc (.cells #[.int .i64 0,.int .i64 i,.slice kka K.length kkc,.slice vva V.length vvc] 53)).alloc (treeC t.root t.height t.items)).drew;have SP1:=hQ (fun FX wx hf=>spare_any hp _ K FX wx hf hK nk);have SP2:=hQ (fun FX wx hf=>spare_any hp _ V FX wx hf hV nv);have c1:=hs1.facts
 simp only [CellsAt,Nat.reduceAdd,and_true] at c1;have HD0:=hQ (show (decide ((i:Int)<0))=false from decide_eq_false (by omega));have HD1:=hQ (show (decide (ts.length≤i))=false from decide_eq_false (by omega));have hi1:(i:Int)<(ts.length:Int):=by omega
 have HS2:=hQ hs2;have HH:=hQ (And.intro H (And.intro vi (And.intro rm (And.intro hc (And.intro hs hit)))));have HK:=hQ (And.intro hK (And.intro hV (And.intro uk (And.intro nk nv))));have HT:=hQ (And.intro hti hi);clear hF hs1 hs2 H vi rm hc hs hit hK hV uk nk nv hti;go_enter Tryz.func17,Tryz.ntmps17
 go_wp2_with fail
 generalize w.alloc (.cells #[.int .i64 0,.int .i64 i,.slice kka K.length kkc,.slice vva V.length vvc] 53)=w0 at*;generalize w.heap.size=B0 at*;refine wS 152 [0,1,2,3,4,5,6,7,8,9,10,11,12] [] ?_;refine wpQ_cut [0,1] [2,3,4,5,6,7,8,9,10,11,12] ?_;refine wpQ_all _ rfl rfl ?_;simp only [pick,pQ];iterate 2 (go_big_quiet_step (fail))
 refine wpQuiet_nil ?_;refine wpQ_step rfl rfl (fun KX hK=> ?_);go_simp;rw [HD0.out];refine hK _ ?_;clear hK KX;refine wpQ_cut [3,4,5,6,7,8,9] [10,11,12] ?_;refine wpQ_all _ rfl rfl ?_;simp only [pick,pQ];iterate 7 (go_big_quiet_step (fail))
 refine wpQuiet_nil ?_;refine wpQ_step rfl rfl (fun KX hK=> ?_);go_simp;refine hK _ ?_;clear hK KX;refine wpQ_step rfl rfl (fun KX hK=> ?_);go_simp;rw [HD1.out];refine hK _ ?_;clear hK KX;refine wpQ_all _ rfl rfl ?_;simp only [pick,pQ];iterate 1 (go_big_quiet_step (fail))
 refine wpQuiet_nil ?_;refine wpRest_nil ?_;go_wp2_with fail
 refine wS 152 [0,1,2,3,4,5,6,7] [(8,[],[0,1,2,3,4,5,6,7]),(9,[],[])] ?_;refine wpQ_all _ rfl rfl ?_;simp only [pick,pQ];iterate 8 (go_big_quiet_step (fail))
 refine wpQuiet_nil ?_;refine wpRest_act rfl ?_;go_wp2_with fail
 refine onN_mk ?_;refine wpQ_nil ⟨?_,?_⟩
 · refine chk_all _ rfl rfl ?_
   simp only [pick,Sl.Same,pQ,and_true];repeat' (first | apply And.intro | (go_big_quiet_step (fail);exact wpQuiet_nil rfl))
 refine wpRest_act rfl ?_;go_wp2_with fail
 refine onN_mk ?_;refine wpQ_nil ⟨?_,?_⟩
 · exact chk_nil
 refine wpRest_nil ?_;go_wp2_with fail
 have hs3:=HS2.out.drew;have hst3:=HST0.out.drew;obtain⟨B1,hB1⟩:∃B1,B1=w0.heap.size:=⟨_,rfl⟩;obtain⟨w1,hw1⟩:∃w1,w1=(w0.alloc (treeC t.root t.height t.items)).drew.drew:=⟨_,rfl⟩;rw [← hw1] at hs3 hst3 ⊢;rw [← hB1] at hs3 ⊢;clear hB1 hw1 c1 d1 d2 d3 d4 HS2 HST0;have c1:=hs3.facts;simp only [CellsAt,Nat.reduceAdd,and_true] at c1;have S1:=hQ (SP1.out _ _ (hs3.drew.pull1 (A1:=Pr.own hp)))
 have HST3:=hQ hst3.drew;clear hs3 hst3;refine wS 152 [0,1,3,4] [(2,[],[0,3,4]),(5,[6,7],[0,3])] ?_;refine wpQ_all _ rfl rfl ?_;simp only [pick,pQ];iterate 4 (go_big_quiet_step (fail))
 refine wpQuiet_nil ?_;refine wpRest_act rfl ?_;go_wp2_with fail
 refine S1.out.mono ?_;rintro e w2 ⟨b1,rfl,hs4,st2⟩;have hs5:=OwnL.of2 hs4;have S2:=hQ (SP2.out _ _ (hs5.pull1 (A1:=Pr.own hp)));clear c1;have c1:=hs5.facts;simp only [CellsAt,Nat.reduceAdd,and_true] at c1;have HST4:=hQ (HST3.out.trans st2);clear hs4 hs5 st2 S1 HST3;go_wp2;refine onN_mk ?_;refine wpQ_nil ⟨?_,?_⟩
 · refine chk_all _ rfl rfl ?_
   simp only [pick,Sl.Same,pQ,and_true];repeat' (first | apply And.intro | (go_big_quiet_step (fail);exact wpQuiet_nil rfl))
 refine wpRest_act rfl ?_;go_wp2_with fail
 refine S2.out.mono ?_;rintro e w3 ⟨b2,rfl,hs4,st2⟩;have hs5:=(OwnL.of2 hs4).join2 (WholeRow b1 K) (WholeRow b2 V);obtain⟨a,ha,hs6⟩:=hs5.arena ((WholeRow b1 K).star (WholeRow b2 V));have HA:=hQ (And.intro ha (whole_two ha));have HST5:=hQ (HST4.out.trans st2);clear c1;have c1:=hs6.facts;simp only [CellsAt,Nat.reduceAdd,and_true] at c1;have HS6:=hQ hs6;clear hs4 hs5 hs6 ha st2 S2 HST4;go_wp2
 refine onN_mk ?_;refine wpQ_all _ rfl rfl ?_;simp only [pick,pQ];iterate 2 (go_big_quiet_step (fail))
 refine wpQuiet_nil ⟨?_,?_⟩
 · refine chk_all _ rfl rfl ?_
   simp only [pick,Sl.Same,pQ,and_true];repeat' (first | apply And.intro | (go_big_quiet_step (fail);exact wpQuiet_nil rfl))
 refine wpRest_nil ?_;go_wp2_with fail
 have PU:=hQ (fun FX wx hf=>puts_any v s r HH.out.1 HH.out.2.1 k HH.out.2.2.1 a _ _ K V HA.out.2.1 HA.out.2.2 HK.out.2.2.1 (by have:=HK.out.2.2.2.1;omega) (by have:=HK.out.2.2.2.2;omega) t.root t.height t.items S P HH.out.2.2.2.1 L HH.out.2.2.2.2.1 HH.out.2.2.2.2.2 FX wx hf)
 go_cut [9,10,11] from 65 to 77 (fun t9 t10 t11 wx=> ∃(J:Nat) (rt' ht' it':Int) (ws:Bool) (er:Int) (s':VaultS),t9= .pointer (some ⟨J,0,none⟩)∧t10= .bool ws∧t11= .int .i64 er∧Stays w wx∧Hid (PutOut s k t.root t.height t.items K V L rt' ht' it' ws er s')∧
  OwnL [Pr.pts J (treeC rt' ht' it'),VaultA v s',Pr.own a,Pr.own hp,Pr.pts B0 (.cells #[.int .i64 0,.int .i64 i,.slice kka K.length kkc,.slice vva V.length vvc] 53),Pr.pts b (worldC (.pointer (some ⟨v,0,none⟩)) m (.slice (some ⟨tb,0,none⟩) ts.length oc) o2),(TrRow (.slice (some ⟨tb,0,none⟩) ts.length oc) ts),F] wx)
 case first=>
  refine wp_region_forked (sz:=152) (by kernel_rfl) [0,1,2,3,4,5,6] [(12,[],[0,1,2,3,4,5,6],[(7,[8,9,10,11],[0,1,2]),(13,[14,15],[10,11])]),(7,[8,9,10,11],[0,1,2],[(12,[],[0,1,2,8,9,10,11]),(13,[14,15],[10,11])])] rfl (by kernel_rfl) (by kernel_rfl) (by kernel_rfl) ?_;refine wpQ_all _ rfl rfl ?_;simp only [pick,pQ];iterate 7 (go_big_quiet_step (fail))
  refine wpQuiet_nil ?_;intro sx hsx;rcases List.mem_cons.1 hsx with rfl | hsx
  · have hs7:=HS6.out.drew.alloc (treeC 0 0 0)
    rw [show w3.drew.heap.size=w3.heap.size by simp] at hs7;have RV:=hQ (PU.out _ _ (OwnL.in2 (hs7.pull2 (A1:=VaultA v s) (A2:=Pr.own a))));have HST6:=hQ (HST5.out.drew.alloc (treeC 0 0 0));clear hs7;refine wpRest_act rfl ?_;go_wp2;refine onN_mk ?_;refine wpQ_nil ⟨?_,?_⟩
    · refine chk_all _ rfl rfl ?_
      simp only [pick,Sl.Same,pQ,and_true];repeat' (first | apply And.intro | (go_big_quiet_step (fail);exact wpQuiet_nil rfl))
    refine wpRest_act rfl ?_;go_wp2_with fail
    refine RV.out.mono ?_;rintro e w4 h4;obtain⟨st4,rt',ht',it',ws,er,s',rfl,hout,hs8⟩:=puts_split h4;have hs9:=hs8.flat;clear c1;have c1:=hs9.facts;simp only [CellsAt,Nat.reduceAdd,and_true] at c1;have hs10:=((hs9.set w3.heap.size 0 (.int .i64 rt')).set w3.heap.size 1 (.int .i64 ht')).set w3.heap.size 2 (.int .i64 it')
    have HEND:=hQ (And.intro ((((HST6.out.trans st4).setCell ⟨w3.heap.size,0,none⟩ (.int .i64 rt')).setCell ⟨w3.heap.size,1,none⟩ (.int .i64 ht')).setCell ⟨w3.heap.size,2,none⟩ (.int .i64 it')) hs10);clear hs8 hs9 hs10 st4 h4 RV HST6;go_wp2;refine onN_mk ?_;refine wpQ_all _ rfl rfl ?_;simp only [pick,pQ];iterate 4 (go_big_quiet_step (fail))
    refine wpQuiet_nil ⟨?_,?_⟩
    · refine chk_all _ rfl rfl ?_
      simp only [pick,Sl.Same,pQ,and_true];repeat' (first | apply And.intro | (go_big_quiet_step (fail);exact wpQuiet_nil rfl))
    refine wpRest_act rfl ?_;go_wp2_with fail
    refine onN_mk ?_;refine wpQ_all _ rfl rfl ?_;simp only [pick,pQ];iterate 2 (go_big_quiet_step (fail))
    refine wpQuiet_nil ⟨?_,?_⟩
    · refine chk_all _ rfl rfl ?_
      simp only [pick,Sl.Same,pQ,and_true];repeat' (first | apply And.intro | (go_big_quiet_step (fail);exact wpQuiet_nil rfl))
    refine wpRest_nil ?_;go_wp2;go_meet
    exact⟨_,rt',ht',it',ws,er,s',rfl,rfl,rfl,HEND.out.1,hout,HEND.out.2.to⟩
  · cases List.mem_singleton.1 hsx
    have RV:=hQ (PU.out _ _ (OwnL.in2 (HS6.out.drew.pull2 (A1:=VaultA v s) (A2:=Pr.own a))));refine wpRest_act rfl ?_;go_wp2_with fail
    refine RV.out.mono ?_;rintro e w4 h4;obtain⟨st4,rt',ht',it',ws,er,s',rfl,hout,hs8⟩:=puts_split h4;have hs9:=hs8.flat;clear c1;have c1:=hs9.facts;simp only [CellsAt,Nat.reduceAdd,and_true] at c1;have HEND:=hQ (And.intro ((HST5.out.drew.trans st4).alloc (treeC rt' ht' it')) (hs9.alloc (treeC rt' ht' it')));clear hs8 hs9 st4 h4 RV;go_wp2;refine onN_mk ?_;refine wpQ_all _ rfl rfl ?_
    simp only [pick,pQ];iterate 4 (go_big_quiet_step (fail))
    refine wpQuiet_nil ⟨?_,?_⟩
    · refine chk_all _ rfl rfl ?_
      simp only [pick,Sl.Same,pQ,and_true];repeat' (first | apply And.intro | (go_big_quiet_step (fail);exact wpQuiet_nil rfl))
    refine wpRest_act rfl ?_;go_wp2;refine onN_mk ?_;refine wpQ_nil ⟨?_,?_⟩
    · refine chk_all _ rfl rfl ?_
      simp only [pick,Sl.Same,pQ,and_true];repeat' (first | apply And.intro | (go_big_quiet_step (fail);exact wpQuiet_nil rfl))
    refine wpRest_act rfl ?_;go_wp2;refine onN_mk ?_;refine wpQ_all _ rfl rfl ?_;simp only [pick,pQ];iterate 2 (go_big_quiet_step (fail))
    refine wpQuiet_nil ⟨?_,?_⟩
    · refine chk_all _ rfl rfl ?_
      simp only [pick,Sl.Same,pQ,and_true];repeat' (first | apply And.intro | (go_big_quiet_step (fail);exact wpQuiet_nil rfl))
    refine wpRest_nil ?_;go_wp2;go_meet
    exact⟨_,rt',ht',it',ws,er,s',rfl,rfl,rfl,HEND.out.1,hout,HEND.out.2.to⟩
 case rest=>
  obtain⟨J,rt',ht',it',ws,er,s',rfl,rfl,rfl,st6,hout,hs10⟩:=hcut;have hs11:=(hs10.back ((WholeRow b1 K).star (WholeRow b2 V)) HA.out.1).norm;have K1:=hQ (kept_any b1 K hp _ HK.out.1 HK.out.2.2.2.1 _ _ (hs11.pull2 (A1:=WholeRow b1 K) (A2:=Pr.own hp)));clear c1;have c1:=hs11.facts;simp only [CellsAt,Nat.reduceAdd,and_true] at c1;have HS11:=hQ hs11;have HST6:=hQ st6;clear hs10 hs11 st6 PU HS6 HST5
  go_wp2_with fail
  refine K1.out.mono ?_;rintro e w5 ⟨rfl,ho5⟩;have hs12:=HS11.out.ext ho5.heap;have K2:=hQ (kept_any b2 V hp _ HK.out.2.1 HK.out.2.2.2.2 _ _ (hs12.pull2 (A1:=WholeRow b2 V) (A2:=Pr.own hp)));clear c1;have c1:=hs12.facts;simp only [CellsAt,Nat.reduceAdd,and_true] at c1;have HS12:=hQ hs12;have HST7:=hQ (HST6.out.trans ho5.st);clear hs12 ho5 K1 HS11 HST6;go_wp2_with fail
  refine K2.out.mono ?_;rintro e w6 ⟨rfl,ho6⟩;have hs13:=HS12.out.ext ho6.heap;clear c1;have c1:=hs13.facts;simp only [CellsAt,Nat.reduceAdd,and_true] at c1;have HS13:=hQ hs13;have HST8:=hQ (HST7.out.trans ho6.st);clear ho6 K2 HS12 HST7;rcases hout.out with⟨rfl,hrest⟩ | ⟨hne,rfl,rfl,rfl,rfl,hrest⟩
  · clear hrest
    obtain⟨_,_,e1,⟨d1,d2,d3⟩,⟨f1,f2,f3⟩,d4⟩:=tr_cell (hs13.pull1 (A1:=(TrRow (.slice (some ⟨tb,0,none⟩) ts.length oc) ts))) hi;cases e1;have hs14:=OwnL.of1 (tr_set (hs13.drew.pull1 (A1:=(TrRow (.slice (some ⟨tb,0,none⟩) ts.length oc) ts))) hi ⟨rt',ht',it'⟩)
    have HEND:=hQ (And.intro (((HST8.out.drew.setCell ⟨tb,i*3,none⟩ (.int .i64 rt')).setCell ⟨tb,i*3+1,none⟩ (.int .i64 ht')).setCell ⟨tb,i*3+2,none⟩ (.int .i64 it')) hs14);clear hs13 hs14 HS13 HST8;go_wp2_with fail
    refine wS 152 [0,1,2,3,4,5,6,7] [(8,[],[])] ?_;refine wpQ_all _ rfl rfl ?_;simp only [pick,pQ];iterate 8 (go_big_quiet_step (fail))
    refine wpQuiet_nil ?_;refine wpRest_act rfl ?_;go_wp2_with fail
    refine onN_mk ?_;refine wpQ_nil ⟨?_,?_⟩
    · exact chk_nil
    refine wpRest_nil ?_;go_wp2;go_ret2;exact⟨HEND.out.1,rt',ht',it',ws,0,s',rfl,hout.out,by rw [if_pos rfl];exact HEND.out.2.to⟩
  · have hne':(er == 0)=false:=by simpa using hne
    have HNE:=hQ (And.intro hne hrest);clear hs13 hne hrest;go_wp2;go_ret2;exact⟨HST8.out,0,0,0,false,er,s',rfl,hout.out,by rw [if_neg HNE.out.1];exact HS13.out.to⟩
end Go.Proofs.YtkfjilnmnbeokaaGreat.Z9
namespace Go.Proofs.YtkfjilnmnbeokaaGreat.Ay
open ChangeShapes WideShapes ChangeAt RowKit Sl Cop Deep D2 D3 J3 V3 G2 J2 X3 Z3 Y3 E4 G4 M4 Y5 Z8 P5 V9 Y9
theorem tally_two(p:Nat)(s:PoolS)(k:Int)(hk:k=2∨k=4)(F:Pr)(w:World)(hF:Sat ((PoolA p s).star F) w):
 Calls Tryz.prog 24 #[.pointer (some ⟨p,0,none⟩),.int .i64 k] w fun e w'=>e= .returned (.int .i64 (s.tally k))∧w=w':=by
 obtain⟨ok,cv,lv,fb,av,hA⟩:=poolA_iff.1 hF;unfold PoolAt at hA;rw [Pr.star_assoc] at hA;have q2:w.cell? ⟨p,6,none⟩=some (.int .i64 (s.tally 2)):=by rw [cell_of_heap hA.pts_heap];rfl
 have q4:w.cell? ⟨p,8,none⟩=some (.int .i64 (s.tally 4)):=by rw [cell_of_heap hA.pts_heap];rfl
 clear hF hA ok;rcases hk with rfl | rfl
 all_goals
  go_enter Tryz.func24,Tryz.ntmps24
  go_wp2;go_ret;exact⟨rfl,rfl⟩
theorem pool_of(v:Nat)(s:VaultS)(F:Pr)(w:World)(hF:Sat ((VaultA v s).star F) w):
 ∃p,w.cell? ⟨v,0,none⟩=some (.pointer (some ⟨p,0,none⟩))∧v<w.heap.size∧
  (∀n,Calls Tryz.prog 23 #[.pointer (some ⟨p,0,none⟩),.int .i64 n] w fun e w'=>e= .returned (.int .i64 (s.pool.count n))∧w=w')∧
  (∀k,k=2∨k=4→Calls Tryz.prog 24 #[.pointer (some ⟨p,0,none⟩),.int .i64 k] w fun e w'=>e= .returned (.int .i64 (s.pool.tally k))∧w=w')∧
  Calls Tryz.prog 19 #[.pointer (some ⟨p,0,none⟩)] w fun e w'=>Stays w w'∧∃o,e= .returned o∧OwnL [IntsRow o s.pool.counts,VaultA v s,F] w':=by
 obtain⟨x,ok,h1⟩:=vaultA_iff.1 hF
 have h2:Sat ((PoolA x.p s.pool).star ((Pr.pts v (.cells #[.pointer (some ⟨x.p,0,none⟩),.map (some x.mb),x.av,.int .i64 s.floor] 70)).star
  ((((MapA Tryz.prog 3 x.mb x.f).star ((Row 126 2 x.av s.acts.length (actCells x.axs)).star (Pr.own x.h)))).star F))) w:=h1.perm (by unfold VaultAt;ac_rfl)
 refine⟨x.p,by rw [cell_of_heap h2.right.pts_heap];rfl,h2.right.lt,fun n=>count_A x.p s.pool n _ _ h2,fun k hk=>tally_two x.p s.pool k hk _ _ h2,(counts_A x.p s.pool _ w h2).mono ?_⟩;rintro e w' ⟨o,rfl,h3,hst⟩;refine⟨hst,o,rfl,?_⟩;have h4:Sat ((VaultAt v s x).star ((IntsRow o s.pool.counts).star F)) w':=h3.perm (by unfold VaultAt;ac_rfl)
 exact OwnL.in2 ((vaultA_iff.2 ⟨x,ok,h4⟩).perm (Pr.left_comm _ _ _))
theorem played_zero(len:Int)(tb:Nat)(F:Pr)(w:World)(hF:OwnL [Pr.pts tb (treeC 0 0 0),F] w):
 Calls Tryz.prog 16 #[startV len tb,.slice none 0 0] w fun e w'=>BeginPost len F w e w':=by
 have hs1:=hF.alloc (.cells #[.int .i64 len,.int .i64 2,.slice none 0 0,.slice none 0 0,.slice (some ⟨tb,0,none⟩) 1 1] 58);have BZ:=hQ (begin_zero len tb _ _ (OwnL.in1 (hs1.pull1 (A1:=Pr.pts tb (treeC 0 0 0)))));have HST:=hQ ((Stays.refl w).alloc (.cells #[.int .i64 len,.int .i64 2,.slice none 0 0,.slice none 0 0,.slice (some ⟨tb,0,none⟩) 1 1] 58));clear hF hs1;go_enter Tryz.func16,Tryz.ntmps16
 go_wp2_with fail
 refine BZ.out.mono ?_;rintro e w1 ⟨st1,(⟨h1,rfl,hs2⟩ | ⟨n,rfl,h1,b,v,m,o1,o2,rfl,hs2⟩)⟩
 · have HEND:=hQ (And.intro (HST.out.trans st1) (And.intro h1 (hs2.flat.to (M:= [F]))))
   clear h1 st1 BZ HST hs2;go_wp2;go_ret;exact⟨HEND.out.1,.inl ⟨HEND.out.2.1,rfl,HEND.out.2.2⟩⟩
 · have c1:=hs2.facts
   simp only [CellsAt,Nat.reduceAdd,and_true] at c1;have HEND:=hQ (And.intro (HST.out.trans st1) (And.intro h1 (hs2.flat.to (M:= [Pr.pts b (worldC (.pointer (some ⟨v,0,none⟩)) m o1 o2),VaultA v (newV 2 n),TrRow o1 [⟨0,0,0⟩],F]))));clear h1 st1 BZ HST hs2;go_wp2;go_loopw [6] (fun i wr=>i= .int .i64 0∧wr=w1) (fun _ _=>0)
   case atStart=>exact⟨rfl,rfl⟩
   case round=>
    obtain⟨rfl,rfl⟩:=hrel;go_wp2;go_ret;exact⟨HEND.out.1,.inr ⟨n,rfl,HEND.out.2.1,b,v,m,o1,o2,rfl,HEND.out.2.2⟩⟩
end Go.Proofs.YtkfjilnmnbeokaaGreat.Ay
namespace Go.Proofs.YtkfjilnmnbeokaaGreat.Cy
open ChangeShapes WideShapes ChangeAt RowKit Sl Cop Deep D2 D3 J3 V3 G2 J2 X3 Z3 Y3 M4 Y5 N6 Q6 W6 Z8 U9 Z9 N2 V5
abbrev cO(c:Int):Obj:= .cells #[.int .u8 c] 5 (1,2)
theorem one_byte {b:Nat}{c:Int}{h:Hp}(ha:Pr.pts b (cO c) h):Bytes h (.slice (some ⟨b,0,none⟩) 1 1) [c]:=by
 refine⟨by simp,_,_,rfl,Nat.le_refl _,by simp [maxLen],fun _=>⟨_,_,rfl,fun i hi=> ?_⟩⟩;have:i=0:=by simp at hi;omega
 subst this;show h.cell _ _=_
 rw [ha];simp [Hp.cell]
theorem two_bytes {a b:Nat}{c d:Int}{h:Hp}(hp:((Pr.pts a (cO c)).star (Pr.pts b (cO d))) h):Bytes h (.slice (some ⟨a,0,none⟩) 1 1) [c]∧Bytes h (.slice (some ⟨b,0,none⟩) 1 1) [d]:=by
 obtain⟨x,y,hx,hy,s1,s2⟩:=star_sub hp;exact⟨(one_byte hx).sub s1,(one_byte hy).sub s2⟩
abbrev leaf1:PageV:=⟨1,0,[storedI [98] [49] 0],[],0⟩
abbrev leaf2:PageV:=⟨1,0,[storedI [97] [50] 0,storedI [98] [49] 0],[],0⟩
structure First(s:VaultS):Prop where
 vi:VInv s
 lone:Lone s
 on:s.on 1=some leaf1
 cnt:s.pool.count 1≠0
theorem first_of {s':VaultS}{rt ht it:Int}{ws:Bool}{er:Int}(h:PutOut (newV 9 4) 1000 0 0 0 [98] [49] [] rt ht it ws er s'):
 er=0∧ws=false∧rt=1∧ht=1∧it=1∧First s'∧RoomV s' 1000∧(∃r,HistV r s')∧∃S c,Clo s'.get s'.pool.count S (rootC 1++ [])∧StandN (lookV s') 1 1 1 [storedI [98] [49] c]:=by
 obtain⟨v1,l1,h1,r1,c1,st1⟩:=new_facts (n:=4) (refs:=9) (by decide) 1065 (by decide)
 have hs1:(newV 9 4).pool.state 1=1:=by
  rw [state_there (by unfold PoolS.there;exact⟨by decide,by decide⟩),new_count,new_lasts];rfl
 have hck:checkP leaf1=0:=by decide
 rcases h with⟨rfl,_,_,hws,hp,rm,q,hq⟩ | ⟨hne,_,_,_,_,hpe,_⟩
 · obtain⟨rfl,rfl,rfl,hm⟩:=put_first v1 hs1 (by decide) hp
   have hu:∀x∈leaf1.items,U8 x.key:=by
    intro x hx;rcases List.mem_singleton.1 hx with rfl
    intro z hz;rcases List.mem_singleton.1 hz with rfl
    decide
   obtain⟨m1,m2,m3,m4,m5⟩:=mk_ext v1 hm hu;obtain⟨S',c,_,p2,p3,_⟩:=put_ok v1 c1 st1 (by decide) (by intro z hz;rcases List.mem_singleton.1 hz with rfl;decide) (by intro e;rw [hws] at e;cases e) hp;exact⟨rfl,hws,rfl,rfl,rfl,⟨m5,(mk_lone v1 l1 hu hm).1,by rw [m3,if_pos rfl],by rw [m2,if_pos rfl];decide⟩,rm,⟨_,hq.hist h1⟩,S',c,p2,p3⟩
 · exfalso
   rcases hpe with⟨h2,_⟩ | ⟨_,h2,_⟩ | ⟨_,_,h2⟩
   · cases h2
   · simp at h2
   · exact put_first_ok v1 hs1 (by decide) (by decide) hck h2
theorem second_of {s s':VaultS}{c:Int}{rt ht it:Int}{ws:Bool}{er:Int}(f:First s)(h:PutOut s 900 1 1 1 [97] [50] [storedI [98] [49] c] rt ht it ws er s'):
 er=0∧ws=false∧rt=1∧ht=1∧it=2∧VInv s'∧s'.on 1=some leaf2∧s'.pool.count 1≠0:=by
 have hf:(findK [97] [storedI [98] [49] c]).isSome=false:=rfl;obtain⟨lE,lR⟩:=leaf_add (K:= [97]) (V:= [50]) f.vi f.lone f.cnt f.on rfl (by decide) (by decide) (by decide) (by decide);rcases h with⟨rfl,_,_,hws,hp,_⟩ | ⟨hne,_,_,_,_,hpe,_⟩
 · rw [hf] at hws
   subst hws;obtain⟨rfl,rfl,rfl,hw⟩:=lR _ _ _ _ hp
   obtain⟨w1,w2,w3,w4,w5⟩:=wr_ext f.vi hw (by
    intro x hx
    have hx2:x∈leaf2.items:=hx
    simp only [List.mem_cons,List.not_mem_nil,or_false] at hx2
    rcases hx2 with rfl | rfl
    · intro z hz
      rcases List.mem_singleton.1 hz with rfl
      decide
    · intro z hz
      rcases List.mem_singleton.1 hz with rfl
      decide)
   exact⟨rfl,rfl,rfl,rfl,rfl,w5,by rw [w3,if_pos rfl];rfl,by rw [w2];exact f.cnt⟩
 · exfalso
   rcases hpe with⟨h2,_⟩ | ⟨_,h2,_⟩ | ⟨_,_,h2⟩
   · cases h2
   · simp at h2
   · rw [hf] at h2
     exact lE _ h2
theorem works_any(F:Pr)(w:World)(hF:Sat F w):
 Calls Tryz.prog 7 #[] w fun e w'=>Stays w w'∧e= .returned (.bool true)∧Sat F w':=by
 have VN:=hQ (vnew_any 4 9 (by decide) F w hF);clear hF;go_enter Tryz.func7,Tryz.ntmps7
 go_wp2_with fail
 refine VN.out.mono ?_;rintro e w1 ⟨st1,v,rfl,hs1⟩;clear VN;obtain⟨N,hN⟩:∃N,w1.heap.size=N:=⟨_,rfl⟩;have sA:(w1.alloc (cO 98)).heap.size=N+1:=by rw [← hN];simp
 have hcvA:=Go.Joins.run_convert_bytes_const_at (P:=Tryz.prog) w1 39 5 #[.int .u8 98] 1 1 N hN.symm Tryz.underlying39 Tryz.underlying5;have hcvB:=Go.Joins.run_convert_bytes_const_at (P:=Tryz.prog) (w1.alloc (cO 98)) 39 5 #[.int .u8 49] 1 1 (N+1) sA.symm Tryz.underlying39 Tryz.underlying5
 have hs2:=((OwnL.of1 (show Sat ((VaultA v (newV 9 4)).star (starL [F])) w1 from(OwnL.in1 hs1).sat)).alloc (cO 98)).alloc (cO 49);rw [sA,hN] at hs2;have hs3:=hs2.join2 (Pr.pts N (cO 98)) (Pr.pts (N+1) (cO 49));obtain⟨a,ha,hs4⟩:=hs3.arena ((Pr.pts N (cO 98)).star (Pr.pts (N+1) (cO 49)));obtain⟨hb1,hb2⟩:=two_bytes ha;obtain⟨v1,l1,h1,r1,c1,st2⟩:=new_facts (n:=4) (refs:=9) (by decide) 1065 (by decide)
 have PU:=hQ (puts_any v (newV 9 4) [] h1 v1 1000 r1 a _ _ [98] [49] hb1 hb2 (by intro z hz;rcases List.mem_singleton.1 hz with rfl;decide) (by decide) (by decide) 0 0 0 [] [] c1 [] st2 (by decide) _ _ (OwnL.in2 (hs4.pull2 (A1:=VaultA v (newV 9 4)) (A2:=Pr.own a))));have HST1:=hQ ((st1.alloc (cO 98)).alloc (cO 49));clear hs1 hs2 hs3 hs4 ha hb1 hb2 v1 l1 h1 r1 c1 st2 st1;go_wp2_with fail
 refine PU.out.mono ?_;rintro e w2 h2;obtain⟨st2,rt',ht',it',ws,er,s1,rfl,hout,hs5⟩:=puts_split h2;obtain⟨rfl,rfl,rfl,rfl,rfl,hfi,rm1,⟨r,hr⟩,S,c,hclo,hstd⟩:=first_of hout.out;have hs6:=(hs5.flat.alloc (treeC 1 1 1));have HST2:=hQ ((HST1.out.trans st2).alloc (treeC 1 1 1));obtain⟨M,hM⟩:∃M,w2.heap.size=M:=⟨_,rfl⟩;have sC:(w2.alloc (treeC 1 1 1)).heap.size=M+1:=by rw [← hM];simp
 have sD:((w2.alloc (treeC 1 1 1)).alloc (cO 97)).heap.size=M+1+1:=by rw [← hM];simp
 have hcvC:=Go.Joins.run_convert_bytes_const_at (P:=Tryz.prog) (w2.alloc (treeC 1 1 1)) 39 5 #[.int .u8 97] 1 1 (M+1) sC.symm Tryz.underlying39 Tryz.underlying5;have hcvD:=Go.Joins.run_convert_bytes_const_at (P:=Tryz.prog) ((w2.alloc (treeC 1 1 1)).alloc (cO 97)) 39 5 #[.int .u8 50] 1 1 (M+1+1) sD.symm Tryz.underlying39 Tryz.underlying5;have hs7:=(hs6.alloc (cO 97)).alloc (cO 50)
 rw [sD,sC,hM] at hs7;have hs8:=hs7.join2 (Pr.pts (M+1) (cO 97)) (Pr.pts (M+1+1) (cO 50));obtain⟨a2,ha2,hs9⟩:=hs8.arena ((Pr.pts (M+1) (cO 97)).star (Pr.pts (M+1+1) (cO 50)));obtain⟨hb1,hb2⟩:=two_bytes ha2
 have PU2:=hQ (puts_any v s1 r hr hfi.vi 900 (rm1.le (by decide)) a2 _ _ [97] [50] hb1 hb2 (by intro z hz;rcases List.mem_singleton.1 hz with rfl;decide) (by decide) (by decide) 1 1 1 S [] hclo [storedI [98] [49] c] hstd (by decide) _ _ (OwnL.in2 (hs9.pull2 (A1:=VaultA v s1) (A2:=Pr.own a2))));have HST3:=hQ ((HST2.out.alloc (cO 97)).alloc (cO 50));have HF:=hQ hfi
 clear PU h2 st2 hout hs5 HST1 hfi rm1 hr hclo hstd hcvA hcvB sA hN hs6 hs7 hs8 hs9 ha2 hb1 hb2 HST2;go_wp2_with fail
 refine PU2.out.mono ?_;rintro e w3 h3;obtain⟨st3,rt',ht',it',ws,er,s2,rfl,hout,hs10⟩:=puts_split h3;obtain⟨rfl,rfl,rfl,rfl,rfl,v2,on2,cnt2⟩:=second_of HF.out hout.out;have hs11:=hs10.flat;have hs12:=((hs11.set M 0 (.int .i64 1)).set M 1 (.int .i64 1)).set M 2 (.int .i64 2);have c1:=hs11.facts;simp only [CellsAt,Nat.reduceAdd,and_true] at c1
 have HST4:=hQ ((((HST3.out.trans st3).setCell ⟨M,0,none⟩ (.int .i64 1)).setCell ⟨M,1,none⟩ (.int .i64 1)).setCell ⟨M,2,none⟩ (.int .i64 2));have fit2:Fit leaf2:=fit_of_check (v2.chk 1 leaf2 on2);have RD:=hQ (read_rows v s2 1 (by decide) leaf2 fit2 _ _ (hs12.pull1 (A1:=VaultA v s2)) cnt2 on2);clear PU2 h3 st3 hout hs10 hs11 hs12 HST3 HF v2 on2 cnt2 hcvC hcvD sC sD fit2;go_wp2_with fail
 refine RD.out.mono ?_;rintro e w4 ⟨st4,t,rfl,e1,hs13⟩;have hs14:=OwnL.of2 hs13;obtain⟨la,lc,ld,le,hl⟩:=told_sh (hs14.pull1 (A1:=PgOwn t));have hl2:t.pv=pageV 1 0 (.slice la 2 lc) (.slice ld 0 le) 0:=by rw [hl,e1];rfl
 rw [hl2];dsimp only [pageV];obtain⟨a3,ha3,hs15⟩:=hs14.arena (PgOwn t);have hpi:=pgOwn_in ha3;rw [hl2,e1] at hpi;obtain⟨_,_,hpe,hpi2,_⟩:=hpi;cases hpe;obtain⟨_,_,epi,_,rd⟩:=items_rd hpi2;cases epi;obtain⟨bi,off,ak,ck,av,cv,rfl,hbk,hbv,hcc⟩:=rd 0 (by decide);obtain⟨q1,q2,_,_⟩:=hcc w4 (hs15.le (a:=a3));have d1:w4.cell? ⟨bi,off,none⟩=some (.slice ak 1 ck):=q1
 have d2:w4.cell? ⟨bi,off+1,none⟩=some (.slice av 1 cv):=q2;have hbk:Bytes a3 (.slice ak 1 ck) [97]:=hbk;have hbv:Bytes a3 (.slice av 1 cv) [50]:=hbv;have zb:=World.block_lt_of_cell? _ _ d1;simp only at zb;have hs16:=hs15.alloc (pageC 1 0 (.slice (some ⟨bi,off,none⟩) 2 lc) (.slice ld 0 le) 0);obtain⟨B,hB⟩:∃B,w4.heap.size=B:=⟨_,rfl⟩;have zbB:bi<B:=by rw [← hB];exact zb
 have sE:(w4.alloc (pageC 1 0 (.slice (some ⟨bi,off,none⟩) 2 lc) (.slice ld 0 le) 0)).heap.size=B+1:=by rw [← hB];simp
 have hcvE:=Go.Joins.run_convert_bytes_const_at (P:=Tryz.prog) (w4.alloc (pageC 1 0 (.slice (some ⟨bi,off,none⟩) 2 lc) (.slice ld 0 le) 0)) 39 5 #[.int .u8 97] 1 1 (B+1) sE.symm Tryz.underlying39 Tryz.underlying5;rw [hB] at hs16;have hs17:=hs16.alloc (cO 97);rw [sE] at hs17;obtain⟨a4,ha4,hs18⟩:=hs17.arena (Pr.pts (B+1) (cO 97))
 have EQ:=hQ (eq_same a3 a4 _ _ [97] hbk (one_byte ha4) (by decide) _ (hs18.le (a:=a3)) (hs18.le (a:=a4)));have HS18:=hQ hs18;have HST5:=hQ ((((HST4.out.trans st4).alloc (pageC 1 0 (.slice (some ⟨bi,off,none⟩) 2 lc) (.slice ld 0 le) 0)).alloc (cO 97)));have HB:=hQ (And.intro hbv hcc);clear RD hs13 hs14 hs15 hs16 hs17 hs18 ha3 ha4 hbk hbv st4 hl hl2 e1 hpi2 rd q1 q2 HST4 c1 hcc;go_wp2_with fail
 refine EQ.out.mono ?_;rintro e w5 ⟨rfl,ho⟩;have hs19:=HS18.out.ext ho.heap;obtain⟨_,q2,_,_⟩:=HB.out.2 w5 (hs19.le (a:=a3));have d3:w5.cell? ⟨bi,off+1,none⟩=some (.slice av 1 cv):=q2;have zb3:=World.block_lt_of_cell? _ _ d3;simp only at zb3;have c1:=hs19.facts;simp only [CellsAt,Nat.reduceAdd,and_true] at c1;obtain⟨C,hC⟩:∃C,w5.heap.size=C:=⟨_,rfl⟩;have zb3C:bi<C:=by rw [← hC];exact zb3
 have hcvF:=Go.Joins.run_convert_bytes_const_at (P:=Tryz.prog) w5 39 5 #[.int .u8 50] 1 1 C hC.symm Tryz.underlying39 Tryz.underlying5;have hs20:=hs19.alloc (cO 50);rw [hC] at hs20;obtain⟨a5,ha5,hs21⟩:=hs20.arena (Pr.pts C (cO 50));have EQ2:=hQ (eq_same a3 a5 _ _ [50] HB.out.1 (one_byte ha5) (by decide) _ (hs21.le (a:=a3)) (hs21.le (a:=a5)));have HS21:=hQ hs21
 have HST6:=hQ ((HST5.out.trans ho.st).alloc (cO 50));clear EQ hs19 hs20 hs21 ha5 ho q2 HS18 HST5 HB d1 d2 zb zbB hcvE sE;go_wp2_with fail
 refine EQ2.out.mono ?_;rintro e w6 ⟨rfl,ho⟩;have hs22:=HS21.out.ext ho.heap;have HEND:=hQ (And.intro (HST6.out.trans ho.st) (hs22.to (M:= [F])));clear EQ2 hs22 ho HS21 HST6 c1 d3 zb3 zb3C;go_wp2;go_ret;exact⟨HEND.out.1,rfl,HEND.out.2.end1⟩
end Go.Proofs.YtkfjilnmnbeokaaGreat.Cy
namespace Go.Cop
open Go.Proofs.YtkfjilnmnbeokaaGreat.D6 Go.Proofs.YtkfjilnmnbeokaaGreat.D8 Go.Proofs.YtkfjilnmnbeokaaGreat.M7 Go.Proofs.YtkfjilnmnbeokaaGreat.D2 Go.Proofs.YtkfjilnmnbeokaaGreat.J3 Go.Proofs.YtkfjilnmnbeokaaGreat.V3 Go.Proofs.YtkfjilnmnbeokaaGreat.J7 Go.Proofs.YtkfjilnmnbeokaaGreat.Q3 Go.Proofs.YtkfjilnmnbeokaaGreat.P8 Go.Proofs.YtkfjilnmnbeokaaGreat.C7 Go.Proofs.YtkfjilnmnbeokaaGreat.M4 Go.Proofs.YtkfjilnmnbeokaaGreat.V5 Go.Proofs.YtkfjilnmnbeokaaGreat.U9 Go.Proofs.YtkfjilnmnbeokaaGreat.Z9
structure PiI(s:VaultS)(t:TreeV)(k j:Nat):Prop where
 vi:VInv s
 lone:Lone s
 rm:RoomV s k
 hist:∃r,HistV r s
 std:∃S L,Clo s.get s.pool.count S (rootC t.root++ [])∧StandN (lookV s) t.root t.height t.items L
 itb:t.items≤j
theorem pi_new {n:Nat}(h:rangeOk n 2=true)(k:Nat)(hk:k≤100000):PiI (newV 2 n) ⟨0,0,0⟩ k 0:=by
 obtain⟨v1,l1,h1,r1,c1,st1⟩:=new_facts h k hk;exact⟨v1,l1,r1,⟨_,h1⟩,⟨_,_,c1,st1⟩,Int.le_refl _⟩
theorem put_items {s s':VaultS}{rt ht it rt' ht' it':Int}{K V:List Int}{was:Bool}(h0:0≤it)(hp:PutR s rt ht it K V was s' rt' ht' it'):it'≤it+1:=by
 obtain⟨c,s1,ns,_,_,_,(⟨_,_,_,_,rfl⟩ | ⟨_,s2,_,_,rfl⟩)⟩:=hp
 · omega
 · split<;>omega
theorem pi_step {s s':VaultS}{t:TreeV}{k j:Nat}{S:List Int}{L:List ItemV}(h:PiI s t (k+65) j){K V:List Int}(uk:U8 K){rt' ht' it' er:Int}{ws:Bool}(hc:Clo s.get s.pool.count S (rootC t.root++ []))(hs:StandN (lookV s) t.root t.height t.items L)
 (ho:PutOut s k t.root t.height t.items K V L rt' ht' it' ws er s'):PiI s' (if er=0 then⟨rt',ht',it'⟩ else t) k (j+1)∧StayP s s'∧(er≠0→s'=s):=by
 rcases ho with⟨rfl,hk,_,hws,hp,rm,q,hq⟩ | ⟨hne,_,_,_,_,_,rfl⟩
 · rw [if_pos rfl]
   obtain⟨r,hr⟩:=h.hist;obtain⟨S',c,p1,p2,p3,p4,p5,_⟩:=put_ok h.vi hc hs hk uk (fun e=>find_mem (by rw [← hws];exact e)) hp;obtain⟨l1,l2⟩:=put_lone h.vi h.lone hc hs hk uk hp
   have h0:0≤t.items:=by
    rcases hs with⟨_,_,e,_⟩ | ⟨_,e,_⟩
    · omega
    · omega
   have:=put_items h0 hp
   have:=h.itb
   exact⟨⟨p1,l1,rm,⟨_,hq.hist hr⟩,⟨S',_,p2,p3⟩,by show it'≤ _;omega⟩,l2,fun e=>absurd rfl e⟩
 · rw [if_neg hne]
   exact⟨⟨h.vi,h.lone,h.rm.le (by omega),h.hist,h.std,by have:=h.itb;omega⟩,StayP.refl _,fun _=>rfl⟩
theorem path_pages {look:Int→Option PageV}(ok:PgsOk look)(key:List Int){lv:Nat}{n:Int}{r:RangeV}{L:List ItemV}(h:TrK look lv n r L):∀m∈pathK look key lv n,∃g,look m=some g∧g.kind≠3:=by
 induction h with
 | leaf n r g h1 h2 _=>
   intro m hm;obtain rfl:=List.mem_singleton.1 hm;exact⟨g,h1,by rw [h2];decide⟩
 | index lv n r g LL h1 h2 h3 h4 h5 ih=>
   intro m hm;rw [path_step h1] at hm;rcases List.mem_cons.1 hm with rfl | hm
   · exact⟨g,h1,by rw [h2];decide⟩
   · have hne:g.items≠ []:=by
      have:=((form_of_check (ok.chk n g h1)).index h2).2.2
      intro e;rw [e] at this;simp at this
     have hr:=(route_spec key hne).1;exact ih (routeK g.items key) (by omega) m hm
theorem way_pages {s:VaultS}(h:VInv s)(key:List Int){rt ht it:Int}{L:List ItemV}(hs:StandN (lookV s) rt ht it L):∀m∈wayK (lookV s) rt ht key,∃g,lookV s m=some g∧g.kind≠3:=by
 intro m hm;rcases stand_T h hs with⟨_,rfl,_⟩ | ⟨_,_,lv,rfl,_,hT⟩
 · unfold wayK at hm
   rw [if_pos rfl] at hm;cases hm
 · unfold wayK at hm
   rw [if_neg (by omega),show ((lv:Int)+1-1).toNat=lv by omega] at hm;exact path_pages h.pgs key hT m hm
theorem lone_tally {s:VaultS}(hl:Lone s){k:Int}(hk:k=2∨k=4):s.pool.tally k=0:=by
 unfold PoolS.tally;rw [if_neg (by omega)]
 have:s.pool.many k=0:=by
  unfold PoolS.many;rw [List.length_eq_zero_iff,List.filter_eq_nil_iff];rintro⟨c,l⟩ hx
  have hl2:l=false:=by
   obtain⟨i,hi,e⟩:=List.getElem_of_mem (List.of_mem_zip hx).2;have h1:=hl.lst ((i:Int)+1);unfold PoolS.lasts at h1;rw [show ((i:Int)+1).toNat-1=i by omega,List.getD_eq_getElem?_getD,List.getElem?_eq_getElem hi] at h1;rw [← e];exact h1
  subst hl2;show ¬((stateOf c false == k)=true)
  unfold stateOf;rcases hk with rfl | rfl
  · by_cases hc:0<c<;>simp [hc]
  · by_cases hc:0<c<;>simp [hc]
 rw [this];rfl
end Go.Cop
