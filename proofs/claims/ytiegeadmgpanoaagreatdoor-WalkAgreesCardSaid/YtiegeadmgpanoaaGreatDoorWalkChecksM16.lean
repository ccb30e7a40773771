/- The document's EqItem, EqPage at two that are the same; the conditions stand as hypotheses. -/
import Derived.Test.YtiegeadmgpanoaaGreatDoorWalkChecksM12
import Derived.Test.YtiegeadmgpanoaaGreatDoorWalkChecksM15
import Derived.Test.YtiegeadmgpanoaaGreatDoorWalkChecksM10
import Derived.Test.YtiegeadmgpanoaaGreatDoorWalkChecksM02
import Derived.Test.YtiegeadmgpanoaaGreatDoorWalkChecksM05
import Derived.Test.YtiegeadmgpanoaaGreatDoorWalkChecksM13
import Derived.Test.YtiegeadmgpanoaaGreatDoorWalkChecksM08
import Derived.Test.YtiegeadmgpanoaaGreatDoorWalkChecksM01
set_option maxRecDepth 100000
set_option maxHeartbeats 16000000
namespace Go.Proofs.YtiegeadmgpanoaaGreatDoor.Q5
open ChangeShapes WideShapes ChangeAt RowKit Sl Cop G2 J2 N2 Q3 X3 Z3 E4 M5
theorem eqitem_same(ha hb:Hp)(va vb:Value)(x:ItemV)(h1:ItemIn ha va x)(h2:ItemIn hb vb x)(hn:x.key.length≤9000000000000000000∧x.value.length≤9000000000000000000)(w:World)(l1:ha.le w)(l2:hb.le w):
 Calls Tryz.prog 87 #[va,vb] w fun e w'=>e= .returned (.bool true)∧Only w w':=by
 obtain⟨k1,v1,rfl,hk1,hv1⟩:=h1;obtain⟨k2,v2,rfl,hk2,hv2⟩:=h2;obtain⟨a1,c1,rfl⟩:=bytes_shape hk1;obtain⟨a2,c2,rfl⟩:=bytes_shape hv1;obtain⟨a3,c3,rfl⟩:=bytes_shape hk2;obtain⟨a4,c4,rfl⟩:=bytes_shape hv2
 obtain⟨w0,hw0⟩:∃w0,(w.alloc (itemC (.slice a1 x.key.length c1) (.slice a2 x.value.length c2) x.child x.size)).alloc (itemC (.slice a3 x.key.length c3) (.slice a4 x.value.length c4) x.child x.size)=w0:=⟨_,rfl⟩;have ho0:Only w w0:=hw0 ▸ ((Only.refl w).alloc _).alloc _
 have facts:∀wr,Only w0 wr→(wr.cell? ⟨w.heap.size,0,none⟩=some (.slice a1 x.key.length c1)∧wr.cell? ⟨w.heap.size,1,none⟩=some (.slice a2 x.value.length c2)∧wr.cell? ⟨w.heap.size,2,none⟩=some (.int .i64 x.child)∧wr.cell? ⟨w.heap.size,3,none⟩=some (.int .i64 x.size))∧
  (wr.cell? ⟨w.heap.size+1,0,none⟩=some (.slice a3 x.key.length c3)∧wr.cell? ⟨w.heap.size+1,1,none⟩=some (.slice a4 x.value.length c4)∧wr.cell? ⟨w.heap.size+1,2,none⟩=some (.int .i64 x.child)∧wr.cell? ⟨w.heap.size+1,3,none⟩=some (.int .i64 x.size))∧ha.le wr∧hb.le wr∧w.heap.size+1<wr.heap.size:=by
  intro wr ho;subst hw0;have s1:Sat ((Pr.pts w.heap.size (itemC (.slice a1 x.key.length c1) (.slice a2 x.value.length c2) x.child x.size)).star Pr.emp) (w.alloc (itemC (.slice a1 x.key.length c1) (.slice a2 x.value.length c2) x.child x.size)):=(sat_emp w).alloc _;have s2:=s1.alloc (itemC (.slice a3 x.key.length c3) (.slice a4 x.value.length c4) x.child x.size)
  rw [show (w.alloc (itemC (.slice a1 x.key.length c1) (.slice a2 x.value.length c2) x.child x.size)).heap.size=w.heap.size+1 by simp] at s2;have s3:=s2.only ho;obtain⟨p0,p1,p2,p3,_,_⟩:=pts4 s3.right;obtain⟨r0,r1,r2,r3,_,zz⟩:=pts4 s3;exact⟨⟨p0,p1,p2,p3⟩,⟨r0,r1,r2,r3⟩,le_only (le_only l1 ho0) ho,le_only (le_only l2 ho0) ho,zz⟩
 have FA:=hQ facts;have HO0:=hQ ho0;have H1:=hQ (And.intro hk1 hv1);have H2:=hQ (And.intro hk2 hv2);clear facts ho0 hk1 hv1 hk2 hv2 l1 l2;obtain⟨⟨p0,p1,p2,p3⟩,⟨r0,r1,r2,r3⟩,e1,e2,z⟩:=FA.out w0 (Only.refl _);go_enter Tryz.func87,Tryz.ntmps87
 go_wp2_with fail
 refine(eq_same ha hb _ _ x.key H1.out.1 H2.out.1 hn.1 _ e1 e2).mono ?_;rintro e w1 ⟨rfl,ho1⟩;clear p0 p1 p2 p3 r0 r1 r2 r3 e1 e2 z;obtain⟨⟨p0,p1,p2,p3⟩,⟨r0,r1,r2,r3⟩,e1,e2,z⟩:=FA.out w1 ho1;go_wp2_with fail
 refine(eq_same ha hb _ _ x.value H1.out.2 H2.out.2 hn.2 _ e1 e2).mono ?_;rintro e w2 ⟨rfl,ho2⟩;go_wp2;go_ret;exact⟨rfl,HO0.out.trans (ho1.trans ho2)⟩
theorem eqpage_same(ha hb:Hp)(va vb:Value)(g:PageV)(h1:PageIn ha va g)(h2:PageIn hb vb g)(hf:Fit g)(w:World)(l1:ha.le w)(l2:hb.le w):
 Calls Tryz.prog 47 #[va,vb] w fun e w'=>e= .returned (.bool true)∧Only w w':=by
 obtain⟨i1,d1,rfl,hi1,hd1⟩:=h1;obtain⟨i2,d2,rfl,hi2,hd2⟩:=h2;obtain⟨a1,c1,rfl,_,rd1⟩:=items_rd hi1;obtain⟨a3,c3,rfl,_,rd2⟩:=items_rd hi2;obtain⟨a2,c2,rfl⟩:=bytes_shape hd1;obtain⟨a4,c4,rfl⟩:=bytes_shape hd2;obtain⟨k,l,its,dat,nx⟩:=g;dsimp only at*;have hn1:(its.length:Int)≤8:=by have:=hf.n;dsimp only at this;omega
 have hdl:dat.length≤9000000000000000000:=by have:=hf.d;dsimp only at this;omega
 have hkk:∀y∈its,y.key.length≤9000000000000000000∧y.value.length≤9000000000000000000:=fun y hy=>by have:=hf.k y hy;omega
 obtain⟨w0,hw0⟩:∃w0,(w.alloc (pageC k l (.slice a1 its.length c1) (.slice a2 dat.length c2) nx)).alloc (pageC k l (.slice a3 its.length c3) (.slice a4 dat.length c4) nx)=w0:=⟨_,rfl⟩;have ho0:Only w w0:=hw0 ▸ ((Only.refl w).alloc _).alloc _
 have facts:∀wr,Only w0 wr→(wr.cell? ⟨w.heap.size,0,none⟩=some (.int .i64 k)∧wr.cell? ⟨w.heap.size,1,none⟩=some (.int .i64 l)∧wr.cell? ⟨w.heap.size,2,none⟩=some (.slice a1 its.length c1)∧wr.cell? ⟨w.heap.size,3,none⟩=some (.slice a2 dat.length c2)∧wr.cell? ⟨w.heap.size,4,none⟩=some (.int .i64 nx))∧
  (wr.cell? ⟨w.heap.size+1,0,none⟩=some (.int .i64 k)∧wr.cell? ⟨w.heap.size+1,1,none⟩=some (.int .i64 l)∧wr.cell? ⟨w.heap.size+1,2,none⟩=some (.slice a3 its.length c3)∧wr.cell? ⟨w.heap.size+1,3,none⟩=some (.slice a4 dat.length c4)∧wr.cell? ⟨w.heap.size+1,4,none⟩=some (.int .i64 nx))∧ha.le wr∧hb.le wr∧w.heap.size+1<wr.heap.size:=by
  intro wr ho;subst hw0;have s1:Sat ((Pr.pts w.heap.size (pageC k l (.slice a1 its.length c1) (.slice a2 dat.length c2) nx)).star Pr.emp) (w.alloc (pageC k l (.slice a1 its.length c1) (.slice a2 dat.length c2) nx)):=(sat_emp w).alloc _;have s2:=s1.alloc (pageC k l (.slice a3 its.length c3) (.slice a4 dat.length c4) nx)
  rw [show (w.alloc (pageC k l (.slice a1 its.length c1) (.slice a2 dat.length c2) nx)).heap.size=w.heap.size+1 by simp] at s2;have s3:=s2.only ho;obtain⟨p0,p1,p2,p3,p4,_,_⟩:=pts5 s3.right;obtain⟨r0,r1,r2,r3,r4,_,zz⟩:=pts5 s3;exact⟨⟨p0,p1,p2,p3,p4⟩,⟨r0,r1,r2,r3,r4⟩,le_only (le_only l1 ho0) ho,le_only (le_only l2 ho0) ho,zz⟩
 have FA:=hQ facts;have HO0:=hQ ho0;have RD1:=hQ rd1;have RD2:=hQ rd2;have HD1:=hQ hd1;have HD2:=hQ hd2;have HK:=hQ hkk;clear facts ho0 rd1 rd2 hd1 hd2 hi1 hi2 l1 l2 hkk hf;obtain⟨⟨p0,p1,p2,p3,p4⟩,⟨r0,r1,r2,r3,r4⟩,e1,e2,z⟩:=FA.out w0 (Only.refl _);go_enter Tryz.func47,Tryz.ntmps47
 go_wp2_with fail
 refine(eq_same ha hb _ _ dat HD1.out HD2.out hdl _ e1 e2).mono ?_;rintro e w1 ⟨rfl,ho1⟩;clear p0 p1 p2 p3 p4 r0 r1 r2 r3 r4 e1 e2 z;go_wp2_with fail
 go_loopw [5] (fun i wr=> ∃r:Nat,r≤its.length∧i= .int .i64 r∧Only w0 wr) (fun i _=>its.length-(intOf i).toNat)
 case atStart=>exact⟨0,Nat.zero_le _,rfl,ho1⟩
 case round=>
  obtain⟨r,hr,rfl,ho⟩:=hrel;obtain⟨⟨p0,p1,p2,p3,p4⟩,⟨r0,r1,r2,r3,r4⟩,e1,e2,z⟩:=FA.out wr ho;rcases Nat.lt_or_ge r its.length with hlt | hge
  · obtain⟨b1,o1,ak1,ck1,av1,cv1,rfl,hbk1,hbv1,hc1⟩:=RD1.out r hlt
    obtain⟨b2,o2,ak2,ck2,av2,cv2,rfl,hbk2,hbv2,hc2⟩:=RD2.out r hlt;obtain⟨s0,s1,s2,s3⟩:=hc1 wr e1;obtain⟨t0,t1,t2,t3⟩:=hc2 wr e2;have HX:=hQ (HK.out its[r] (List.getElem_mem hlt));have HC1:=hQ hc1;have HC2:=hQ hc2;have HO:=hQ ho;clear hc1 hc2 ho;generalize its[r]=x at*;go_wp2_with fail
    refine wS 61 [0,1,2,3,4,5,6,7,8,9] [(10,[11],[0,1,2,3,5,6,7,8])] ?_;refine wpQ_all _ rfl rfl ?_;simp only [pick,pQ];iterate 10 (go_big_quiet_step (fail))
    refine wpQuiet_nil ?_;refine wpRest_act rfl ?_;go_wp2_with fail
    refine(eqitem_same ha hb _ _ x ⟨_,_,rfl,hbk1,hbv1⟩ ⟨_,_,rfl,hbk2,hbv2⟩ HX.out _ (le_only e1 ((Only.refl _).drew)) (le_only e2 ((Only.refl _).drew))).mono ?_;rintro e w2 ⟨rfl,ho2⟩;have HO2:=hQ (HO.out.drew.trans ho2);clear p0 p1 p2 p3 p4 r0 r1 r2 r3 r4 e1 e2 z s0 s1 s2 s3 t0 t1 t2 t3;obtain⟨⟨p0,p1,p2,p3,p4⟩,⟨r0,r1,r2,r3,r4⟩,e1,e2,z⟩:=FA.out w2 HO2.out;obtain⟨s0,s1,s2,s3⟩:=HC1.out w2 e1
    obtain⟨t0,t1,t2,t3⟩:=HC2.out w2 e2;go_wp2;refine onN_mk ?_;refine wpQ_all _ rfl rfl ?_;simp only [pick,pQ];iterate 1 (go_big_quiet_step (fail))
    refine wpQuiet_nil ⟨?_,?_⟩
    · exact cQ
    refine wpRest_nil ?_;go_wp2;go_roundw
    case rel=>exact⟨r+1,by omega,congrArg (Value.int .i64) (by omega),HO2.out⟩
    case measure=>simp [intOf];omega
  · have hrl:r=its.length:=by omega
    subst hrl;have HO:=hQ ho;clear ho;go_wp2;go_ret;exact⟨rfl,HO0.out.trans HO.out⟩
end Go.Proofs.YtiegeadmgpanoaaGreatDoor.Q5
namespace Go.Proofs.YtiegeadmgpanoaaGreatDoor.T5
open ChangeShapes WideShapes ChangeAt RowKit Sl Cop Go.Shelf G2 J2 Q3 X3 M5
attribute [local go_sem] Oper.semAt_some
def encB(x:Int × Value):Array Value:= #[.int .i64 x.1,x.2]
def OkB(h:Hp)(l:List ItemV)(pre:List (Int × Value))(x:Int × Value):Prop:= ∃i,∃hi:i<l.length,pre.length+i+1=l.length∧x.1=i∧∃ak ck av cv,x.2=itemV (.slice ak l[i].key.length ck) (.slice av l[i].value.length cv) l[i].child l[i].size∧Bytes h (.slice ak l[i].key.length ck) l[i].key
def BackOwnI(sb:Nat)(vi:Value)(h:Hp):Pr:=(Pr.pts sb (.cells #[vi] 81)).star (Pr.own h)
theorem backwardI(sb:Nat)(vi:Value)(h:Hp)(l:List ItemV)(hi:ItemsIn h vi l)(hl:l.length≤65536):
 IterG Tryz.prog 149 #[.pointer (some ⟨sb,0,none⟩)] encB (OkB h l) (fun xs=>xs.length=l.length) (fun _=>True) (BackOwnI sb vi h):=by
 intro l' J Jx W hY h0;refine(callsIn_wide (n:=3)).1 ?_;refine callsIn_of_wp Tryz.func149 rfl trivial ?_ rfl;simp only [Tryz.ntmps149,List.size_toArray,List.length_cons,List.length_nil,Nat.reduceAdd,Nat.reduceSub,Array.replicate_succ,Array.replicate_zero,List.push_toArray,List.append_toArray,List.nil_append,List.cons_append];obtain⟨aw,cw,rfl,_,rd⟩:=items_rd hi
 have facts:∀(A:Pr) (wr:World),Sat (A.star (BackOwnI sb (.slice aw l.length cw) h)) wr→wr.cell? ⟨sb,0,none⟩=some (.slice aw l.length cw)∧sb<wr.heap.size∧h.le wr:=by
  intro A wr hs;unfold BackOwnI at hs;have h1:Sat ((Pr.pts sb (.cells #[.slice aw l.length cw] 81)).star ((Pr.own h).star A)) wr:=hs.perm (by ac_rfl);exact⟨by rw [cell_of_heap h1.pts_heap];rfl,h1.lt,h1.right.own⟩
 have F0:=facts _ _ h0;obtain⟨q1,z1,_⟩:=F0;have hl3:(l.length:Int)≤65536:=by omega
 have HF:=hQ facts;have HY:=hQ hY;have H0:=hQ h0;have RD:=hQ rd;clear facts hY h0 rd hi;gi_wp2
 gi_loopw [3] (fun i wr=> ∃(r:Nat) (pre:List (Int × Value)),pre.length+r=l.length∧i= .int .i64 ((r:Int)-1)∧Stays W wr∧Sat ((J pre).star (BackOwnI sb (.slice aw l.length cw) h)) wr) (fun i _=>(intOf i+1).toNat)
 case atStart=>exact⟨l.length,[],by simp,rfl,Stays.refl _,H0.out⟩
 case round=>
  obtain⟨r,pre,hr,rfl,hR,hs⟩:=hrel;cases r with
  | zero=>
    gi_wp2
    go_end0
    exact⟨⟨_,rfl⟩,hR,.inl ⟨pre,by simpa using hr,hs⟩⟩
  | succ r=>
    obtain⟨q1,z1,hle⟩:=HF.out _ _ hs;have hlt:r<l.length:=by omega
    obtain⟨b,off,ak,ck,av,cv,rfl,hbk,hbv,hc⟩:=RD.out r hlt;obtain⟨c0,c1,c2,c3⟩:=hc wr hle;have HB:=hQ hbk;have HS:=hQ hs;have HR:=hQ hr;clear hs hc hbk hbv hr;have hlt3:(r:Int)<l.length:=by omega
    obtain⟨X,hX⟩:∃X,l[r]=X:=⟨_,rfl⟩;have HX:=hQ hX;rw [hX] at c0 c1 c2 c3;clear hX;rw [show ((r+1:Nat):Int)-1=(r:Int) by omega];gi_wp2
    refine at_yield (HY.out Pr.emp pre ((r:Int),itemV (.slice ak X.key.length ck) (.slice av X.value.length cv) X.child X.size) _ ⟨r,hlt,by have:=HR.out;omega,rfl,ak,ck,av,cv,by rw [HX.out],HB.out⟩ (HS.out.perm (Pr.star_emp _).symm)) ?_;rintro e w' ⟨hR',(⟨rfl,hs'⟩ | ⟨rfl,hs'⟩)⟩<;>rw [Pr.star_emp] at hs'
    · refine⟨_,rfl,?_⟩
      have HS':=hQ hs';clear hs';gi_wp2
      go_roundw
      case rel=>exact⟨r,_,by rw [List.length_append];have:=HR.out;simp;omega,rfl,hR.trans hR',HS'.out⟩
      case measure=>simp [intOf]
    · refine⟨_,rfl,?_⟩
      have HS':=hQ hs';clear hs';gi_wp2
      refine bodyPost_ret (results_none rfl _ _ _) rfl ?_;exact⟨⟨_,rfl⟩,hR.trans hR',.inr ⟨_,trivial,HS'.out⟩⟩
end Go.Proofs.YtiegeadmgpanoaaGreatDoor.T5
namespace Go.Proofs.YtiegeadmgpanoaaGreatDoor.U5
open ChangeShapes WideShapes ChangeAt RowKit Sl Cop D2 F3 K3 P3 G2 J2 Q3 V3 G5 X3 M5 P5
def rowsOf(p:(Value × Value) × ItemV):Pr:=(BytesRow p.1.1 p.2.key).star (BytesRow p.1.2 p.2.value)
theorem rows_step {ys:List (Value × Value)}{its:List ItemV}{k:Nat}{v1 v2:Value}(hy:k<ys.length)(hl:k<its.length):((ys.set k (v1,v2)).zip its).take (k+1)=(ys.zip its).take k++ [((v1,v2),its[k])]:=by
 have hz:k<(ys.zip its).length:=by simp;omega
 rw [← zip_set_l _ _ _ _ hl,List.take_succ_eq_append_getElem (by simpa using hz),List.getElem_set_self,List.take_set_of_le (Nat.le_refl _)]
structure Part0(xs0 xs:List (Value × Value))(l:List ItemV)(k:Nat):Prop where
 len:xs.length=l.length
 old:∀i,k≤i→xs[i]? =xs0[i]?
theorem Part0.step {xs0 xs:List (Value × Value)}{l:List ItemV}{k:Nat}(hp:Part0 xs0 xs l k)(_:k<l.length){v:Value × Value}:Part0 xs0 (xs.set k v) l (k+1):=
 ⟨by simp [hp.len],fun i hik=>by rw [List.getElem?_set_ne (by omega)];exact hp.old i (by omega)⟩
theorem copied_rows(h:Hp)(v:Value)(g:PageV)(hv:PageIn h v g)(hn:g.items.length≤65536)(hb:∀x∈g.items,x.key.length≤65536∧x.value.length≤65536)(hd:g.data.length≤65536)(F:Pr)(w:World)(hF:Sat ((Pr.own h).star F) w):
 Calls Tryz.prog 73 #[v] w fun e w'=> ∃vi vd ys,e= .returned (pageV g.kind g.level vi vd g.next)∧ys.length=g.items.length∧Sat ((ItRow vi ys g.items).star ((big rowsOf (ys.zip g.items)).star ((BytesRow vd g.data).star ((Pr.own h).star F)))) w'∧Stays w w':=by
 obtain⟨vi,vd,rfl,hi,hdd⟩:=hv;obtain⟨k0,l0,its,dat,nx⟩:=g;dsimp only at*;obtain⟨xs,hxl,hrow,hbb⟩:=id hi;have hits:ItsAt h xs its:=⟨hxl,hbb⟩;obtain⟨ai,ci,rfl,_,_⟩:=items_rd hi;obtain⟨ad,cd,rfl⟩:=bytes_shape hdd;have h1:=(hF.alloc (pageC k0 l0 (.slice ai its.length ci) (.slice ad dat.length cd) nx)).alloc (pageC 0 0 (.slice none 0 0) (.slice none 0 0) 0)
 rw [show (w.alloc (pageC k0 l0 (.slice ai its.length ci) (.slice ad dat.length cd) nx)).heap.size=w.heap.size+1 by simp] at h1;have h2:=h1.drew.perm (B:=(Pr.own h).star ((Pr.pts w.heap.size (pageC k0 l0 (.slice ai its.length ci) (.slice ad dat.length cd) nx)).star ((Pr.pts (w.heap.size+1) (pageC 0 0 (.slice none 0 0) (.slice none 0 0) 0)).star F))) (by ac_rfl)
 have CI:=hQ (clone_items h _ xs its hits hrow hn _ _ h2);have HD:=hQ hdd;have HN:=hQ hd;have HB:=hQ hb;have HIT:=hQ hits;have HST:=hQ (((Stays.refl w).alloc (pageC k0 l0 (.slice ai its.length ci) (.slice ad dat.length cd) nx)).alloc (pageC 0 0 (.slice none 0 0) (.slice none 0 0) 0)).drew;clear h1 h2 hi hdd hF hd hb hits hrow hbb;go_enter Tryz.func73,Tryz.ntmps73
 go_wp2_with fail
 refine wS 39 [0,1,3,4] [(2,[6],[0,3,4]),(5,[],[0,3,6]),(7,[8],[]),(9,[],[])] ?_;refine wpQ_all _ rfl rfl ?_;simp only [pick,pQ];iterate 4 (go_big_quiet_step (fail))
 refine wpQuiet_nil ?_;refine wpRest_act rfl ?_;go_wp2_with fail
 refine CI.out.mono ?_;rintro e w1 ⟨v1,rfl,hs2,st2⟩;obtain⟨a1,c1,e1,_,_⟩:=Row.read hs2;subst e1;have hs3:Sat ((Pr.own h).star ((Pr.pts w.heap.size (pageC k0 l0 (.slice ai its.length ci) (.slice ad dat.length cd) nx)).star ((Pr.pts (w.heap.size+1) (pageC 0 0 (.slice none 0 0) (.slice none 0 0) 0)).star ((ItRow (.slice a1 its.length c1) xs its).star F)))) w1:=hs2.perm (by ac_rfl)
 obtain⟨q0,q1,q2,q3,q4,_,z0⟩:=pts5 hs3.right;have CB2:=hQ (clone_bytes h _ dat _ _ hs3 hs3.own HD.out HN.out);have HST2:=hQ (HST.out.trans st2);clear hs2 hs3 st2 CI HD;go_wp2;refine onN_mk ?_;refine wpQ_all _ rfl rfl ?_;simp only [pick,pQ];iterate 1 (go_big_quiet_step (fail))
 refine wpQuiet_nil ⟨?_,?_⟩
 · exact cQ
 refine wpRest_act rfl ?_;go_wp2_with fail
 refine CB2.out.mono ?_;rintro e w2 ⟨v2,rfl,hs4,st4⟩;obtain⟨a2,c2,e2,_,_⟩:=Row.read hs4;subst e2
 have hs5:Sat ((Pr.pts w.heap.size (pageC k0 l0 (.slice ai its.length ci) (.slice ad dat.length cd) nx)).star ((Pr.pts (w.heap.size+1) (pageC 0 0 (.slice none 0 0) (.slice none 0 0) 0)).star ((BytesRow (.slice a2 dat.length c2) dat).star ((ItRow (.slice a1 its.length c1) xs its).star ((Pr.own h).star F))))) w2:=hs4.perm (by ac_rfl);clear q0 q1 q2 q3 q4 z0
 obtain⟨q0,q1,q2,q3,q4,⟨f0,f1,f2,f3,f4⟩,z0⟩:=pts5 hs5;have H5:=hQ hs5;have HST4:=hQ (HST2.out.trans st4);clear hs4 hs5 st4 CB2;go_wp2;refine onN_mk ?_;refine wpQ_nil ⟨?_,?_⟩
 · exact cQ
 refine wpRest_act rfl ?_;go_wp2;refine onN_mk ?_;refine wpQ_all _ rfl rfl ?_;simp only [pick,pQ];iterate 1 (go_big_quiet_step (fail))
 refine wpQuiet_nil ⟨?_,?_⟩
 · exact chk_nil
 refine wpRest_act rfl ?_;go_wp2;refine onN_mk (wpQ_nil ⟨chk_nil,wpRest_nil ?_⟩);have s6:=(H5.out.setCell (i:=2) (.slice a1 its.length c1)).setCell (i:=3) (.slice a2 dat.length c2)
 have s7:Sat ((Pr.pts w.heap.size (pageC k0 l0 (.slice a1 its.length c1) (.slice a2 dat.length c2) nx)).star ((Pr.pts (w.heap.size+1) (pageC 0 0 (.slice none 0 0) (.slice none 0 0) 0)).star ((BytesRow (.slice a2 dat.length c2) dat).star ((ItRow (.slice a1 its.length c1) xs its).star ((Pr.own h).star F))))) _:=s6
 have hst6:=(HST4.out.setCell ⟨w.heap.size,2,none⟩ (.slice a1 its.length c1)).setCell ⟨w.heap.size,3,none⟩ (.slice a2 dat.length c2);generalize (w2.setCell ⟨w.heap.size,2,none⟩ (.slice a1 its.length c1)).setCell ⟨w.heap.size,3,none⟩ (.slice a2 dat.length c2)=w5 at*;clear q0 q1 q2 q3 q4 z0 f0 f1 f2 f3 f4 H5 HST4;obtain⟨q0,q1,q2,q3,q4,_,z0⟩:=pts5 s7;have H7:=hQ s7;have HST6:=hQ hst6;clear s6 s7 hst6
 have hn0:(its.length:Int)≤65536:=by omega
 go_wp2_with fail
 go_loopw [16] (fun i wr=> ∃(k:Nat) (ys:List (Value × Value)),k≤its.length∧i= .int .i64 k∧Stays w wr∧Hid (Part0 xs ys its k)∧
  Sat ((Pr.pts w.heap.size (pageC k0 l0 (.slice a1 its.length c1) (.slice a2 dat.length c2) nx)).star ((Pr.pts (w.heap.size+1) (pageC 0 0 (.slice none 0 0) (.slice none 0 0) 0)).star ((ItRow (.slice a1 its.length c1) ys its).star ((big rowsOf ((ys.zip its).take k)).star ((BytesRow (.slice a2 dat.length c2) dat).star ((Pr.own h).star F)))))) wr) (fun i _=>its.length-(intOf i).toNat)
 case atStart=>
  refine⟨0,xs,Nat.zero_le _,rfl,HST6.out,hQ ⟨HIT.out.len,fun _ _=>rfl⟩,?_⟩;rw [List.take_zero,big_nil,Pr.emp_star];exact H7.out.perm (by ac_rfl)
 case round=>
  obtain⟨k,ys,hkl,rfl,hst,hpart,hs⟩:=hrel;clear q0 q1 q2 q3 q4 z0;rcases Nat.lt_or_ge k its.length with hlt | hge
  · have hylen:=hpart.out.len
    have hky:k<ys.length:=by omega
    have hkx:k<xs.length:=by have:=HIT.out.len;omega
    have eyk:ys[k]=xs[k]:=by
     have:=hpart.out.old k (Nat.le_refl _)
     rw [List.getElem?_eq_getElem hky,List.getElem?_eq_getElem hkx] at this;exact Option.some.inj this
    obtain⟨hb1,hb2⟩:=HIT.out.at' k hkx hlt;obtain⟨hn1,hn2⟩:=HB.out its[k] (List.getElem_mem hlt);rw [← eyk] at hb1 hb2;obtain⟨ak,ck,ek⟩:=bytes_shape hb1;obtain⟨av,cv,ev⟩:=bytes_shape hb2
    have hr0:=hs.perm (B:=(ItRow (.slice a1 its.length c1) ys its).star ((Pr.pts w.heap.size (pageC k0 l0 (.slice a1 its.length c1) (.slice a2 dat.length c2) nx)).star ((Pr.pts (w.heap.size+1) (pageC 0 0 (.slice none 0 0) (.slice none 0 0) 0)).star ((big rowsOf ((ys.zip its).take k)).star ((BytesRow (.slice a2 dat.length c2) dat).star ((Pr.own h).star F)))))) (by ac_rfl)
    have ha1:∃b,a1=some ⟨b,0,none⟩:=by
     obtain⟨_,_,e,_,hc⟩:=Row.read hr0;cases e;obtain⟨b,e,_⟩:=hc (by omega);exact⟨b,e⟩
    obtain⟨b,rfl⟩:=ha1;obtain⟨⟨r0,r1,r2,r3⟩,_⟩:=itRow_rd hr0 hky hlt;rw [ek] at r0 hb1;rw [ev] at r1 hb2;have hA0:=(hs.alloc (itemC (.slice ak its[k].key.length ck) (.slice av its[k].value.length cv) its[k].child its[k].size)).drew
    have HRST:=hQ (show Sat ((Pr.pts wr.heap.size (itemC (.slice ak its[k].key.length ck) (.slice av its[k].value.length cv) its[k].child its[k].size)).star ((Pr.pts w.heap.size (pageC k0 l0 (.slice (some ⟨b,0,none⟩) its.length c1) (.slice a2 dat.length c2) nx)).star ((Pr.own h).star ((ItRow (.slice (some ⟨b,0,none⟩) its.length c1) ys its).star ((Pr.pts (w.heap.size+1) (pageC 0 0 (.slice none 0 0) (.slice none 0 0) 0)).star ((big rowsOf ((ys.zip its).take k)).star ((BytesRow (.slice a2 dat.length c2) dat).star F))))))) _ from hA0.perm (by ac_rfl))
    obtain⟨q0,q1,q2,q3,q4,_,z0⟩:=pts5 hs;have CK:=hQ (clone_bytes h _ its[k].key _ _ HRST.out HRST.out.right.right.own hb1 hn1);have HB2:=hQ hb2;have HSTR:=hQ ((hst.alloc (itemC (.slice ak its[k].key.length ck) (.slice av its[k].value.length cv) its[k].child its[k].size)).drew);have z1:w.heap.size<wr.heap.size:=hs.lt;have HPART:=hQ hpart.out;have HEV:=hQ ev;have HEK:=hQ ek
    clear hs hr0 hA0 hb1 hb2 hst hpart eyk ek ev;go_wp2_with fail
    refine wS 39 [0,1,2,3,4,5,6,7,9,10] [(8,[],[0,1,2,3,4,5,6,9,10]),(11,[12,13],[0,1,2,3,4,5,6,9]),(14,[15,16],[3,4,5,9,12]),(17,[],[15])] ?_;refine wpQ_all _ rfl rfl ?_;simp only [pick,pQ];iterate 10 (go_big_quiet_step (fail))
    refine wpQuiet_nil ?_;refine wpRest_act rfl ?_;go_wp2_with fail
    refine CK.out.mono ?_;rintro e w3 ⟨v3,rfl,hs3,st3⟩;obtain⟨a3,c3,e3,_,_⟩:=Row.read hs3;subst e3
    have H3:=hQ (show Sat ((Pr.pts wr.heap.size (itemC (.slice ak its[k].key.length ck) (.slice av its[k].value.length cv) its[k].child its[k].size)).star ((Pr.pts w.heap.size (pageC k0 l0 (.slice (some ⟨b,0,none⟩) its.length c1) (.slice a2 dat.length c2) nx)).star ((Pr.own h).star ((BytesRow (.slice a3 its[k].key.length c3) its[k].key).star ((ItRow (.slice (some ⟨b,0,none⟩) its.length c1) ys its).star ((Pr.pts (w.heap.size+1) (pageC 0 0 (.slice none 0 0) (.slice none 0 0) 0)).star ((big rowsOf ((ys.zip its).take k)).star ((BytesRow (.slice a2 dat.length c2) dat).star F)))))))) w3 from hs3.perm (by ac_rfl))
    have HST3:=hQ (HSTR.out.trans st3);clear q0 q1 q2 q3 q4 z0 r0 r1 r2 r3 CK hs3 st3 HRST;obtain⟨q0,q1,q2,q3,q4,_,z0⟩:=pts5 H3.out.right;obtain⟨i0,i1,i2,i3,_,z2⟩:=pts4 H3.out;have CV:=hQ (clone_bytes h _ its[k].value _ _ H3.out H3.out.right.right.own HB2.out hn2);go_wp2;refine onN_mk ?_;refine wpQ_nil ⟨?_,?_⟩
    · exact cQ
    refine wpRest_act rfl ?_;go_wp2_with fail
    refine CV.out.mono ?_;rintro e w4 ⟨v4,rfl,hs4,st4⟩;obtain⟨a4,c4,e4,_,_⟩:=Row.read hs4;subst e4
    have H4:=hQ (show Sat ((Pr.pts wr.heap.size (itemC (.slice ak its[k].key.length ck) (.slice av its[k].value.length cv) its[k].child its[k].size)).star ((Pr.pts w.heap.size (pageC k0 l0 (.slice (some ⟨b,0,none⟩) its.length c1) (.slice a2 dat.length c2) nx)).star ((Pr.own h).star ((BytesRow (.slice a3 its[k].key.length c3) its[k].key).star ((BytesRow (.slice a4 its[k].value.length c4) its[k].value).star ((ItRow (.slice (some ⟨b,0,none⟩) its.length c1) ys its).star ((Pr.pts (w.heap.size+1) (pageC 0 0 (.slice none 0 0) (.slice none 0 0) 0)).star ((big rowsOf ((ys.zip its).take k)).star ((BytesRow (.slice a2 dat.length c2) dat).star F))))))))) w4 from hs4.perm (by ac_rfl))
    have HST4:=hQ (HST3.out.trans st4);clear q0 q1 q2 q3 q4 z0 i0 i1 i2 i3 z2 CV hs4 st4 H3;obtain⟨q0,q1,q2,q3,q4,_,z0⟩:=pts5 H4.out.right;obtain⟨i0,i1,i2,i3,_,z2⟩:=pts4 H4.out
    have R4:=hQ (show Sat ((ItRow (.slice (some ⟨b,0,none⟩) its.length c1) ys its).star ((Pr.pts wr.heap.size (itemC (.slice ak its[k].key.length ck) (.slice av its[k].value.length cv) its[k].child its[k].size)).star ((Pr.pts w.heap.size (pageC k0 l0 (.slice (some ⟨b,0,none⟩) its.length c1) (.slice a2 dat.length c2) nx)).star ((BytesRow (.slice a3 its[k].key.length c3) its[k].key).star ((BytesRow (.slice a4 its[k].value.length c4) its[k].value).star ((Pr.own h).star ((Pr.pts (w.heap.size+1) (pageC 0 0 (.slice none 0 0) (.slice none 0 0) 0)).star ((big rowsOf ((ys.zip its).take k)).star ((BytesRow (.slice a2 dat.length c2) dat).star F))))))))) w4 from H4.out.perm (by ac_rfl))
    obtain⟨⟨r0,r1,r2,r3⟩,g0,g1⟩:=itRow_rd R4.out hky hlt;go_wp2;refine onN_mk ?_;refine wpQ_all _ rfl rfl ?_;simp only [pick,pQ];iterate 2 (go_big_quiet_step (fail))
    refine wpQuiet_nil ⟨?_,?_⟩
    · exact cQ
    refine wpRest_act rfl ?_;go_wp2;have s5:=itRow_key R4.out hky hlt (.slice a3 its[k].key.length c3);have t5:=HST4.out.setCell ⟨b,k*4,none⟩ (.slice a3 its[k].key.length c3);generalize w4.setCell ⟨b,k*4,none⟩ (.slice a3 its[k].key.length c3)=w5' at*;have hky2:k<(ys.set k (.slice a3 its[k].key.length c3,ys[k].2)).length:=by simpa using hky
    have R5:=hQ s5;have HST5:=hQ t5;clear q0 q1 q2 q3 q4 z0 i0 i1 i2 i3 z2 r0 r1 r2 r3 g0 g1 s5 t5 R4 H4;obtain⟨q0,q1,q2,q3,q4,_,z0⟩:=pts5 R5.out.right.right;obtain⟨i0,i1,i2,i3,_,z2⟩:=pts4 R5.out.right;obtain⟨⟨r0,r1,r2,r3⟩,g0,g1⟩:=itRow_rd R5.out hky2 hlt;refine onN_mk ?_;refine wpQ_all _ rfl rfl ?_;simp only [pick,pQ];iterate 2 (go_big_quiet_step (fail))
    refine wpQuiet_nil ⟨?_,?_⟩
    · exact cQ
    refine wpRest_act rfl ?_;go_wp2;have s6:=itRow_val R5.out hky2 hlt (.slice a4 its[k].value.length c4);have t6:=HST5.out.setCell ⟨b,k*4+1,none⟩ (.slice a4 its[k].value.length c4);generalize w5'.setCell ⟨b,k*4+1,none⟩ (.slice a4 its[k].value.length c4)=w6' at*;rw [List.set_set,List.getElem_set_self] at s6;have R6:=hQ s6;have HST6':=hQ t6
    clear q0 q1 q2 q3 q4 z0 i0 i1 i2 i3 z2 r0 r1 r2 r3 g0 g1 s6 t6 R5;obtain⟨q0,q1,q2,q3,q4,_,z0⟩:=pts5 R6.out.right.right;refine onN_mk ?_;refine wpQ_nil ⟨?_,?_⟩
    · exact cQ
    refine wpRest_nil ?_;go_wp2;go_roundw
    case rel=>
     have h8:=R6.out.perm (B:=(BytesRow (.slice a3 its[k].key.length c3) its[k].key).star ((BytesRow (.slice a4 its[k].value.length c4) its[k].value).star ((big rowsOf ((ys.zip its).take k)).star ((Pr.pts wr.heap.size (itemC (.slice ak its[k].key.length ck) (.slice av its[k].value.length cv) its[k].child its[k].size)).star ((ItRow (.slice (some ⟨b,0,none⟩) its.length c1) (ys.set k (.slice a3 its[k].key.length c3,.slice a4 its[k].value.length c4)) its).star ((Pr.pts w.heap.size (pageC k0 l0 (.slice (some ⟨b,0,none⟩) its.length c1) (.slice a2 dat.length c2) nx)).star ((Pr.own h).star ((Pr.pts (w.heap.size+1) (pageC 0 0 (.slice none 0 0) (.slice none 0 0) 0)).star ((BytesRow (.slice a2 dat.length c2) dat).star F))))))))) (by ac_rfl)
     have e9:=rows_step (v1:= .slice a3 its[k].key.length c3) (v2:= .slice a4 its[k].value.length c4) hky hlt
     have h9:=h8.perm (B:=(Pr.pts wr.heap.size (itemC (.slice ak its[k].key.length ck) (.slice av its[k].value.length cv) its[k].child its[k].size)).star ((((BytesRow (.slice a3 its[k].key.length c3) its[k].key).star (BytesRow (.slice a4 its[k].value.length c4) its[k].value)).star (big rowsOf ((ys.zip its).take k))).star ((ItRow (.slice (some ⟨b,0,none⟩) its.length c1) (ys.set k (.slice a3 its[k].key.length c3,.slice a4 its[k].value.length c4)) its).star ((Pr.pts w.heap.size (pageC k0 l0 (.slice (some ⟨b,0,none⟩) its.length c1) (.slice a2 dat.length c2) nx)).star ((Pr.pts (w.heap.size+1) (pageC 0 0 (.slice none 0 0) (.slice none 0 0) 0)).star ((BytesRow (.slice a2 dat.length c2) dat).star ((Pr.own h).star F))))))) (by ac_rfl)
     have e10:((BytesRow (.slice a3 its[k].key.length c3) its[k].key).star (BytesRow (.slice a4 its[k].value.length c4) its[k].value)).star (big rowsOf ((ys.zip its).take k))=big rowsOf (((ys.set k (.slice a3 its[k].key.length c3,.slice a4 its[k].value.length c4)).zip its).take (k+1)):=by
      rw [e9,big_snoc];rfl
     rw [e10] at h9;refine⟨k+1,ys.set k (.slice a3 its[k].key.length c3,.slice a4 its[k].value.length c4),by omega,congrArg (Value.int .i64) (by omega),HST6'.out,hQ (HPART.out.step hlt),?_⟩;exact h9.right.perm (by ac_rfl)
    case measure=>simp [intOf];omega
  · have hkl2:k=its.length:=by omega
    subst hkl2;obtain⟨q0,q1,q2,q3,q4,_,z0⟩:=pts5 hs;obtain⟨p0,p1,p2,p3,p4,⟨f0,f1,f2,f3,f4⟩,z1⟩:=pts5 hs.right;have HS:=hQ hs.right;have HSTR:=hQ hst;clear hs hst;go_wp2;have s6:=((((HS.out.setCell (i:=0) (.int .i64 k0)).setCell (i:=1) (.int .i64 l0)).setCell (i:=2) (.slice a1 its.length c1)).setCell (i:=3) (.slice a2 dat.length c2)).setCell (i:=4) (.int .i64 nx)
    have s7:Sat ((Pr.pts (w.heap.size+1) (pageC k0 l0 (.slice a1 its.length c1) (.slice a2 dat.length c2) nx)).star ((ItRow (.slice a1 its.length c1) ys its).star ((big rowsOf ((ys.zip its).take its.length)).star ((BytesRow (.slice a2 dat.length c2) dat).star ((Pr.own h).star F))))) _:=s6
    refine bodyPost_ret (results_cell_row rfl _ _ (w.heap.size+1) _ _ _ _ rfl s7.pts_heap Tryz.underlying83 rfl infoPage) rfl ?_;have hp:=hpart.out;have e11:(ys.zip its).take its.length=ys.zip its:=List.take_of_length_le (by simp [Nat.min_le_right]);rw [e11] at s7;exact⟨_,_,ys,rfl,hp.len,s7.right,((((HSTR.out.setCell _ _).setCell _ _).setCell _ _).setCell _ _).setCell _ _⟩
end Go.Proofs.YtiegeadmgpanoaaGreatDoor.U5
namespace Go.Proofs.YtiegeadmgpanoaaGreatDoor.W5
open ChangeShapes WideShapes ChangeAt RowKit Sl Cop D2 F3 K3 P3 G2 J2 Q3 V3 C4 D4 F4 G4 K5 X3 M5 P5 U5
theorem fitK {g:PageV}(h:Fit g):∀y∈g.items,y.key.length≤65536∧y.value.length≤65536:=fun y hy=>by have:=h.k y hy;omega
structure ToldX where
 vi:Value
 vd:Value
 ys:List (Value × Value)
 g:PageV
def ToldX.pv(t:ToldX):Value:=pageV t.g.kind t.g.level t.vi t.vd t.g.next
abbrev TRows(t:ToldX)(T:Pr):Pr:=(ItRow t.vi t.ys t.g.items).star ((big rowsOf (t.ys.zip t.g.items)).star ((BytesRow t.vd t.g.data).star T))
def PgOwn(t:ToldX):Pr:=(Pr.pure (t.ys.length=t.g.items.length)).star (TRows t Pr.emp)
theorem pgOwn_iff {t:ToldX}{F:Pr}{w:World}:Sat ((PgOwn t).star F) w↔t.ys.length=t.g.items.length∧Sat (TRows t F) w:=by
 unfold PgOwn;rw [Pr.star_assoc];constructor
 · intro h
   obtain⟨h1,h2⟩:=Sat.pure.1 h;exact⟨h1,h2.perm (by simp only [TRows,Pr.star_assoc,Pr.emp_star])⟩
 · rintro⟨h1,h2⟩
   exact Sat.pure.2 ⟨h1,h2.perm (by simp only [TRows,Pr.star_assoc,Pr.emp_star])⟩
theorem big_rows_in {l:List ((Value × Value) × ItemV)}{h:Hp}(hb:big rowsOf l h):∀x∈l,Bytes h x.1.1 x.2.key∧Bytes h x.1.2 x.2.value:=by
 induction l generalizing h with
 | nil=>intro x hx;cases hx
 | cons y l ih=>
   obtain⟨a,b,ha,hb',s1,s2⟩:=star_sub (show ((rowsOf y).star (big rowsOf l)) h from hb);obtain⟨c,d,hc,hd,s3,s4⟩:=star_sub (show ((BytesRow y.1.1 y.2.key).star (BytesRow y.1.2 y.2.value)) a from ha);intro x hx;rcases List.mem_cons.1 hx with rfl | hx
   · exact⟨((Row.rowIn hc).sub s3).sub s1,((Row.rowIn hd).sub s4).sub s1⟩
   · exact⟨(ih hb' x hx).1.sub s2,(ih hb' x hx).2.sub s2⟩
theorem pgOwn_in {t:ToldX}{h:Hp}(ht:PgOwn t h):PageIn h t.pv t.g:=by
 have ht:((Pr.pure (t.ys.length=t.g.items.length)).star (TRows t Pr.emp)) h:=ht;obtain⟨a,b,ha,hb,s1,s2⟩:=star_sub ht;have hlen:t.ys.length=t.g.items.length:=ha.1;obtain⟨c,d,hc,hd,s3,s4⟩:=star_sub (show ((ItRow t.vi t.ys t.g.items).star ((big rowsOf (t.ys.zip t.g.items)).star ((BytesRow t.vd t.g.data).star Pr.emp))) b from hb);obtain⟨e,f,he,hf,s5,s6⟩:=star_sub hd;obtain⟨i,j,hi,_,s7,_⟩:=star_sub hf
 refine⟨t.vi,t.vd,rfl,⟨t.ys,hlen,((Row.rowIn hc).sub s3).sub s2,fun k hx hl=> ?_⟩,((((Row.rowIn hi).sub s7).sub s6).sub s4).sub s2⟩
 have hm:=big_rows_in he (t.ys[k],t.g.items[k]) (by
  have hz:k<(t.ys.zip t.g.items).length:=by simp;omega
  have:=List.getElem_mem hz
  rwa [List.getElem_zip] at this)
 exact⟨((hm.1.sub s5).sub s4).sub s2,((hm.2.sub s5).sub s4).sub s2⟩
def zeroT:ToldX:=⟨.slice none 0 0,.slice none 0 0,[],zeroP⟩
theorem read_rows(v:Nat)(s:VaultS)(n:Int)(hn:1≤n∧n≤65536)(g:PageV)(hfit:Fit g)(F:Pr)(w:World)(hF:Sat ((VaultA v s).star F) w)(h0:s.pool.count n≠0)(hon:s.on n=some g):
 Calls Tryz.prog 45 #[.pointer (some ⟨v,0,none⟩),.int .i64 n] w fun e w'=>
  Stays w w'∧∃t:ToldX,e= .returned (.tuple #[t.pv,.int .i64 0])∧t.g=g∧Sat ((PgOwn t).star ((VaultA v s).star F)) w':=by
 obtain⟨x,ok,hF⟩:=vaultA_iff.1 hF;have ho:Only w (w.alloc (pageC 0 0 (.slice none 0 0) (.slice none 0 0) 0)):=(Only.refl w).alloc _
 have h1:Sat ((PoolA x.p s.pool).star ((Pr.pts v (.cells #[.pointer (some ⟨x.p,0,none⟩),.map (some x.mb),x.av,.int .i64 s.floor] 108)).star
  ((((MapA Tryz.prog 3 x.mb x.f).star ((Row 169 2 x.av s.acts.length (actCells x.axs)).star (Pr.own x.h)))).star F))) w:=hF.perm (by unfold VaultAt;ac_rfl)
 have qv:w.cell? ⟨v,0,none⟩=some (.pointer (some ⟨x.p,0,none⟩)):=by rw [cell_of_heap h1.right.pts_heap];rfl
 have qm:w.cell? ⟨v,1,none⟩=some (.map (some x.mb)):=by rw [cell_of_heap h1.right.pts_heap];rfl
 have zv:=h1.right.lt;have C:=hQ (count_A x.p s.pool n _ _ (h1.only ho));have hm:=(h1.only ho).perm (B:=(MapA Tryz.prog 3 x.mb x.f).star ((PoolA x.p s.pool).star ((Pr.pts v (.cells #[.pointer (some ⟨x.p,0,none⟩),.map (some x.mb),x.av,.int .i64 s.floor] 108)).star ((Row 169 2 x.av s.acts.length (actCells x.axs)).star ((Pr.own x.h).star F))))) (by ac_rfl);have hO:=ok.on n;rw [hon] at hO
 obtain⟨pv,hf,hpv⟩:=hO;have hne:(s.pool.count n == 0)=false:=by rw [beq_eq_false_iff_ne];exact h0
 have h2:=(hF.alloc (pageC 0 0 (.slice none 0 0) (.slice none 0 0) 0)).perm (B:=(Pr.own x.h).star ((Pr.pts w.heap.size (pageC 0 0 (.slice none 0 0) (.slice none 0 0) 0)).star ((Pr.pts v (.cells #[.pointer (some ⟨x.p,0,none⟩),.map (some x.mb),x.av,.int .i64 s.floor] 108)).star ((PoolA x.p s.pool).star ((MapA Tryz.prog 3 x.mb x.f).star ((Row 169 2 x.av s.acts.length (actCells x.axs)).star F)))))) (by unfold VaultAt;ac_rfl)
 have D:=hQ (copied_rows x.h pv g hpv (by have:=hfit.n;omega) (fitK hfit) (by have:=hfit.d;omega) _ _ h2);have HM:=hQ hm;have HO:=hQ ho;have OK:=hQ ok;have HFN:=hQ hf;clear h1 hF ok ho hm hf hpv h2;go_enter Tryz.func45,Tryz.ntmps45
 go_wp2_with fail
 refine C.out.mono ?_;rintro e w1 ⟨rfl,rfl⟩;generalize s.pool.count n=k at*;go_wp2_with (at_lookup;refine wpList_look rfl _ _ _ false rfl Tryz.underlying3 Tryz.underlying105 zeroPage (zero_page _) n hn rfl rfl HM.out ?_;rw [HFN.out])
 refine D.out.mono ?_;rintro e w1 ⟨vi,vd,ys,rfl,hyl,h3,hst⟩;obtain⟨ai,ci,rfl⟩:=Row.shape h3;obtain⟨ad,cd,rfl⟩:=Row.shape h3.right.right;have h4:=(pgOwn_iff (t:=⟨.slice ai g.items.length ci,.slice ad g.data.length cd,ys,g⟩)).2 ⟨hyl,h3⟩;have hs:=OwnL.in7 h4;have c1:=hs.facts;simp only [CellsAt,Nat.reduceAdd,and_true] at c1;have HS:=hQ hs;have HST:=hQ (HO.out.st.trans hst);have HYL:=hQ hyl
 clear h3 h4 hs hst C D HM HFN hyl;go_wp2;have h5:=(((((HS.out.set w.heap.size 0 (.int .i64 g.kind)).set w.heap.size 1 (.int .i64 g.level)).set w.heap.size 2 (.slice ai g.items.length ci)).set w.heap.size 3 (.slice ad g.data.length cd)).set w.heap.size 4 (.int .i64 g.next))
 refine bodyPost_ret (results_cell_row_tmp rfl _ _ w.heap.size _ rfl (run_loadVar_row _ w.heap.size _ _ _ _ _ (h5.pts w.heap.size).pts_heap Tryz.underlying83 rfl infoPage)) rfl ?_;refine⟨((((HST.out.setCell _ _).setCell _ _).setCell _ _).setCell _ _).setCell _ _,⟨.slice ai g.items.length ci,.slice ad g.data.length cd,ys,g⟩,rfl,rfl,?_⟩
 have h6:=h5.pull8 (A1:=PgOwn ⟨.slice ai g.items.length ci,.slice ad g.data.length cd,ys,g⟩) (A2:=Pr.pts v (.cells #[.pointer (some ⟨x.p,0,none⟩),.map (some x.mb),x.av,.int .i64 s.floor] 108)) (A3:=PoolA x.p s.pool) (A4:=MapA Tryz.prog 3 x.mb x.f) (A5:=Row 169 2 x.av s.acts.length (actCells x.axs)) (A6:=Pr.own x.h) (A7:=F) (A8:=Pr.pts w.heap.size (pageC g.kind g.level (.slice ai g.items.length ci) (.slice ad g.data.length cd) g.next))
 refine Sat.perm (A:=(VaultA v s).star ((PgOwn ⟨.slice ai g.items.length ci,.slice ad g.data.length cd,ys,g⟩).star F)) ?_ (Pr.left_comm _ _ _);refine vaultA_iff.2 ⟨x,OK.out,?_⟩;refine Sat.left (B:=(Pr.pts w.heap.size (pageC g.kind g.level (.slice ai g.items.length ci) (.slice ad g.data.length cd) g.next)).star (starL [])) (h6.perm ?_);unfold VaultAt;simp only [starL];ac_rfl
end Go.Proofs.YtiegeadmgpanoaaGreatDoor.W5
