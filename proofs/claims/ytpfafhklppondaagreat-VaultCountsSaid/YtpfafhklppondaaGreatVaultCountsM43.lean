/- The law's do, kind by kind; the conditions stand as hypotheses. -/
import Derived.Test.YtpfafhklppondaaGreatVaultCountsM40
import Derived.Test.YtpfafhklppondaaGreatVaultCountsM33
import Derived.Test.YtpfafhklppondaaGreatVaultCountsM01
import Derived.Test.YtpfafhklppondaaGreatVaultCountsM12
import Derived.Test.YtpfafhklppondaaGreatVaultCountsM38
import Derived.Test.YtpfafhklppondaaGreatVaultCountsM31
import Derived.Deep.CutRange
set_option maxRecDepth 100000
set_option maxHeartbeats 16000000
namespace Go.Proofs.YtpfafhklppondaaGreat.Lz
open ChangeShapes WideShapes ChangeAt RowKit Sl Cop M2 P3 X3 Q2 X2 J4 L4 E5 P4 X4 Q6 Y6 X7 Z7 K9 V9 Qy G5 E7 F7 Uy G7 J7 K7 Xy Az Bz Q9 K6 K4
end Go.Proofs.YtpfafhklppondaaGreat.Lz
namespace Go.Proofs.YtpfafhklppondaaGreat.Nz
open ChangeShapes WideShapes ChangeAt RowKit Sl Cop M2 P3 X3 Q2 X2 J4 L4 E5 P4 X4 Q6 Y6 X7 Z7 K9 V9 Qy G5 E7 F7 Uy G7 J7 K7 Xy Az Bz Q9 K6 K4
end Go.Proofs.YtpfafhklppondaaGreat.Nz
namespace Go.Proofs.YtpfafhklppondaaGreat.Qz
open M6 E5 ChangeShapes WideShapes ChangeAt RowKit Sl Cop M2 P3 X3 G4 Q2 X2 J4 L4 D5 W6 P4 G8 X7 Z7 C8 V9 Qy J7 Bz Cz
def zNew(refs:Int)(n:Nat):LawS:=⟨newV refs n,[],poolN refs n,List.replicate n zeroP,0,[],.slice none 0 0,[],Hp.nil,.slice none 0 0,.slice none 0 0,[]⟩
theorem begin_any(n:Nat)(refs:Int)(h:rangeOk n refs=true)(k:Nat)(hk:k≤1000000)(F:Pr)(w:World)(hF:Sat F w):
 Calls Tryz.prog 29 #[.int .i64 n,.int .i64 refs] w fun e w'=>Stays w w'∧∃wb v r,e= .returned (.tuple #[.pointer (some ⟨wb,0,none⟩),.bool true])∧LOK (zNew refs n) k∧OwnL (lawL wb v r (zNew refs n) [F]) w':=by
 obtain⟨n1,n2,n3,n4⟩:=rangeOk_iff.1 h;have V:=hQ (vnew_any n refs (by omega) _ _ hF);have H:=hQ h;clear hF h;go_enter Tryz.func29,Tryz.ntmps29
 go_wp2_with fail
 refine V.out.mono ?_;rintro e w1 ⟨st1,v,rfl,hs1⟩;have okp:=(vault_ok hs1).1;have R:=hQ (rnew_any n refs H.out _ _ hs1);have HST:=hQ st1;have OKP:=hQ okp;clear hs1 st1 V okp;go_wp2_with fail
 refine R.out.mono ?_;rintro e w2 ⟨st2,r,rfl,hs2⟩;have hs3:=refA_refH _ _ _ _ hs2;have hs4:=(OwnL.in2 hs3).alloc (.cells #[.pointer (some ⟨v,0,none⟩),.pointer (some ⟨r,0,none⟩),.slice none 0 0,.slice none 0 0,.slice none 0 0] 79);have HS4:=hQ hs4
 have HST2:=hQ ((HST.out.trans st2).alloc (.cells #[.pointer (some ⟨v,0,none⟩),.pointer (some ⟨r,0,none⟩),.slice none 0 0,.slice none 0 0,.slice none 0 0] 79));clear hs2 hs3 hs4 st2 R HST;go_wp2;go_ret2;refine⟨HST2.out,w2.heap.size,v,r,rfl,⟨join_new H.out OKP.out k hk,by show 0+k≤ _;omega,by show 0+k≤ _;omega,⟨fun e he=>(by cases he),Nat.zero_le _⟩,fun x hx=>(by cases hx)⟩,?_⟩
 have h5:=((HS4.out.emp).emp).emp;have e2:WksRow (.slice none 0 0) []=Pr.emp:=Row.nil _ _;show OwnL [VaultA v (newV refs n),RefH r (poolN refs n) (List.replicate n zeroP) 0 [],workO w2.heap.size v r (.slice none 0 0) (.slice none 0 0) (.slice none 0 0),BRest (.slice none 0 0) (.slice none 0 0) [],WksRow (.slice none 0 0) [],Pr.own Hp.nil,F] _
 rw [bRest_nil,e2,own_nil];exact h5.to
end Go.Proofs.YtpfafhklppondaaGreat.Qz
namespace Go.Proofs.YtpfafhklppondaaGreat.Rz
open ChangeShapes WideShapes ChangeAt RowKit Sl Cop P3 G4 Q2 X2 D3 J4 L4 P4 Q6 Y6 C7 K8 V9 Z6 Y2 E7 J7 Bz Z8 Q8 Cz
theorem book_any(wb v r k:Nat)(z:LawS)(ok:LOK z k)(F:Pr)(w:World)(hF:OwnL (lawL wb v r z [F]) w):
 Calls Tryz.prog 89 #[.pointer (some ⟨wb,0,none⟩)] w fun e w'=>e= .returned (.bool true)∧Stays w w'∧DoneH wb v r k F w':=by
 obtain⟨s,H,rs,gs,fl,l,kv,ws,h,tv,xv,bs⟩:=z;obtain⟨j,ll,wl,bk,wk⟩:=ok;dsimp only at j ll wl bk wk
 obtain⟨G,hG,hs0⟩:∃G:Pr,(∀R wz,Sat (G.star R) wz→OwnL [VaultA v s,RefH r rs gs fl l,WksRow kv ws,F,R] wz)∧OwnL [workO wb v r kv tv xv,BRest tv xv bs,Pr.own h,G] w:=
  ⟨starL _,fun R wz h=>((OwnL.in1 (h.perm (Pr.star_comm _ _))).flat).to,OwnL.in3 (hF.pull3 (A1:=workO wb v r kv tv xv) (A2:=BRest tv xv bs) (A3:=Pr.own h))⟩
 have hs1:OwnL [TldRow tv bs,WntRow xv bs,big bkOwn bs,workO wb v r kv tv xv,Pr.own h,G] w:=by
  have h1:OwnL ((TldRow tv bs).star ((WntRow xv bs).star (big bkOwn bs)) :: _) w:=(OwnL.of1 (hs0.pull1 (A1:=BRest tv xv bs)));have h2:=OwnL.split (A:=TldRow tv bs) (B:=(WntRow xv bs).star (big bkOwn bs)) h1;exact(OwnL.split (A:=WntRow xv bs) (B:=big bkOwn bs) h2).to
 obtain⟨at',ct,rfl⟩:=Row.shape hs1.sat;obtain⟨ax,cx,rfl⟩:=Row.shape hs1.drop.sat;obtain⟨n,hnb⟩:∃n,bs.length=n:=⟨_,rfl⟩;have hn40:n≤40:=by have:=bk.bl;dsimp only at this;omega
 rw [show TldRow (.slice at' bs.length ct) bs=Row 37 5 (.slice at' bs.length ct) bs.length (bs.flatMap bkT) from rfl,show WntRow (.slice ax bs.length cx) bs=Row 37 5 (.slice ax bs.length cx) bs.length (bs.flatMap bkW) from rfl,hnb] at hs1;have HNB:=hQ hnb;have HBK:=hQ bk;have HJ:=hQ (And.intro j (And.intro ll (And.intro wl wk)));have HG:=hQ hG;have HS:=hQ hs1;have c1:=hs1.facts
 simp only [CellsAt,Nat.reduceAdd,and_true] at c1;have hn0:(n:Int)≤40:=by omega
 clear hF hs0 hs1 hG j ll wl wk bk hnb;go_enter Tryz.func89,Tryz.ntmps89
 go_wp2_with fail
 clear c1
 go_loopw [3,4] (fun lv i wr=> ∃(i0 m:Nat) (xs:List Value) (qs:List BkE) (os:List (Value × Nat × Nat)),i0≤n∧i= .int .i64 i0∧m≤17*i0∧Hid (xs=(allL (bs.take i0)).map (·.1)∧m=(allL (bs.take i0)).length)∧Hid (qs.length=n)∧Hid (∀q,i0≤q→qs[q]? =bs[q]?)∧
  Hid (os.length=i0∧∀q (h1:q<os.length) (h2:q<qs.length),qs[q].t.vi=os[q].1∧os[q].2.2=q∧os[q].2.1≤11)∧Stays w wr∧
  OwnL [Row 35 1 lv m xs,big rowOf (allL (bs.take i0)),big ovOf os,Row 37 5 (.slice at' n ct) n (qs.flatMap bkT),Row 37 5 (.slice ax n cx) n (bs.flatMap bkW),big bkOwn (bs.drop i0),workO wb v r kv (.slice at' n ct) (.slice ax n cx),Pr.own h,G] wr) (fun _ i _=>n-(intOf i).toNat)
 case atStart=>
  refine⟨0,0,[],bs,[],Nat.zero_le _,rfl,Nat.zero_le _,hQ ⟨rfl,rfl⟩,HNB,hQ (fun _ _=>rfl),hQ ⟨rfl,fun q h1=>absurd h1 (by simp)⟩,Stays.refl w,?_⟩;rw [Row.nil];have h9:=((HS.out.emp).nothing rowOf).nothing ovOf
  have h10:OwnL [Pr.emp,big rowOf [],big ovOf [],Row 37 5 (.slice at' n ct) n (bs.flatMap bkT),Row 37 5 (.slice ax n cx) n (bs.flatMap bkW),big bkOwn bs,workO wb v r kv (.slice at' n ct) (.slice ax n cx),Pr.own h,G] w:=h9.to;exact h10
 case round=>
  obtain⟨i0,m,xs,qs,os,hi,rfl,hm,hxs,hql,hqb,hos,hst,hs⟩:=hrel;obtain⟨al2,cl2,rfl⟩:=Row.shape hs.sat;have c1:=hs.facts;simp only [CellsAt,Nat.reduceAdd,and_true] at c1;rcases Nat.lt_or_ge i0 n with hlt | hge
  · have hib:i0<bs.length:=by have:=HNB.out;omega
    have hiq:i0<qs.length:=by have:=hql.out;omega
    have eqi:qs[i0]=bs[i0]:=by
     have:=hqb.out i0 (Nat.le_refl _)
     rw [List.getElem?_eq_getElem hiq,List.getElem?_eq_getElem hib] at this;exact Option.some.inj this
    obtain⟨bt,rfl, -⟩:=row5_rd bkT (fun _=>rfl) (hs.pull1 (A1:=Row 37 5 (.slice at' n ct) n (qs.flatMap bkT))) hql.out i0 hiq;obtain⟨bx,rfl, -⟩:=row5_rd bkW (fun _=>rfl) (hs.pull1 (A1:=Row 37 5 (.slice ax n cx) n (bs.flatMap bkW))) HNB.out i0 hib;rw [List.drop_eq_getElem_cons hib] at hs;have hs2:=hs.uncons bkOwn bs[i0] (bs.drop (i0+1));obtain⟨hfit,hwant⟩:=HBK.out.bs bs[i0] (List.getElem_mem hib)
    have ALT:=hQ (allL_take hib);have EB:=hQ (List.getElem?_eq_getElem hib);have EQI:=hQ ((List.getElem?_eq_getElem hiq).trans (congrArg some eqi));clear eqi hs HBK;generalize bs[i0]=e at*;obtain⟨⟨vi,vd,ys,g⟩,wi,wd⟩:=e;dsimp only at hfit hwant;have hs3:OwnL (PgOwn ⟨vi,vd,ys,g⟩ :: _) wr:=hs2;obtain⟨hyl,h3⟩:=pgOwn_iff.1 hs3.sat;obtain⟨ai,ci,e1⟩:=Row.shape h3
    obtain⟨ad,cd,e2⟩:=Row.shape h3.right.right;dsimp only at e1 e2 hyl;subst e1 e2;have hsl:=rows_sl hyl h3.right;obtain⟨wi2,wd2,epv,hwi,hwd⟩:=id hwant;simp only [pageV,Value.agg.injEq,Array.mk.injEq,List.cons.injEq,and_true,true_and] at epv;obtain⟨rfl,rfl⟩:=epv;obtain⟨awi,cwi,rfl, -, -⟩:=items_rd hwi;obtain⟨awd,cwd,rfl⟩:=bytes_shape hwd
    have TRD:=hQ (fun(wx:World) (Fx:Pr) (hx:Sat ((Row 37 5 (.slice (some ⟨bt,0,none⟩) n ct) n (qs.flatMap bkT)).star Fx) wx)=>told_rd hx hql.out EQI.out);have XRD:=hQ (fun(wx:World) (Fx:Pr) (hx:Sat ((Row 37 5 (.slice (some ⟨bx,0,none⟩) n cx) n (bs.flatMap bkW)).star Fx) wx)=>want_rd hx HNB.out EB.out)
    have tc:=TRD.out _ _ (hs3.pull1 (A1:=Row 37 5 (.slice (some ⟨bt,0,none⟩) n ct) n (qs.flatMap bkT)));have xc:=XRD.out _ _ (hs3.pull1 (A1:=Row 37 5 (.slice (some ⟨bx,0,none⟩) n cx) n (bs.flatMap bkW)));dsimp only at tc xc;obtain⟨ha,hq,hs4⟩:=hs3.drew.arena (PgOwn ⟨.slice ai g.items.length ci,.slice ad g.data.length cd,ys,g⟩)
    have EQ:=hQ (eqpage_same ha h _ _ g (pgOwn_in hq) hwant hfit _ (hs4.le (a:=ha)) (hs4.le (a:=h)));have hn8:(g.items.length:Int)≤8:=by have:=hfit.n;omega
    have HFIT:=hQ hfit;have HYL:=hQ hyl;have HSL:=hQ hsl;have HS3:=hQ hs3;have HST:=hQ hst;have zt:=World.block_lt_of_cell? _ _ tc.1;have zx:=World.block_lt_of_cell? _ _ xc.1;clear hs2 hs3 hs4 h3 hsl hfit hyl hwant hwi hwd hst hq
    rw [show ToldX.pv ⟨.slice ai g.items.length ci,.slice ad g.data.length cd,ys,g⟩=pageV g.kind g.level (.slice ai g.items.length ci) (.slice ad g.data.length cd) g.next from rfl] at EQ;go_wp2_with fail
    refine wS 153 [0,1,2,3,4,5,6,7,8,9,10,11,12,13] [(14,[15],[0,1,2,3,4,5,7,8,9,10,11,12])] ?_;refine wpQ_all _ rfl rfl ?_;simp only [pick,pQ];iterate 14 (go_big_quiet_step (fail))
    refine wpQuiet_nil ?_;refine wpRest_act rfl ?_;go_wp2_with fail
    refine EQ.out.mono ?_;rintro e w1 ⟨rfl,ho1⟩;have hs5:=HS3.out.drew.ext ho1.heap;have HST1:=hQ (HST.out.drew.trans ho1.st);clear tc xc c1 zt zx EQ HST HS3;have tc:=TRD.out _ _ (hs5.pull1 (A1:=Row 37 5 (.slice (some ⟨bt,0,none⟩) n ct) n (qs.flatMap bkT)));have xc:=XRD.out _ _ (hs5.pull1 (A1:=Row 37 5 (.slice (some ⟨bx,0,none⟩) n cx) n (bs.flatMap bkW)));have zt:=World.block_lt_of_cell? _ _ tc.1
    have zx:=World.block_lt_of_cell? _ _ xc.1;have c1:=hs5.facts;simp only [CellsAt,Nat.reduceAdd,and_true] at c1;obtain⟨_,h6⟩:=pgOwn_lists.1 hs5.sat;have LS:=hQ (lists_any ai ci ys g.items HYL.out (by omega) HSL.out ad g.data.length cd g.kind g.level g.next _ _ h6);clear hs5 h6 XRD;go_wp2;refine onN_mk ?_;refine wpQ_all _ rfl rfl ?_;simp only [pick,pQ];iterate 1 (go_big_quiet_step (fail))
    refine wpQuiet_nil ⟨?_,?_⟩
    · exact cQ
    refine wpRest_nil ?_;go_wp2_with fail
    refine LS.out.mono ?_;rintro e w2 ⟨lo,rfl,st2,hs6⟩;obtain⟨ao,co,rfl⟩:=Row.shape hs6;have hs7:=(OwnL.of3 hs6);clear tc xc c1 zt zx LS;have HST2:=hQ (HST1.out.trans st2);have HS7:=hQ hs7;clear hs6 hs7 st2 HST1
    obtain⟨Z,hZ,hs8⟩:∃Z:Pr,(∀R wz,Sat (Z.star R) wz→OwnL [ItRow (.slice ai g.items.length ci) ys g.items,big rowOf (pgL ⟨.slice ai g.items.length ci,.slice ad g.data.length cd,ys,g⟩),big rowOf (allL (bs.take i0)),big ovOf os,Row 37 5 (.slice (some ⟨bt,0,none⟩) n ct) n (qs.flatMap bkT),Row 37 5 (.slice (some ⟨bx,0,none⟩) n cx) n (bs.flatMap bkW),big bkOwn (bs.drop (i0+1)),workO wb v r kv (.slice (some ⟨bt,0,none⟩) n ct) (.slice (some ⟨bx,0,none⟩) n cx),Pr.own h,G,R] wz)∧
     OwnL [Row 35 1 (.slice al2 m cl2) m xs,Row 35 1 (.slice ao (1+2*g.items.length) co) (1+2*g.items.length) (.slice ad g.data.length cd :: ys.flatMap bothOf),Z] w2:=
     ⟨starL _,fun R wz h=>((OwnL.in1 (h.perm (Pr.star_comm _ _))).flat).to,OwnL.in2 (HS7.out.pull2 (A1:=Row 35 1 (.slice al2 m cl2) m xs) (A2:=Row 35 1 (.slice ao (1+2*g.items.length) co) (1+2*g.items.length) (.slice ad g.data.length cd :: ys.flatMap bothOf)))⟩
    have HZ:=hQ hZ;have HS8:=hQ hs8;obtain⟨no,hno⟩:∃no,no=1+2*g.items.length:=⟨_,rfl⟩;obtain⟨ones,hones⟩:∃ones,ones=Value.slice ad g.data.length cd :: ys.flatMap bothOf:=⟨_,rfl⟩;have ho17:(no:Int)≤17:=by omega
    have HO1:=hQ (show ∀x∈ones,isSl x by
     intro x hx
     rw [hones] at hx
     rcases List.mem_cons.1 hx with rfl | hx
     · exact⟨_,_,_,rfl⟩
     · obtain⟨y,hy,hx⟩:=List.mem_flatMap.1 hx
       rcases List.mem_cons.1 hx with rfl | hx
       · exact(HSL.out y hy).1
       · cases List.mem_singleton.1 hx;exact(HSL.out y hy).2)
    rw [← hno, ← hones] at HS8;rw [← hno];have HNO:=hQ hno;have HONES:=hQ hones;have hm2:(m:Int)≤663:=by omega
    clear hZ hs8 HS7 hno hones ho1 hib hiq;go_wp2_with fail
    go_loopw [3,6] (fun lv i wr=> ∃(k2 m2:Nat) (xs2:List Value),k2≤no∧i= .int .i64 k2∧Hid (m2=m+k2)∧m2≤680∧Hid (xs2=xs++ones.take k2)∧Stays w wr∧
     OwnL [Row 35 1 lv m2 xs2,Row 35 1 (.slice ao no co) no ones,Z] wr) (fun _ i _=>no-(intOf i).toNat)
    case atStart=>exact⟨0,m,xs,Nat.zero_le _,rfl,hQ rfl,by omega,hQ (by simp),HST2.out,HS8.out⟩
    case round=>
     clear HST2 HS8;obtain⟨k2,m2,xs2,hk2,rfl,hm2e,hm680,hxs2,hst,hs⟩:=hrel;obtain⟨al3,cl3,rfl⟩:=Row.shape hs.sat;rcases Nat.lt_or_ge k2 no with hl2 | hg2
     · obtain⟨_,_,e,hlen,hc⟩:=Row.read (hs.pull1 (A1:=Row 35 1 (.slice ao no co) no ones))
       cases e;obtain⟨b',eb,hd⟩:=hc (by omega);have k0:=(hd k2 (by omega)).1;have hk3:k2<ones.length:=by omega
       rw [List.getElem?_eq_getElem hk3] at k0;obtain⟨q1,qa,q2,e1⟩:=HO1.out ones[k2] (List.getElem_mem hk3);have HTK:=hQ (List.take_succ_eq_append_getElem hk3);rw [e1] at HTK k0;subst eb;have zb:=World.block_lt_of_cell? _ _ k0;obtain⟨j0,hj,hy0,hy1,hy2⟩:=info_parts infoRows;have H1:=hQ ((hs.alloc (.cells #[.slice q1 qa q2] 35)).drop.pull1 (A1:=Row 35 1 (.slice al3 m2 cl3) m2 xs2))
       have hnew:=hQ (show ∀j u,[Value.slice q1 qa q2][j]? =some u→(wr.alloc (.cells #[.slice q1 qa q2] 35)).cell? ((⟨wr.heap.size,0,none⟩:Addr).add j)=some u from fresh_cells wr [.slice q1 qa q2] 35);have HSTA:=hQ (hst.alloc (.cells #[.slice q1 qa q2] 35));clear hs hst hc hd e1 hlen
       go_wp2_with (
        at_builtin
        refine wpList_append_sl rfl _ _ _ rfl 35 j0 (.slice none 0 0) 1 24 Tryz.underlying54 hj hy0 hy1 hy2 rfl _ _ _ rfl H1.out ⟨wr.heap.size,0,none⟩ 1 1 [.slice q1 qa q2] rfl rfl hnew.out (by simp [Value.oneCell']) (by simp only [maxLen];omega) (by omega) ?_
        intro v7 w4 hs4 hg4 _
        obtain⟨a7',c7',e7',_,_⟩:=Row.read hs4
        subst e7'
        have HS4:=hQ hs4
        have HG4:=hQ hg4
        clear hs4 hg4)
       refine⟨⟨k2+1,m2+1,_,by omega,congrArg (Value.int .i64) (by omega),hQ (by have:=hm2e.out;omega),by have:=hm2e.out;omega,hQ (by rw [HTK.out, ← List.append_assoc, ← hxs2.out]),HSTA.out.of_grown HG4.out,(OwnL.of1 HS4.out).to⟩,by simp [intOf];omega⟩
     · have hkl:k2=no:=by omega
       subst hkl;have HSQ:=hQ hs;have HSTQ:=hQ hst;clear hs hst;go_wp2_with fail
       have hones:ones.length=k2:=by
        obtain⟨_,_,_,hlen,_⟩:=Row.read (HSQ.out.pull1 (A1:=Row 35 1 (.slice ao k2 co) k2 ones));omega
       have HX2:=hQ (show xs2=(allL (bs.take (i0+1))).map (·.1)∧m2=(allL (bs.take (i0+1))).length by
        have e1:=pgL_fst (t:=⟨.slice ai g.items.length ci,.slice ad g.data.length cd,ys,g⟩) HYL.out
        have e2:=pgL_len (t:=⟨.slice ai g.items.length ci,.slice ad g.data.length cd,ys,g⟩) HYL.out
        rw [ALT.out,List.map_append,List.length_append,e1,e2, ← hxs.out.1, ← hxs.out.2]
        refine⟨?_,?_⟩
        · rw [hxs2.out,List.take_of_length_le (by omega),HONES.out]
        · rw [hm2e.out,HNO.out])
       have hl:=HSQ.out.lose (Row 35 1 (.slice ao k2 co) k2 ones);have hs9:=(HZ.out _ _ (hl.pull1 (A1:=Z))).flat;have hm3:m2≤17*(i0+1):=by have:=hm2e.out;have:=HNO.out;omega
       clear HSQ HZ hl HONES HO1 hones hm2e hxs2 hm680 hxs HNO hk2 hg2 ho17
       obtain⟨Y,hY,hs10⟩:∃Y:Pr,(∀R wz,Sat (Y.star R) wz→OwnL [big rowOf (pgL ⟨.slice ai g.items.length ci,.slice ad g.data.length cd,ys,g⟩),big rowOf (allL (bs.take i0)),big ovOf os,Row 37 5 (.slice (some ⟨bx,0,none⟩) n cx) n (bs.flatMap bkW),big bkOwn (bs.drop (i0+1)),Pr.own h,G,Row 35 1 (.slice al3 m2 cl3) m2 xs2,R] wz)∧
        OwnL [Row 49 4 (.slice ai g.items.length ci) g.items.length ((ys.zip g.items).flatMap itCells),Row 37 5 (.slice (some ⟨bt,0,none⟩) n ct) n (qs.flatMap bkT),workO wb v r kv (.slice (some ⟨bt,0,none⟩) n ct) (.slice (some ⟨bx,0,none⟩) n cx),Y] wr:=
        ⟨starL _,fun R wz h=>((OwnL.in1 (h.perm (Pr.star_comm _ _))).flat).to,OwnL.in3 (hs9.pull3 (A1:=ItRow (.slice ai g.items.length ci) ys g.items) (A2:=Row 37 5 (.slice (some ⟨bt,0,none⟩) n ct) n (qs.flatMap bkT)) (A3:=workO wb v r kv (.slice (some ⟨bt,0,none⟩) n ct) (.slice (some ⟨bx,0,none⟩) n cx)))⟩
       have HY:=hQ hY;have HS10:=hQ hs10;clear hY hs9 hs10;obtain⟨ni,hni⟩:∃ni,ni=g.items.length:=⟨_,rfl⟩;have hzl0:(ys.zip g.items).length=ni:=by have:=HYL.out;simp;omega
       have HZL0:=hQ hzl0;rw [← hni] at HS10 HY TRD hn8;have HNI:=hQ hni;clear hni hzl0
       go_loopw [7] (fun i wr=> ∃(p:Nat) (zs:List It),p≤ni∧i= .int .i64 p∧Hid (zs.length=ni)∧Hid (∀q,q<p→zs[q]? =some (ovI i0))∧Stays w wr∧
        OwnL [Row 49 4 (.slice ai ni ci) ni (zs.flatMap itCells),Row 37 5 (.slice (some ⟨bt,0,none⟩) n ct) n (qs.flatMap bkT),workO wb v r kv (.slice (some ⟨bt,0,none⟩) n ct) (.slice (some ⟨bx,0,none⟩) n cx),Y] wr) (fun i _=>ni-(intOf i).toNat)
       case atStart=>exact⟨0,_,Nat.zero_le _,rfl,HZL0,hQ (fun q hq=>absurd hq (by omega)),HSTQ.out,HS10.out⟩
       case round=>
        clear HSTQ HS10 HZL0;obtain⟨p,zs,hp,rfl,hzl,hzs,hst,hs⟩:=hrel;have c1:=hs.facts;simp only [CellsAt,Nat.reduceAdd,and_true] at c1;obtain⟨t0,t1,t2,t3,t4,tf⟩:=TRD.out _ _ (hs.pull1 (A1:=Row 37 5 (.slice (some ⟨bt,0,none⟩) n ct) n (qs.flatMap bkT)));have zt:=World.block_lt_of_cell? _ _ t0;rcases Nat.lt_or_ge p ni with hlp | hgp
        · have hr0:=hs.pull1 (A1:=Row 49 4 (.slice ai ni ci) ni (zs.flatMap itCells))
          have ha1:∃b,ai=some ⟨b,0,none⟩:=by
           obtain⟨_,_,e,_,hc⟩:=Row.read hr0;cases e;obtain⟨b,e,_⟩:=hc (by omega);exact⟨b,e⟩
          obtain⟨b,rfl⟩:=ha1;have hpz:p<zs.length:=by have:=hzl.out;omega
          obtain⟨⟨s0,s1,s2,s3⟩,f0,f1,f2,f3⟩:=z_rd hr0 hzl.out hpz;have zb:=World.block_lt_of_cell? _ _ s0;have HP:=hQ (OwnL.of1 (z_put hr0 hpz (ovI i0)));have HSTP:=hQ ((((hst.setCell ⟨b,p*4,none⟩ (ovI i0).1.1).setCell ⟨b,p*4+1,none⟩ (ovI i0).1.2).setCell ⟨b,p*4+2,none⟩ (.int .i64 (ovI i0).2.child)).setCell ⟨b,p*4+3,none⟩ (.int .i64 (ovI i0).2.size))
          have HNEW:=hQ (show ∀q,q<p+1→(zs.set p (ovI i0))[q]? =some (ovI i0) by
           intro q hq
           rcases Nat.lt_or_ge q p with h1 | h1
           · rw [List.getElem?_set_ne (by omega)];exact hzs.out q h1
           · have:q=p:=by omega
             subst this
             rw [List.getElem?_set_self hpz])
          generalize zs[p]=old at*;clear hs hr0 hst hpz;go_wp2;refine⟨⟨p+1,zs.set p (ovI i0),by omega,congrArg (Value.int .i64) (by omega),hQ (by rw [List.length_set];exact hzl.out),HNEW,HSTP.out,HP.out.to⟩,by simp [intOf];omega⟩
        · have hpl:p=ni:=by omega
          subst hpl
          have hzr:zs=List.replicate p (ovI i0):=by
           refine List.ext_getElem? fun q=> ?_
           rcases Nat.lt_or_ge q p with h1 | h1
           · rw [hzs.out q h1,List.getElem?_replicate,if_pos h1]
           · rw [List.getElem?_eq_none (by have:=hzl.out;omega),List.getElem?_eq_none (by rw [List.length_replicate];exact h1)]
          subst hzr;clear hzs hzl;obtain⟨j0,hj,hy0,hy1,hy2⟩:=info_parts infoItem;obtain⟨hs2,hn2⟩:=hs.freshD [.slice none 0 0,.slice none 0 0,.int .i64 (-3-(i0:Int)),.int .i64 0,.slice none 0 0,.slice none 0 0,.int .i64 (-3-(i0:Int)),.int .i64 0,.slice none 0 0,.slice none 0 0,.int .i64 (-3-(i0:Int)),.int .i64 0] 49 wr.heap.size rfl
          have A1:=hQ (hs2.drop.pull1 (A1:=Row 49 4 (.slice ai p ci) p ((List.replicate p (ovI i0)).flatMap itCells)));have HNEW:=hQ hn2;have HSTA:=hQ (hst.alloc (.cells [Value.slice none 0 0,.slice none 0 0,.int .i64 (-3-(i0:Int)),.int .i64 0,.slice none 0 0,.slice none 0 0,.int .i64 (-3-(i0:Int)),.int .i64 0,.slice none 0 0,.slice none 0 0,.int .i64 (-3-(i0:Int)),.int .i64 0].toArray 49)).drew
          have OV:=hQ (ov_three p i0);clear hs hs2 hn2 hst;go_wp2_with fail
          refine wS 153 [0,1,2,3,4,5,6,7,8,9,10,11,12,13,14,15,16,17,18,19,20,21] [(22,[],[0,1,2,3,4,5,6,7,8,9,10,11,12,13,14,16,17,19,20]),(23,[24,25],[0,1,2,3,4,5,6,7,8,9,10,11,13,14,16,17,19,20]),(26,[],[24])] ?_;refine wpQ_all _ rfl rfl ?_;simp only [pick,pQ];iterate 22 (go_big_quiet_step (fail))
          refine wpQuiet_nil ?_;refine wpRest_act rfl ?_;go_wp2;refine onN_mk ?_;refine wpQ_nil ⟨?_,?_⟩
          · exact cQ
          refine wpRest_act rfl ?_
          refine wpList_appN rfl _ _ _ rfl 49 j0 (.agg #[.slice none 0 0,.slice none 0 0,.int .i64 0,.int .i64 0]) 4 64 Tryz.underlying34 hj hy0 hy1 hy2 rfl _ _ _ rfl A1.out ⟨wr.heap.size,0,none⟩ 3 3 [.slice none 0 0,.slice none 0 0,.int .i64 (-3-(i0:Int)),.int .i64 0,.slice none 0 0,.slice none 0 0,.int .i64 (-3-(i0:Int)),.int .i64 0,.slice none 0 0,.slice none 0 0,.int .i64 (-3-(i0:Int)),.int .i64 0] rfl rfl HNEW.out (by simp [Value.oneCell']) (by simp only [maxLen];omega) (by omega) (fun v7 w7 hs7 hg7 K0 hK0=> ?_)
          obtain⟨a7,c7,e7,_,_⟩:=Row.read hs7;subst e7;go_simp;refine hK0 _ ?_;clear hK0 K0;rw [OV.out] at hs7;have hs8:=OwnL.of1 hs7;have HST7:=hQ (HSTA.out.of_grown hg7);clear c1 t0 t1 t2 t3 t4 tf zt hs7 hg7 A1 HNEW HSTA OV;have c1:=hs8.facts;simp only [CellsAt,Nat.reduceAdd,and_true] at c1;have hr1:=hs8.pull1 (A1:=Row 37 5 (.slice (some ⟨bt,0,none⟩) n ct) n (qs.flatMap bkT))
          obtain⟨t0,t1,t2,t3,t4,tf⟩:=TRD.out _ _ hr1;have zt:=World.block_lt_of_cell? _ _ t0;have hiq:i0<qs.length:=by have:=hql.out;omega
          have HPUT:=hQ (OwnL.of1 (told_put hr1 hiq (.slice a7 (p+3) c7)));clear hs8 hr1;refine wpList_nil ?_;refine onN_mk ?_;refine wpQ_all _ rfl rfl ?_;simp only [pick,pQ];iterate 2 (go_big_quiet_step (fail))
          refine wpQuiet_nil ⟨?_,?_⟩
          · exact cQ
          refine wpRest_act rfl ?_;go_wp2;refine onN_mk ?_;refine wpQ_nil ⟨?_,?_⟩
          · exact cQ
          refine wpRest_nil ?_;go_wp2;have alt:=ALT.out;rw [← HNI.out] at alt
          have HOS:=hQ (show (os++ [(Value.slice a7 (p+3) c7,p+3,i0)]).length=i0+1∧∀q (h1:q<(os++ [(Value.slice a7 (p+3) c7,p+3,i0)]).length) (h2:q<(qs.set i0 (BkE.at qs[i0] (.slice a7 (p+3) c7))).length),(qs.set i0 (BkE.at qs[i0] (.slice a7 (p+3) c7)))[q].t.vi=(os++ [(Value.slice a7 (p+3) c7,p+3,i0)])[q].1∧(os++ [(Value.slice a7 (p+3) c7,p+3,i0)])[q].2.2=q∧(os++ [(Value.slice a7 (p+3) c7,p+3,i0)])[q].2.1≤11 by
           obtain⟨ho1,ho2⟩:=hos.out
           refine⟨by rw [List.length_append,List.length_singleton,ho1],fun q h1 h2=> ?_⟩
           rw [List.length_append,List.length_singleton] at h1
           rw [List.length_set] at h2
           rcases Nat.lt_or_ge q os.length with h3 | h3
           · rw [List.getElem_set_ne (by omega),List.getElem_append_left h3]
             exact ho2 q h3 h2
           · have e:q=i0:=by omega
             subst e
             have e2:(os++ [(Value.slice a7 (p+3) c7,p+3,q)])[q]'(by rw [List.length_append,List.length_singleton];omega)=(Value.slice a7 (p+3) c7,p+3,q):=by
              rw [List.getElem_append_right (by omega)]
              simp
             rw [e2,List.getElem_set_self]
             exact⟨rfl,rfl,by show p+3≤11;omega⟩)
          have hs10:=(HY.out _ _ (HPUT.out.pull1 (A1:=Y))).flat;have h11:=hs10.join2 (big rowOf (allL (bs.take i0))) (big rowOf (pgL ⟨.slice ai p ci,.slice ad g.data.length cd,ys,g⟩));rw [← big_append, ← alt] at h11;have h12:OwnL (ovOf (.slice a7 (p+3) c7,p+3,i0) :: _) _:=OwnL.of1 (h11.pull1 (A1:=Row 49 4 (.slice a7 (p+3) c7) (p+3) ((List.replicate (p+3) (ovI i0)).flatMap itCells)))
          have h13:=h12.snoc ovOf os (.slice a7 (p+3) c7,p+3,i0);exact⟨⟨i0+1,m2,xs2,qs.set i0 (BkE.at qs[i0] (.slice a7 (p+3) c7)),os++ [(.slice a7 (p+3) c7,p+3,i0)],by omega,congrArg (Value.int .i64) (by omega),hm3,HX2,hQ (by rw [List.length_set];exact hql.out),hQ (fun q hq=>(List.getElem?_set_ne (by omega)).trans (hqb.out q (by omega))),HOS,HST7.out.setCell _ _,h13.to⟩,by simp [intOf];omega⟩
  · have hin:i0=n:=by omega
    subst hin;have HS9:=hQ hs;have HST9:=hQ hst;clear hs hst HS;go_wp2_with fail
    go_loopw [8] (fun i wx=> ∃i1:Nat,i1≤i0∧i= .int .i64 i1∧wx=wr) (fun i _=>i0-(intOf i).toNat)
    case atStart=>exact⟨0,Nat.zero_le _,rfl,rfl⟩
    case round=>
     obtain⟨i1,hi1,rfl,rfl⟩:=hrel;rcases Nat.lt_or_ge i1 i0 with hl1 | hg1
     · have h1q:i1<qs.length:=by have:=hql.out;omega
       have h1o:i1<os.length:=by have:=hos.out.1;omega
       obtain⟨bt,rfl, -⟩:=row5_rd bkT (fun _=>rfl) (HS9.out.pull1 (A1:=Row 37 5 (.slice at' i0 ct) i0 (qs.flatMap bkT))) hql.out i1 h1q;obtain⟨t0,t1,t2,t3,t4,tf⟩:=told_rd (HS9.out.pull1 (A1:=Row 37 5 (.slice (some ⟨bt,0,none⟩) i0 ct) i0 (qs.flatMap bkT))) hql.out (List.getElem?_eq_getElem h1q);obtain⟨e1,e2,e3⟩:=hos.out.2 i1 h1o h1q
       obtain⟨ao,co,e4,ocell⟩:=ov_rd h1o (HS9.out.pull1 (A1:=big ovOf os));rw [e1,e4] at t2;rw [e2] at ocell;generalize os[i1].2.1=cnt at*;have zt:=World.block_lt_of_cell? _ _ t2;have hcnt:(cnt:Int)≤11:=by omega
       have OC:=hQ ocell;clear e1 e2 e4 ocell t0 t1 t3 t4 tf;go_wp2_with fail
       go_loopw [9] (fun i wx=> ∃i2:Nat,i2≤cnt∧i= .int .i64 i2∧wx=wr) (fun i _=>cnt-(intOf i).toNat)
       case atStart=>exact⟨0,Nat.zero_le _,rfl,rfl⟩
       case round=>
        obtain⟨i2,hi2,rfl,rfl⟩:=hrel;rcases Nat.lt_or_ge i2 cnt with hl2 | hg2
        · obtain⟨bo,rfl,o2⟩:=OC.out i2 hl2
          have zo:=World.block_lt_of_cell? _ _ o2;go_wp2;exact⟨⟨i2+1,by omega,congrArg (Value.int .i64) (by omega),trivial⟩,by simp [intOf];omega⟩
        · have:i2=cnt:=by omega
          subst this;go_wp2;exact⟨⟨i1+1,by omega,congrArg (Value.int .i64) (by omega),trivial⟩,by simp [intOf];omega⟩
     · have hi1e:i1=i0:=by omega
       subst hi1e;have hxs1:=hxs.out.1;have hxs2:=hxs.out.2;rw [List.take_of_length_le (by have:=HNB.out;omega)] at hxs1 hxs2;have hs1:=HS9.out;rw [List.take_of_length_le (by have:=HNB.out;omega)] at hs1;have hm680:m≤680:=by omega
       have hs2:=(hs1.set wb 3 (.slice none 0 0)).set wb 4 (.slice none 0 0);have HST2:=hQ ((HST9.out.setCell ⟨wb,3,none⟩ (.slice none 0 0)).setCell ⟨wb,4,none⟩ (.slice none 0 0));subst hxs1;subst hxs2
       have AP:=hQ (apart_any (.slice al2 (allL bs).length cl2) (allL bs) (by omega) (allL_sz (fun e he=>(HBK.out.bs e he).1)) _ _ (hs2.pull2 (A1:=Row 35 1 (.slice al2 (allL bs).length cl2) (allL bs).length ((allL bs).map (·.1))) (A2:=big rowOf (allL bs))));clear hs1 hs2 hm680 hxs HS9 HST9;go_wp2_with fail
       refine AP.out.mono ?_;rintro e w5 ⟨rfl,st5,hs5⟩;have HS5:=hQ hs5;have HST5:=hQ (HST2.out.trans st5);clear hs5 st5 AP HST2;go_wp2;go_ret;obtain⟨j,ll,wl,wk⟩:=HJ.out;have h6:=OwnL.of0 HS5.out;have h7:=(HG.out _ _ (h6.pull1 (A1:=G))).flat;have h8:=h7.emp;rw [← bRest_nil] at h8
       exact⟨rfl,HST5.out,⟨s,H,rs,gs,fl,l,kv,ws,h,.slice none 0 0,.slice none 0 0,[]⟩,⟨j,ll,wl,⟨fun e he=>(by cases he),Nat.zero_le _⟩,wk⟩,h8.to⟩
end Go.Proofs.YtpfafhklppondaaGreat.Rz
