/- The law's write; the conditions stand as hypotheses. -/
import Derived.Test.YtpfafhklppondaaGreatVaultCountsM31
import Derived.Test.YtpfafhklppondaaGreatVaultCountsM40
import Derived.Deep.CutRange
import Derived.Test.YtpfafhklppondaaGreatVaultCountsM33
import Derived.Test.YtpfafhklppondaaGreatVaultCountsM01
import Derived.Test.YtpfafhklppondaaGreatVaultCountsM12
import Derived.Test.YtpfafhklppondaaGreatVaultCountsM35
import Derived.Test.YtpfafhklppondaaGreatVaultCountsM17
set_option maxRecDepth 100000
set_option maxHeartbeats 16000000
namespace Go.Proofs.YtpfafhklppondaaGreat.Dz
open ChangeShapes WideShapes ChangeAt RowKit Sl Cop M2 P3 X3 Q2 X2 J4 L4 E5 P4 Q6 Y6 X7 Z7 V9 E7 J7 Xy Az Bz T8 X8 Z8 C9 X9
abbrev ByRow(b n:Nat)(zs:List Int):Pr:=Row 5 1 (.slice (some ⟨b,0,none⟩) (n+64) (n+64)) (n+64) (zs.map (Value.int .u8))
theorem by_cell {b n k:Nat}{zs:List Int}{F:Pr}{w:World}(h:Sat ((ByRow b n zs).star F) w)(hl:zs.length=n+64)(hk:k<n):
 ∃z:Int,w.cell? ⟨b,k,none⟩=some (.int .u8 z)∧w.frozen? ⟨b,k,none⟩=false∧∀u:Int,Sat ((ByRow b n (zs.set k u)).star F) (w.setCell ⟨b,k,none⟩ (.int .u8 u)):=by
 obtain⟨_,_,e,hlen,hc⟩:=Row.read h;cases e;obtain⟨b',eb,hd⟩:=hc (by omega);cases eb;refine⟨zs[k]'(by omega),?_,(hd k (by omega)).2,fun u=> ?_⟩
 · rw [(hd k (by omega)).1,List.getElem?_map,List.getElem?_eq_getElem (by omega)]
   rfl
 · have h2:=Row.set h k (by rw [List.length_map];omega) (.int .u8 u)
   rw [← List.map_set] at h2;exact h2
theorem zs_item {ib:Nat}{bs:List (Nat × Nat)}{its:List ItemV}{zs:List It}{i:Nat}{F:Pr}{w:World}(h:Sat ((ZRow ib (its.length+2) (its.length+2) zs).star F) w)(hl:zs.length=its.length+2)(hb:bs.length=its.length)(hi:i<its.length)
 (hz:zs[i]? =(spL bs its (its.length+2))[i]?):(w.cell? ⟨ib,i*4,none⟩=some (.slice (some ⟨(bs[i]'(by omega)).1,0,none⟩) its[i].key.length (its[i].key.length+64))∧w.cell? ⟨ib,i*4+1,none⟩=some (.slice (some ⟨(bs[i]'(by omega)).2,0,none⟩) its[i].value.length (its[i].value.length+64))∧w.cell? ⟨ib,i*4+2,none⟩=some (.int .i64 its[i].child)∧w.cell? ⟨ib,i*4+3,none⟩=some (.int .i64 its[i].size))∧
   (w.frozen? ⟨ib,i*4,none⟩=false∧w.frozen? ⟨ib,i*4+1,none⟩=false∧w.frozen? ⟨ib,i*4+2,none⟩=false∧w.frozen? ⟨ib,i*4+3,none⟩=false):=by
 obtain⟨h1,h2⟩:=z_rd h hl (k:=i) (by omega)
 have e:zs[i]'(by omega)=(kvOf (bs[i]'(by omega)) its[i],its[i]):=by
  rw [List.getElem?_eq_getElem (by omega),List.getElem?_eq_getElem (by rw [spL_len];omega)] at hz;rw [Option.some.inj hz,spL_at (by omega)];unfold spZ;rw [if_pos (by omega),dif_pos hi];simp [List.getD,List.getElem?_eq_getElem (show i<bs.length by omega)]
 rw [e] at h1;exact⟨h1,h2⟩
theorem write_tell(wb v r k:Nat)(z:LawS)(ok:LOK z (k+1))(kind N K:Int)(g:PageV)(vi vd:Value)(hp:Hp)(hpg:PageIn hp (pageV g.kind g.level vi vd g.next) g)(hz:SzP g)(hu:∀x∈g.items,U8 x.key)(P:VaultS→Prop)(hP:kind=0→∀a b s' H',QMake z.s z.H g a b s' H'→P s')(hP1:kind≠0→∀s',P s')(F:Pr)(w:World)(hF:OwnL (lawL wb v r z [Pr.own hp,F]) w):
 Calls Tryz.prog 76 #[.pointer (some ⟨wb,0,none⟩),.agg #[.int .i64 kind,.int .i64 N,.int .i64 K,.int .i64 g.kind,.int .i64 g.level,vi,vd,.int .i64 g.next]] w fun e w'=>e= .returned (.bool true)∧Stays w w'∧DoneP wb v r k P ((Pr.own hp).star F) w':=by
 obtain⟨s,H,rs,gs,fl,l,kv,ws,h,tv,xv,bs0⟩:=z;obtain⟨j,ll,wl,bk,wk⟩:=ok;dsimp only at j ll wl bk wk hP;have HP0:=hQ hP;have HP1:=hQ hP1;clear hP hP1;have okp:=(vault_ok (hF.pull1 (A1:=VaultA v s))).1;obtain⟨vi2,vd2,epv,hi,hdd⟩:=id hpg;simp only [pageV,Value.agg.injEq,Array.mk.injEq,List.cons.injEq,and_true,true_and] at epv;obtain⟨rfl,rfl⟩:=epv;obtain⟨ai,ci,rfl, -, -⟩:=items_rd hi
 obtain⟨ad,cd,rfl⟩:=bytes_shape hdd;have hs1:=hF.alloc (opC11 kind N K g.kind g.level (.slice ai g.items.length ci) (.slice ad g.data.length cd) g.next);have HST:=hQ ((Stays.refl w).alloc (opC11 kind N K g.kind g.level (.slice ai g.items.length ci) (.slice ad g.data.length cd) g.next));have c1:=hs1.facts;simp only [CellsAt,Nat.reduceAdd,and_true] at c1
 have SP:=hQ (sparepage_any hp _ g hpg hz _ _ (hs1.pull1 (A1:=Pr.own hp)));have HOK:=hQ (And.intro ll (And.intro wl (And.intro bk wk)));have HJ0:=hQ (And.intro j okp);have HPG:=hQ hpg;have HZ:=hQ hz;have HU:=hQ hu;have hn0:(g.items.length:Int)≤2199023255488:=by have:=hz.n;omega
 have hd0:(g.data.length:Int)≤140737488351232:=by have:=hz.d;omega
 clear hF hs1 j okp ll wl bk wk hi hdd hpg hz hu;go_enter Tryz.func76,Tryz.ntmps76
 go_wp2_with fail
 refine SP.out.mono ?_;rintro e w1 ⟨⟨ib,db,bs⟩,rfl,hbl,st1,hs2⟩;rw [show SpX.pv ⟨ib,db,bs⟩ g=pageV g.kind g.level (.slice (some ⟨ib,0,none⟩) g.items.length (g.items.length+2)) (.slice (some ⟨db,0,none⟩) g.data.length (g.data.length+64)) g.next from rfl];dsimp only at hbl hs2
 have hs3:=(OwnL.of4 hs2).alloc (pageC g.kind g.level (.slice (some ⟨ib,0,none⟩) g.items.length (g.items.length+2)) (.slice (some ⟨db,0,none⟩) g.data.length (g.data.length+64)) g.next);have HST1:=hQ ((HST.out.trans st1).alloc (pageC g.kind g.level (.slice (some ⟨ib,0,none⟩) g.items.length (g.items.length+2)) (.slice (some ⟨db,0,none⟩) g.data.length (g.data.length+64)) g.next));have HS3:=hQ hs3
 have HBL:=hQ hbl;clear c1 hs2 hs3 st1 HST SP hbl;have c1:=HS3.out.facts;simp only [CellsAt,Nat.reduceAdd,and_true] at c1;go_upto_if 21 with(fail)
 generalize w1.alloc (pageC g.kind g.level (.slice (some ⟨ib,0,none⟩) g.items.length (g.items.length+2)) (.slice (some ⟨db,0,none⟩) g.data.length (g.data.length+64)) g.next)=w2 at*;generalize w1.heap.size=J at*;generalize w.heap.size=I0 at*;clear c1
 go_cut [6] from 7 to 68 (fun t1 wx=>t1= .bool true∧∃s' H' rs' gs' l',Join s' H' rs' gs' fl l' k∧(l'.length≤l.length+1∧P s')∧Stays w wx∧
  OwnL [SpRow ib bs g.items,big wholeOf (bs.zip g.items),WholeRow db g.data,Pr.pts J (pageC g.kind g.level (.slice (some ⟨ib,0,none⟩) g.items.length (g.items.length+2)) (.slice (some ⟨db,0,none⟩) g.data.length (g.data.length+64)) g.next),Pr.pts I0 (opC11 kind N K g.kind g.level (.slice ai g.items.length ci) (.slice ad g.data.length cd) g.next),VaultA v s',RefH r rs' gs' fl l',workO wb v r kv tv xv,BRest tv xv bs0,WksRow kv ws,Pr.own h,Pr.own hp,F] wx)
 case first=>
  have c1:=HS3.out.facts;simp only [CellsAt,Nat.reduceAdd,and_true] at c1;have hJ:=HS3.out.join3 (SpRow ib bs g.items) (big wholeOf (bs.zip g.items)) (WholeRow db g.data);by_cases hk0:kind=0
  · obtain⟨hV,hR⟩:=pair_makeQ (H:=H) (v:=v) (r:=r) HJ0.out.1 HJ0.out.2 (by have:=HOK.out.1;omega) g HU.out
    obtain⟨ha,hq,hs4⟩:=hJ.drew.arena (SpRows ⟨ib,db,bs⟩ g);have V:=hQ (hV ha _ _ _ (spRows_in HBL.out hq) (hs4.pull2 (A1:=VaultA v s) (A2:=Pr.own ha)));have HR:=hQ hR;have HQ:=hQ hq;subst hk0;clear hs4 hJ hV hR hq;go_wp2_with fail
    refine wS 146 [0,1,2,3,4] [(5,[6,7,8,9,10],[0,1,2])] ?_;refine wpQ_all _ rfl rfl ?_;simp only [pick,pQ];iterate 5 (go_big_quiet_step (fail))
    refine wpQuiet_nil ?_;refine wpRest_act rfl ?_;go_wp2_with fail
    refine V.out.mono ?_;rintro e w3 ⟨a,b,s',H',hq,rfl,st3,hs5⟩;have HQP:=hQ (HP0.out trivial a b s' H' hq);have hs6:=OwnL.back (SpRows ⟨ib,db,bs⟩ g) HQ.out (OwnL.of2 hs5);have hs7:=(OwnL.split (A:=SpRow ib bs g.items) (B:=(big wholeOf (bs.zip g.items)).star (WholeRow db g.data)) hs6);have hs8:=OwnL.split (A:=big wholeOf (bs.zip g.items)) (B:=WholeRow db g.data) hs7;clear c1;have c1:=hs8.facts
    simp only [CellsAt,Nat.reduceAdd,and_true] at c1;have R:=hQ (HR.out a b s' H' hq hp _ _ _ HPG.out (hs8.drew.pull2 (A1:=RefH r rs gs fl l) (A2:=Pr.own hp)));have HST3:=hQ (HST1.out.drew.trans st3);clear hs5 hs6 hs7 hs8 st3 V HR hq HST1;go_wp2;refine onN_mk ?_;refine wpQ_all _ rfl rfl ?_;simp only [pick,pQ];iterate 5 (go_big_quiet_step (fail))
    refine wpQuiet_nil ⟨?_,?_⟩
    · exact cQ
    refine wpRest_nil ?_;go_wp2_with fail
    refine wS 146 [0,1,2,3,4,5] [(6,[7,8,9,10,11],[0,1,2,4])] ?_;refine wpQ_all _ rfl rfl ?_;simp only [pick,pQ];iterate 6 (go_big_quiet_step (fail))
    refine wpQuiet_nil ?_;refine wpRest_act rfl ?_;go_wp2_with fail
    refine R.out.mono ?_;rintro e w4 ⟨rfl,st4,rs',gs',l',j',hl',hs9⟩;have hs10:=OwnL.of2 hs9;clear c1;have c1:=hs10.facts;simp only [CellsAt,Nat.reduceAdd,and_true] at c1;have HEND:=hQ (And.intro j' (And.intro hl' (And.intro (HST3.out.drew.trans st4) hs10)));clear hs9 hs10 st4 R HST3 j' hl';go_wp2;refine onN_mk ?_;refine wpQ_all _ rfl rfl ?_;simp only [pick,pQ];iterate 5 (go_big_quiet_step (fail))
    refine wpQuiet_nil ⟨?_,?_⟩
    · exact cQ
    refine wpRest_nil ?_;go_wp2;go_meet
    exact⟨rfl,s',H',rs',gs',l',HEND.out.1,⟨HEND.out.2.1,HQP.out⟩,HEND.out.2.2.1,HEND.out.2.2.2.to⟩
  · obtain⟨Q,hV,hR⟩:=pair_write (v:=v) (r:=r) HJ0.out.1 (by have:=HOK.out.1;omega) N g HU.out
    obtain⟨ha,hq,hs4⟩:=hJ.drew.arena (SpRows ⟨ib,db,bs⟩ g);have V:=hQ (hV ha _ _ _ (spRows_in HBL.out hq) (hs4.pull2 (A1:=VaultA v s) (A2:=Pr.own ha)));have HR:=hQ hR;have HQ:=hQ hq;have hkf:decide (kind=0)=false:=decide_eq_false hk0;clear hs4 hJ hV hR hq;go_wp2_with fail
    refine wS 146 [0,1,2,3,4,5,6] [(7,[8],[0,1,2,4])] ?_;refine wpQ_all _ rfl rfl ?_;simp only [pick,pQ];iterate 7 (go_big_quiet_step (fail))
    refine wpQuiet_nil ?_;refine wpRest_act rfl ?_;go_wp2_with fail
    refine V.out.mono ?_;rintro e w3 ⟨b,s',H',hq,rfl,st3,hs5⟩;have HQP:=hQ (HP1.out hk0 s');have hs6:=OwnL.back (SpRows ⟨ib,db,bs⟩ g) HQ.out (OwnL.of2 hs5);have hs7:=(OwnL.split (A:=SpRow ib bs g.items) (B:=(big wholeOf (bs.zip g.items)).star (WholeRow db g.data)) hs6);have hs8:=OwnL.split (A:=big wholeOf (bs.zip g.items)) (B:=WholeRow db g.data) hs7;clear c1;have c1:=hs8.facts
    simp only [CellsAt,Nat.reduceAdd,and_true] at c1;have R:=hQ (HR.out b s' H' hq hp _ _ _ HPG.out (hs8.drew.pull2 (A1:=RefH r rs gs fl l) (A2:=Pr.own hp)));have HST3:=hQ (HST1.out.drew.trans st3);clear hs5 hs6 hs7 hs8 st3 V HR hq HST1;go_wp2;refine onN_mk ?_;refine wpQ_all _ rfl rfl ?_;simp only [pick,pQ];iterate 1 (go_big_quiet_step (fail))
    refine wpQuiet_nil ⟨?_,?_⟩
    · exact cQ
    refine wpRest_nil ?_;go_wp2_with fail
    refine wS 146 [0,1,2,3,4,5,6,7,8] [(9,[10,11],[0,1,2,3,5,7])] ?_;refine wpQ_all _ rfl rfl ?_;simp only [pick,pQ];iterate 9 (go_big_quiet_step (fail))
    refine wpQuiet_nil ?_;refine wpRest_act rfl ?_;go_wp2_with fail
    refine R.out.mono ?_;rintro e w4 ⟨rfl,st4,rs',gs',l',j',hl',hs9⟩;have hs10:=OwnL.of2 hs9;clear c1;have c1:=hs10.facts;simp only [CellsAt,Nat.reduceAdd,and_true] at c1;have HEND:=hQ (And.intro j' (And.intro hl' (And.intro (HST3.out.drew.trans st4) hs10)));clear hs9 hs10 st4 R HST3 j' hl';go_wp2;refine onN_mk ?_;refine wpQ_all _ rfl rfl ?_;simp only [pick,pQ];iterate 2 (go_big_quiet_step (fail))
    refine wpQuiet_nil ⟨?_,?_⟩
    · exact cQ
    refine wpRest_nil ?_;go_wp2;go_meet
    exact⟨rfl,s',H',rs',gs',l',HEND.out.1,⟨HEND.out.2.1,HQP.out⟩,HEND.out.2.2.1,HEND.out.2.2.2.to⟩
 case rest=>
  obtain⟨rfl,s',H',rs',gs',l',j',hl',st2,hs4⟩:=hcut;have c1:=hs4.facts;simp only [CellsAt,Nat.reduceAdd,and_true] at c1;have KP:=hQ (keptpage_any ⟨ib,db,bs⟩ g HBL.out HZ.out hp _ HPG.out _ _ (hs4.pull4 (A1:=SpRow ib bs g.items) (A2:=big wholeOf (bs.zip g.items)) (A3:=WholeRow db g.data) (A4:=Pr.own hp)));have HS4:=hQ hs4;have HEND:=hQ (And.intro j' hl');have HST2:=hQ st2
  clear hs4 st2 j' hl' HS3 HST1 HJ0 HU HPG;go_wp2_with fail
  refine KP.out.mono ?_;rintro e w3 ⟨rfl,ho3⟩;clear c1;have hs5:=HS4.out.ext ho3.heap
  obtain⟨G,hG,hs6⟩:∃G:Pr,(∀wz,Sat G wz→OwnL [VaultA v s',RefH r rs' gs' fl l',workO wb v r kv tv xv,BRest tv xv bs0,WksRow kv ws,Pr.own h,Pr.own hp,F] wz)∧OwnL [ZRow ib (g.items.length+2) (g.items.length+2) (spL bs g.items (g.items.length+2)),big wholeOf ((bs.zip g.items).drop 0),WholeRow db g.data,Pr.pts J (pageC g.kind g.level (.slice (some ⟨ib,0,none⟩) g.items.length (g.items.length+2)) (.slice (some ⟨db,0,none⟩) g.data.length (g.data.length+64)) g.next),G] w3:=
   ⟨starL _,fun wz h=>(OwnL.of0 h).to,OwnL.in4 (hs5.pull4 (A1:=SpRow ib bs g.items) (A2:=big wholeOf (bs.zip g.items)) (A3:=WholeRow db g.data) (A4:=Pr.pts J _))⟩
  have HG:=hQ hG;have HS6:=hQ hs6;have HST3:=hQ (HST2.out.trans ho3.st);have c1:=hs6.facts;simp only [CellsAt,Nat.reduceAdd,and_true] at c1;clear KP hs5 hs6 hG HS4 HST2 ho3;go_wp2_with fail
  clear c1
  go_loopw [12] (fun i wr=> ∃(m:Nat) (zs:List It),m≤g.items.length∧i= .int .i64 m∧Hid (zs.length=g.items.length+2)∧Hid (∀q,m≤q→zs[q]? =(spL bs g.items (g.items.length+2))[q]?)∧Stays w wr∧
   OwnL [ZRow ib (g.items.length+2) (g.items.length+2) zs,big wholeOf ((bs.zip g.items).drop m),WholeRow db g.data,Pr.pts J (pageC g.kind g.level (.slice (some ⟨ib,0,none⟩) g.items.length (g.items.length+2)) (.slice (some ⟨db,0,none⟩) g.data.length (g.data.length+64)) g.next),G] wr) (fun i _=>g.items.length-(intOf i).toNat)
  case atStart=>exact⟨0,_,Nat.zero_le _,rfl,hQ (spL_len _ _ _),hQ (fun _ _=>rfl),HST3.out,HS6.out⟩
  case round=>
   clear HS6 HST3;obtain⟨m,zs,hm,rfl,hzl,hzs,hst,hs⟩:=hrel;have c1:=hs.facts;simp only [CellsAt,Nat.reduceAdd,and_true] at c1;rcases Nat.lt_or_ge m g.items.length with hlt | hge
   · have hbm:m<bs.length:=by have:=HBL.out;omega
     have hzm:m<(bs.zip g.items).length:=by simp;omega
     rw [List.drop_eq_getElem_cons hzm] at hs;have hs2:=hs.uncons wholeOf (bs.zip g.items)[m] ((bs.zip g.items).drop (m+1));rw [show (bs.zip g.items)[m]=(bs[m],g.items[m]) by simp] at hs2;have hs3:OwnL ((WholeRow bs[m].1 g.items[m].key).star (WholeRow bs[m].2 g.items[m].value) :: _) wr:=hs2;have hs4:=OwnL.split (A:=WholeRow bs[m].1 g.items[m].key) (B:=WholeRow bs[m].2 g.items[m].value) hs3
     have ZI:=hQ (fun(wx:World) (Fx:Pr) (hx:Sat ((ZRow ib (g.items.length+2) (g.items.length+2) zs).star Fx) wx)=>zs_item hx hzl.out HBL.out hlt (hzs.out m (Nat.le_refl _)));have hk1:(g.items[m].key.length:Int)≤140737488351232:=by have:=(HZ.out.k _ (List.getElem_mem hlt)).1;omega
     have hk2:(g.items[m].value.length:Int)≤140737488351232:=by have:=(HZ.out.k _ (List.getElem_mem hlt)).2;omega
     have HPUT:=hQ (fun(wx:World) (Fx:Pr) (hx:Sat ((ZRow ib (g.items.length+2) (g.items.length+2) zs).star Fx) wx)=>z_put hx (k:=m) (by have:=hzl.out;omega) zeroZ);generalize g.items[m]=it at*;generalize bs[m]=p at*;obtain⟨⟨s0,s1,s2,s3⟩,f0,f1,f2,f3⟩:=ZI.out _ _ (hs4.pull1 (A1:=ZRow ib (g.items.length+2) (g.items.length+2) zs));have HS4:=hQ hs4;have HST4:=hQ hst;clear hs hs2 hs3 hs4 hst
     go_wp2_with fail
     clear c1 s0 s1 s2 s3 f0 f1 f2 f3
     go_loopw [13] (fun i wr=> ∃(q:Nat) (zz:List Int),q≤it.key.length∧i= .int .i64 q∧Hid (zz.length=it.key.length+64)∧Stays w wr∧
      OwnL [ByRow p.1 it.key.length zz,WholeRow p.2 it.value,ZRow ib (g.items.length+2) (g.items.length+2) zs,big wholeOf ((bs.zip g.items).drop (m+1)),WholeRow db g.data,Pr.pts J (pageC g.kind g.level (.slice (some ⟨ib,0,none⟩) g.items.length (g.items.length+2)) (.slice (some ⟨db,0,none⟩) g.data.length (g.data.length+64)) g.next),G] wr) (fun i _=>it.key.length-(intOf i).toNat)
     case atStart=>exact⟨0,_,Nat.zero_le _,rfl,hQ (spareL_len _),HST4.out,HS4.out.to⟩
     case round=>
      clear HS4 HST4;obtain⟨q,zz,hq,rfl,hzz,hst,hs⟩:=hrel;have c1:=hs.facts;simp only [CellsAt,Nat.reduceAdd,and_true] at c1;obtain⟨⟨s0,s1,s2,s3⟩,f0,f1,f2,f3⟩:=ZI.out _ _ (hs.pull1 (A1:=ZRow ib (g.items.length+2) (g.items.length+2) zs));rcases Nat.lt_or_ge q it.key.length with hlq | hgq
      · obtain⟨u,e0,e1,e2⟩:=by_cell (hs.pull1 (A1:=ByRow p.1 it.key.length zz)) hzz.out hlq
        have E2:=hQ e2;have HSTQ:=hQ hst;clear hs hst e2;go_wp2;refine⟨⟨q+1,zz.set q (bits .xor .u8 u 1),by omega,congrArg (Value.int .i64) (by omega),hQ (by rw [List.length_set];exact hzz.out),HSTQ.out.setCell _ _,(OwnL.of1 (E2.out _)).to⟩,by simp [intOf];omega⟩
      · have hql:q=it.key.length:=by omega
        subst hql;have HSQ:=hQ hs;have HSTQ:=hQ hst;clear hs hst;go_wp2_with fail
        clear c1 s0 s1 s2 s3 f0 f1 f2 f3
        go_loopw [14] (fun i wr=> ∃(q:Nat) (zz:List Int),q≤it.value.length∧i= .int .i64 q∧Hid (zz.length=it.value.length+64)∧Stays w wr∧
         OwnL [ByRow p.2 it.value.length zz,ZRow ib (g.items.length+2) (g.items.length+2) zs,big wholeOf ((bs.zip g.items).drop (m+1)),WholeRow db g.data,Pr.pts J (pageC g.kind g.level (.slice (some ⟨ib,0,none⟩) g.items.length (g.items.length+2)) (.slice (some ⟨db,0,none⟩) g.data.length (g.data.length+64)) g.next),G] wr) (fun i _=>it.value.length-(intOf i).toNat)
        case atStart=>exact⟨0,_,Nat.zero_le _,rfl,hQ (spareL_len _),HSTQ.out,(HSQ.out.lose (ByRow p.1 it.key.length zz)).to⟩
        case round=>
         clear HSQ HSTQ;obtain⟨q,zz,hq,rfl,hzz,hst,hs⟩:=hrel;have c1:=hs.facts;simp only [CellsAt,Nat.reduceAdd,and_true] at c1;have hs7:=hs.pull1 (A1:=ZRow ib (g.items.length+2) (g.items.length+2) zs);obtain⟨⟨s0,s1,s2,s3⟩,f0,f1,f2,f3⟩:=ZI.out _ _ hs7;rcases Nat.lt_or_ge q it.value.length with hlq | hgq
         · obtain⟨u,e0,e1,e2⟩:=by_cell (hs.pull1 (A1:=ByRow p.2 it.value.length zz)) hzz.out hlq
           have E2:=hQ e2;have HSTQ:=hQ hst;clear hs hst e2 hs7;go_wp2;refine⟨⟨q+1,zz.set q (bits .xor .u8 u 1),by omega,congrArg (Value.int .i64) (by omega),hQ (by rw [List.length_set];exact hzz.out),HSTQ.out.setCell _ _,(OwnL.of1 (E2.out _)).to⟩,by simp [intOf];omega⟩
         · have hql:q=it.value.length:=by omega
           subst hql;have HSQ:=hQ (OwnL.of1 (HPUT.out _ _ hs7));have HSTQ:=hQ ((((hst.setCell ⟨ib,m*4,none⟩ zeroZ.1.1).setCell ⟨ib,m*4+1,none⟩ zeroZ.1.2).setCell ⟨ib,m*4+2,none⟩ (.int .i64 zeroZ.2.child)).setCell ⟨ib,m*4+3,none⟩ (.int .i64 zeroZ.2.size));clear hs hst hs7 HPUT;go_wp2
           refine⟨⟨m+1,zs.set m zeroZ,by omega,congrArg (Value.int .i64) (by omega),hQ (by rw [List.length_set];exact hzl.out),hQ (fun q hq=>(List.getElem?_set_ne (by omega)).trans (hzs.out q (by omega))),HSTQ.out,(HSQ.out.lose (ByRow p.2 it.value.length zz)).to⟩,by simp [intOf];omega⟩
   · have hml:m=g.items.length:=by omega
     subst hml;have HSM:=hQ hs;have HSTM:=hQ hst;clear hs hst hzl hzs;go_wp2_with fail
     clear c1
     go_loopw [15] (fun i wr=> ∃(q:Nat) (zz:List Int),q≤g.data.length∧i= .int .i64 q∧Hid (zz.length=g.data.length+64)∧Stays w wr∧
      OwnL [ByRow db g.data.length zz,Pr.pts J (pageC g.kind g.level (.slice (some ⟨ib,0,none⟩) g.items.length (g.items.length+2)) (.slice (some ⟨db,0,none⟩) g.data.length (g.data.length+64)) g.next),G] wr) (fun i _=>g.data.length-(intOf i).toNat)
     case atStart=>exact⟨0,_,Nat.zero_le _,rfl,hQ (spareL_len _),HSTM.out,((HSM.out.lose (ZRow ib (g.items.length+2) (g.items.length+2) zs)).lose (big wholeOf ((bs.zip g.items).drop g.items.length))).to⟩
     case round=>
      clear HSM HSTM;obtain⟨q,zz,hq,rfl,hzz,hst,hs⟩:=hrel;have c1:=hs.facts;simp only [CellsAt,Nat.reduceAdd,and_true] at c1;rcases Nat.lt_or_ge q g.data.length with hlq | hgq
      · obtain⟨u,e0,e1,e2⟩:=by_cell (hs.pull1 (A1:=ByRow db g.data.length zz)) hzz.out hlq
        have E2:=hQ e2;have HSTQ:=hQ hst;clear hs hst e2;go_wp2;refine⟨⟨q+1,zz.set q (bits .xor .u8 u 1),by omega,congrArg (Value.int .i64) (by omega),hQ (by rw [List.length_set];exact hzz.out),HSTQ.out.setCell _ _,(OwnL.of1 (E2.out _)).to⟩,by simp [intOf];omega⟩
      · have hql:q=g.data.length:=by omega
        subst hql;have HSQ:=hQ hs;have HSTQ:=hQ hst;clear hs hst;go_wp2;go_ret;obtain⟨ll,wl,bk,wk⟩:=HOK.out;have hl2:=HEND.out.2.1;have hf:=HG.out _ ((HSQ.out.pull1 (A1:=G)).left);have hf2:=hf.join2 (Pr.own hp) F;exact⟨rfl,HSTQ.out,⟨s',H',rs',gs',fl,l',kv,ws,h,tv,xv,bs0⟩,⟨HEND.out.1,by show l'.length+k≤ _;omega,by show ws.length+k≤ _;omega,bk,wk⟩,HEND.out.2.2,hf2.to⟩
end Go.Proofs.YtpfafhklppondaaGreat.Dz
namespace Go.Proofs.YtpfafhklppondaaGreat.Kz
open ChangeShapes WideShapes ChangeAt RowKit Sl Cop M2 P3 X3 Q2 X2 J4 L4 E5 P4 X4 Q6 Y6 X7 Z7 K9 V9 Qy G5 E7 F7 Uy G7 J7 K7 Xy Az Bz Q9 K6 K4 Sy F6 Y3
theorem doX_any(wb v r k:Nat)(z:LawS)(ok:LOK z k)(kind N K pk pl nx:Int)(ai ad:Option Addr)(mi ci md cd:Nat)(hK: -9223372036854775808≤K∧K≤9223372036854775807)(hkd:kind≠0∧kind≠1∧kind≠2∧kind≠3∧kind≠4∧kind≠5∧kind≠6∧kind≠7∧kind≠8∧kind≠9∧kind≠10∧kind≠11∧kind≠12∧kind≠13∧kind≠14∧kind≠15)(F:Pr)(w:World)(hF:OwnL (lawL wb v r z [F]) w):
 Calls Tryz.prog 27 #[.pointer (some ⟨wb,0,none⟩),.agg #[.int .i64 kind,.int .i64 N,.int .i64 K,.int .i64 pk,.int .i64 pl,.slice ai mi ci,.slice ad md cd,.int .i64 nx]] w fun e w'=>e= .returned (.bool true)∧Stays w w'∧DoneH wb v r k F w':=by
 obtain⟨s,H,rs,gs,fl,l,kv,ws,h,tv,xv,bs⟩:=z;obtain⟨j,ll,wl,bk,wk⟩:=ok;dsimp only at j ll wl bk wk;have okp:=(vault_ok (hF.pull1 (A1:=VaultA v s))).1;have hs1:=hF.alloc (opC11 kind N K pk pl (.slice ai mi ci) (.slice ad md cd) nx);have HST:=hQ ((Stays.refl w).alloc (opC11 kind N K pk pl (.slice ai mi ci) (.slice ad md cd) nx));have c1:=hs1.facts;simp only [CellsAt,Nat.reduceAdd,and_true] at c1
 have HOK:=hQ (And.intro ll (And.intro wl (And.intro bk wk)));have HK:=hQ hK;clear hK;obtain⟨x,okx,hs2⟩:=vault_open (v:=v) (s:=s) hs1;clear c1;have c1:=hs2.facts;simp only [CellsAt,Nat.reduceAdd,and_true] at c1;obtain⟨yr,okr,hs3⟩:=refH_open (r:=r) (s:=rs) (gs:=gs) (fl:=fl) (l:=l) hs2;obtain⟨ac,cc,ecv⟩:=Row.shape (hs3.pull1 (A1:=IntsRow yr.cv rs.counts));clear c1;have c1:=hs3.facts
 simp only [CellsAt,Nat.reduceAdd,and_true] at c1;rw [ecv] at c1;have LA:=hQ (len_A x.p s.pool _ _ (hs3.drew.pull1 (A1:=PoolA x.p s.pool)));have RA:=hQ (refs_any x.p s.pool _ _ (hs3.drew.pull1 (A1:=PoolA x.p s.pool)));rw [← j.now.tw.cs] at LA;rw [← j.now.tw.rf] at RA;have hn2:(rs.counts.length:Int)≤65536:=by have:=okr.now.n2;omega
 have HS2:=hQ hs2;have HOX:=hQ okx;have HJ:=hQ j;obtain⟨k0,k1,k2,k3,k4,k5,k6,k7,k8,k9,k10,k11,k12,k13,k14,k15⟩:=hkd;clear hF hs1 hs2 hs3 j ll wl bk wk okp okx okr ecv;go_enter Tryz.func27,Tryz.ntmps27
 go_wp2_with fail
 refine wS 396 [0,1,2,3,4,5,6,8,9,10,11,12,13,14,15] [(7,[16,17,18,19,20,21,22,23,24,26,27,28,29,30,31,32],[0,1,2,3,4,5,8,9,10,11,12,13,14,15]),(25,[33,34,35],[0,1,2,3,4,5,8,9,10,11,12,13,14,16,18,19,20,21,22,23,26,27,28,29,30,31,32,15])] ?_;refine wpQ_cut [0,1,2,3,4,5,6,8,9,10,11,12,13,14] [15] ?_;refine wpQ_all _ rfl rfl ?_;simp only [pick,pQ];iterate 14 (go_big_quiet_step (fail))
 refine wpQuiet_nil ?_;refine wpQ_step rfl rfl (fun K hK=> ?_);go_simp;refine hK _ ?_;clear hK K;refine wpQ_nil ?_;refine wpRest_act rfl ?_;go_wp2_with fail
 refine LA.out.mono ?_;rintro e w1 ⟨rfl,rfl⟩;go_wp2;refine onN_mk ?_;refine wpQ_all _ rfl rfl ?_;simp only [pick,pQ];iterate 16 (go_big_quiet_step (fail))
 refine wpQuiet_nil ⟨?_,?_⟩
 · refine chk_cut [0,1,2,3,4,5,8,9,10,11,12,13,14] [15] ?_ (chk_cons (yieldF_of rfl rfl rfl rfl (by go_simp)) chk_nil)
   refine chk_all _ rfl rfl ?_;simp only [pick,Same,pQ,and_true];repeat' (first | apply And.intro | (go_big_quiet_step (fail);exact wpQuiet_nil rfl))
 refine wpRest_act rfl ?_;go_wp2_with fail
 refine RA.out.mono ?_;rintro e w1 ⟨rfl,rfl⟩;go_wp2;refine onN_mk ?_;refine wpQ_all _ rfl rfl ?_;simp only [pick,pQ];iterate 3 (go_big_quiet_step (fail))
 refine wpQuiet_nil ⟨?_,?_⟩
 · refine chk_cut [0,1,2,3,4,5,8,9,10,11,12,13,14,16,18,19,20,21,22,23,26,27,28,29,30,31,32] [15] ?_ (chk_cons (yieldF_of rfl rfl rfl rfl (by go_simp)) chk_nil)
   refine chk_all _ rfl rfl ?_;simp only [pick,Same,pQ,and_true];repeat' (first | apply And.intro | (go_big_quiet_step (fail);exact wpQuiet_nil rfl))
 refine wpRest_nil ?_;go_wp2;go_ret;obtain⟨ll,wl,bk,wk⟩:=HOK.out;exact⟨by simp,HST.out.drew,⟨s,H,rs,gs,fl,l,kv,ws,h,tv,xv,bs⟩,⟨HJ.out,ll,wl,bk,wk⟩,(vault_shut (v:=v) HOX.out HS2.out.drew).to⟩
end Go.Proofs.YtpfafhklppondaaGreat.Kz
namespace Go.Proofs.YtpfafhklppondaaGreat.Pz
open ChangeShapes WideShapes ChangeAt RowKit Sl Cop M2 P3 X3 Q2 X2 J4 L4 E5 P4 X4 Q6 Y6 X7 Z7 K9 V9 Qy G5 E7 F7 Uy G7 J7 K7 Xy Az Bz Q9 K6 K4
theorem run_store_func {P:Program}{w:World}{a:Addr}{m:Mode}(f:Fn)(x y:Array Value):(store a (.func f x y) m).run P w=stored P w a (.func f x y) m:=run_store P w a _ m rfl
attribute [local go_sem] run_store_func
end Go.Proofs.YtpfafhklppondaaGreat.Pz
