/- The law's do: kinds 0 and 1, and all kinds; the conditions stand as hypotheses. -/
import Derived.Test.YtbobcmimkonnoaaGreatVaultLoadsM43
import Derived.Test.YtbobcmimkonnoaaGreatVaultLoadsM44
import Derived.Test.YtbobcmimkonnoaaGreatVaultLoadsM46
import Derived.Test.YtbobcmimkonnoaaGreatVaultLoadsM45
import Derived.Test.YtbobcmimkonnoaaGreatVaultLoadsM38
import Derived.Test.YtbobcmimkonnoaaGreatVaultLoadsM42
import Derived.Lib.SmallJoins
import Derived.Test.YtbobcmimkonnoaaGreatVaultLoadsM17
import Derived.Test.YtbobcmimkonnoaaGreatVaultLoadsM07
import Derived.Test.YtbobcmimkonnoaaGreatVaultLoadsM20
import Derived.Test.YtbobcmimkonnoaaGreatVaultLoadsM01
set_option maxRecDepth 100000
set_option maxHeartbeats 16000000
namespace Go.Proofs.YtbobcmimkonnoaaGreat.Kz
open ChangeShapes WideShapes ChangeAt RowKit Sl Cop D2 M3 Q3 M2 N2 E4 G4 J4 K9 W6 Z6 Ry Sy Ty Y8 Vy Wy Xy Jz Yy Zy Az Bz Cz Dz Fz
theorem do01_any(wb v r k:Nat)(z:LawS)(ok:LOK z (k+1))(kind N K:Int)(hkd:kind=0∨kind=1)(g:PageV)(vi vd:Value)(hp:Hp)(hpg:PageIn hp (pageV g.kind g.level vi vd g.next) g)(hz:SzP g)(hu:∀x∈g.items,U8 x.key)(F:Pr)(w:World)(hF:OwnL (lawL wb v r z [Pr.own hp,F]) w):
 Calls Tryz.prog 10 #[.pointer (some ⟨wb,0,none⟩),.agg #[.int .i64 kind,.int .i64 N,.int .i64 K,.int .i64 g.kind,.int .i64 g.level,vi,vd,.int .i64 g.next]] w fun e w'=>e= .returned (.bool true)∧Stays w w'∧DoneH wb v r k ((Pr.own hp).star F) w':=by
 obtain⟨vi2,vd2,epv,hi,hdd⟩:=id hpg;simp only [pageV,Value.agg.injEq,Array.mk.injEq,List.cons.injEq,and_true,true_and] at epv;obtain⟨rfl,rfl⟩:=epv;obtain⟨ai,ci,rfl, -, -⟩:=items_rd hi;obtain⟨ad,cd,rfl⟩:=bytes_shape hdd;have hs1:=hF.alloc (opC11 kind N K g.kind g.level (.slice ai g.items.length ci) (.slice ad g.data.length cd) g.next)
 have HST:=hQ ((Stays.refl w).alloc (opC11 kind N K g.kind g.level (.slice ai g.items.length ci) (.slice ad g.data.length cd) g.next));have c1:=hs1.facts;simp only [CellsAt,Nat.reduceAdd,and_true] at c1;have hs2:=hs1.join2 (Pr.pts w.heap.size (opC11 kind N K g.kind g.level (.slice ai g.items.length ci) (.slice ad g.data.length cd) g.next)) F
 have WR:=hQ (write_any wb v r k z ok kind N K g _ _ hp hpg hz hu ((Pr.pts w.heap.size (opC11 kind N K g.kind g.level (.slice ai g.items.length ci) (.slice ad g.data.length cd) g.next)).star F) _ hs2.to);clear hF hs1 hs2 hi hdd hpg hz hu ok;rcases hkd with rfl | rfl
 all_goals
  go_enter Tryz.func10,Tryz.ntmps10
  go_wp2_with fail
  refine WR.out.mono ?_;rintro e w1 ⟨rfl,st1,hd⟩;have HD:=hQ hd;have HST1:=hQ (HST.out.trans st1);clear c1 hd st1 WR HST;go_wp2;go_ret;obtain⟨z',ok',hs⟩:=HD.out;have hs3:=hs.norm;have hs4:=hs3.join2 (Pr.own hp) F;exact⟨rfl,HST1.out,z',ok',hs4.to⟩
theorem do0_tell(wb v r k:Nat)(z:LawS)(ok:LOK z (k+1))(N K:Int)(g:PageV)(vi vd:Value)(hp:Hp)(hpg:PageIn hp (pageV g.kind g.level vi vd g.next) g)(hz:SzP g)(hu:∀x∈g.items,U8 x.key)(P:VaultS→Prop)(hP:∀a b s' H',QMake z.s z.H g a b s' H'→P s')(F:Pr)(w:World)(hF:OwnL (lawL wb v r z [Pr.own hp,F]) w):
 Calls Tryz.prog 10 #[.pointer (some ⟨wb,0,none⟩),.agg #[.int .i64 0,.int .i64 N,.int .i64 K,.int .i64 g.kind,.int .i64 g.level,vi,vd,.int .i64 g.next]] w fun e w'=>e= .returned (.bool true)∧Stays w w'∧DoneP wb v r k P ((Pr.own hp).star F) w':=by
 obtain⟨vi2,vd2,epv,hi,hdd⟩:=id hpg;simp only [pageV,Value.agg.injEq,Array.mk.injEq,List.cons.injEq,and_true,true_and] at epv;obtain⟨rfl,rfl⟩:=epv;obtain⟨ai,ci,rfl, -, -⟩:=items_rd hi;obtain⟨ad,cd,rfl⟩:=bytes_shape hdd;have hs1:=hF.alloc (opC11 0 N K g.kind g.level (.slice ai g.items.length ci) (.slice ad g.data.length cd) g.next)
 have HST:=hQ ((Stays.refl w).alloc (opC11 0 N K g.kind g.level (.slice ai g.items.length ci) (.slice ad g.data.length cd) g.next));have c1:=hs1.facts;simp only [CellsAt,Nat.reduceAdd,and_true] at c1;have hs2:=hs1.join2 (Pr.pts w.heap.size (opC11 0 N K g.kind g.level (.slice ai g.items.length ci) (.slice ad g.data.length cd) g.next)) F
 have WR:=hQ (write_tell wb v r k z ok 0 N K g _ _ hp hpg hz hu P (fun _=>hP) (fun h=>absurd rfl h) ((Pr.pts w.heap.size (opC11 0 N K g.kind g.level (.slice ai g.items.length ci) (.slice ad g.data.length cd) g.next)).star F) _ hs2.to);clear hF hs1 hs2 hi hdd hpg hz hu ok hP;go_enter Tryz.func10,Tryz.ntmps10
 go_wp2_with fail
 refine WR.out.mono ?_;rintro e w1 ⟨rfl,st1,hd⟩;have HD:=hQ hd;have HST1:=hQ (HST.out.trans st1);clear c1 hd st1 WR HST;go_wp2;go_ret;obtain⟨z',ok',hp',hs⟩:=HD.out;have hs3:=hs.norm;have hs4:=hs3.join2 (Pr.own hp) F;exact⟨rfl,HST1.out,z',ok',hp',hs4.to⟩
theorem ldo_any(wb v r k:Nat)(z:LawS)(ok:LOK z (k+1))(kind N K:Int)(hK: -9223372036854775808≤K∧K≤9223372036854775807)(g:PageV)(vi vd:Value)(hp:Hp)(hpg:PageIn hp (pageV g.kind g.level vi vd g.next) g)(hz:SzP g)(hu:∀x∈g.items,U8 x.key)(F:Pr)(w:World)(hF:OwnL (lawL wb v r z [Pr.own hp,F]) w):
 Calls Tryz.prog 10 #[.pointer (some ⟨wb,0,none⟩),.agg #[.int .i64 kind,.int .i64 N,.int .i64 K,.int .i64 g.kind,.int .i64 g.level,vi,vd,.int .i64 g.next]] w fun e w'=>e= .returned (.bool true)∧Stays w w'∧DoneH wb v r k ((Pr.own hp).star F) w':=by
 by_cases h01:kind=0∨kind=1
 · exact do01_any wb v r k z ok kind N K h01 g vi vd hp hpg hz hu F w hF
 obtain⟨vi2,vd2,epv,hi,hdd⟩:=id hpg;simp only [pageV,Value.agg.injEq,Array.mk.injEq,List.cons.injEq,and_true,true_and] at epv;obtain⟨rfl,rfl⟩:=epv;obtain⟨ai,ci,rfl, -, -⟩:=items_rd hi;obtain⟨ad,cd,rfl⟩:=bytes_shape hdd;have hs:OwnL (lawL wb v r z [(Pr.own hp).star F]) w:=(hF.join2 (Pr.own hp) F).to;have okk:=ok.le (Nat.le_succ k);by_cases h2:kind=2
 · exact do2_any wb v r k z ok kind N K _ _ _ _ _ _ _ _ _ hK h2 _ w hs
 by_cases h3:kind=3
 · exact do3_any wb v r k z ok kind N K _ _ _ _ _ _ _ _ _ hK h3 _ w hs
 by_cases h4:kind=4
 · exact do4_any wb v r k z ok kind N K _ _ _ _ _ _ _ _ _ hK h4 _ w hs
 by_cases h5:kind=5
 · exact do5_any wb v r k z ok kind N K _ _ _ _ _ _ _ _ _ hK h5 _ w hs
 by_cases h6:kind=6
 · exact do6_any wb v r k z okk kind N K _ _ _ _ _ _ _ _ _ hK h6 _ w hs
 by_cases h7:kind=7
 · exact do7_any wb v r k z okk kind N K _ _ _ _ _ _ _ _ _ hK h7 _ w hs
 by_cases h8:kind=8
 · exact do8_any wb v r k z okk kind N K _ _ _ _ _ _ _ _ _ hK h8 _ w hs
 by_cases h9:kind=9
 · exact do9_any wb v r k z okk kind N K _ _ _ _ _ _ _ _ _ hK h9 _ w hs
 by_cases h10:kind=10
 · exact do10_any wb v r k z okk kind N K _ _ _ _ _ _ _ _ _ hK h10 _ w hs
 by_cases h11:kind=11
 · exact do11_any wb v r k z okk kind N K _ _ _ _ _ _ _ _ _ hK h11 _ w hs
 by_cases h12:kind=12
 · exact do12_any wb v r k z okk kind N K _ _ _ _ _ _ _ _ _ hK h12 _ w hs
 by_cases h13:kind=13
 · exact do13_any wb v r k z ok kind N K _ _ _ _ _ _ _ _ _ hK h13 _ w hs
 by_cases h14:kind=14
 · exact do14_any wb v r k z ok kind N K _ _ _ _ _ _ _ _ _ hK h14 _ w hs
 by_cases h15:kind=15
 · exact do15_any wb v r k z okk kind N K _ _ _ _ _ _ _ _ _ hK h15 _ w hs
 exact doX_any wb v r k z okk kind N K _ _ _ _ _ _ _ _ _ hK (by omega) _ w hs
end Go.Proofs.YtbobcmimkonnoaaGreat.Kz
namespace Go.Proofs.YtbobcmimkonnoaaGreat.Lz
open ChangeShapes WideShapes ChangeAt RowKit Sl Cop D2 M3 Q3 M2 N2 E4 G4 Z4 J4 Y4 M7 Q7 K9 Ny W6 X6 Y6 Z6 B7 Ty Hz Xy Yy Zy Az Cz Kz
theorem all_any(wb v r k:Nat)(F:Pr)(w:World)(hF:DoneH wb v r k F w):
 Calls Tryz.prog 11 #[.pointer (some ⟨wb,0,none⟩)] w fun e w'=>e= .returned (.bool true)∧Stays w w'∧DoneH wb v r k F w':=by
 have H0:=hQ hF;clear hF;go_enter Tryz.func11,Tryz.ntmps11
 go_wp2_with fail
 go_loopw [3] (fun i wr=> ∃i0:Int, -1≤i0∧i0≤65538∧i= .int .i64 i0∧Stays w wr∧Hid (DoneH wb v r k F wr)) (fun i _=>(65540-intOf i).toNat)
 case atStart=>exact⟨-1,by omega,by omega,rfl,Stays.refl w,H0⟩
 case round=>
  clear H0;obtain⟨i0,hi1,hi2,rfl,hst,hd⟩:=hrel;obtain⟨z,ok,hs⟩:=hd.out;obtain⟨yr,okr,hs2⟩:=refH_open (r:=r) (s:=z.rs) (gs:=z.gs) (fl:=z.fl) (l:=z.l) hs;obtain⟨ac,cc,ecv⟩:=Row.shape (hs2.pull1 (A1:=IntsRow yr.cv z.rs.counts));have c1:=hs2.facts;simp only [CellsAt,Nat.reduceAdd,and_true] at c1;rw [ecv] at c1;have hn2:(z.rs.counts.length:Int)≤65536:=by have:=okr.now.n2;omega
  by_cases hle:i0≤(z.rs.counts.length:Int)+1
  · have D6:=hQ (do6_any wb v r k z ok 6 i0 0 0 0 0 none none 0 0 0 0 (by omega) rfl F wr hs)
    generalize z.rs.counts.length=nc at*;have HST:=hQ hst;clear hd ok hs okr hs2 ecv hst;go_wp2_with fail
    refine D6.out.mono ?_;rintro e w1 ⟨rfl,st1,z1,ok1,hs1⟩;have HST1:=hQ (HST.out.trans st1);have D7:=hQ (do7_any wb v r k z1 ok1 7 i0 0 0 0 0 none none 0 0 0 0 (by omega) rfl F w1 hs1);clear c1 st1 ok1 hs1 D6 HST;go_wp2_with fail
    refine D7.out.mono ?_;rintro e w2 ⟨rfl,st2,z2,ok2,hs2⟩;have HST2:=hQ (HST1.out.trans st2);have D8:=hQ (do8_any wb v r k z2 ok2 8 i0 0 0 0 0 none none 0 0 0 0 (by omega) rfl F w2 hs2);clear st2 ok2 hs2 D7 HST1;go_wp2_with fail
    refine D8.out.mono ?_;rintro e w3 ⟨rfl,st3,hd3⟩;have HST3:=hQ (HST2.out.trans st3);have HD3:=hQ hd3;clear st3 hd3 D8 HST2;go_wp2;exact⟨⟨i0+1,by omega,by omega,rfl,HST3.out,HD3⟩,by simp [intOf];omega⟩
  · have hle2:decide (i0≤(z.rs.counts.length:Int)+1)=false:=decide_eq_false hle
    generalize z.rs.counts.length=nc at*;have HST:=hQ hst;have HS:=hQ (And.intro ok hs);clear hd ok hs okr hs2 ecv hst;go_wp2_with fail
    clear c1 hle2 hle hn2;obtain⟨ok,hs⟩:=HS.out;clear HS;obtain⟨s,H,rs,gs,fl,l,kv,ws,h,tv,xv,bs⟩:=z;obtain⟨j,ll,wl,bk,wk⟩:=ok;dsimp only at j ll wl bk wk;obtain⟨nw,hnw⟩:∃nw,ws.length=nw:=⟨_,rfl⟩;obtain⟨ak,ck,ekv⟩:=Row.shape (hs.pull1 (A1:=WksRow kv ws));subst ekv;have hw63:(nw:Int)≤1048576:=by omega
    rw [hnw] at hs;have HNW:=hQ hnw;have HJ:=hQ (And.intro j (And.intro ll (And.intro wl wk)));have HBK:=hQ bk;have HS:=hQ hs;clear j ll wl bk wk hnw hs
    go_loopw [5] (fun i wr=> ∃(p:Nat) (tv xv:Value) (bs:List BkE),p≤nw∧i= .int .i64 p∧Stays w wr∧Hid (BOk h ⟨tv,xv,bs⟩)∧
     OwnL [VaultA v s,RefH r rs gs fl l,workO wb v r (.slice ak nw ck) tv xv,BRest tv xv bs,Row 106 2 (.slice ak nw ck) nw (ws.flatMap wkCells),Pr.own h,F] wr) (fun i _=>nw-(intOf i).toNat)
    case atStart=>
     have h1:OwnL [VaultA v s,RefH r rs gs fl l,workO wb v r (.slice ak nw ck) tv xv,BRest tv xv bs,Row 106 2 (.slice ak nw ck) ws.length (ws.flatMap wkCells),Pr.own h,F] wr:=HS.out;rw [HNW.out] at h1;exact⟨0,tv,xv,bs,Nat.zero_le _,rfl,HST.out,HBK,h1.to⟩
    case round=>
     clear HS HBK HST;obtain⟨p,tv,xv,bs,hp,rfl,hst,hbk,hs⟩:=hrel;have c1:=hs.facts;simp only [CellsAt,Nat.reduceAdd,and_true] at c1;rcases Nat.lt_or_ge p nw with hlt | hge
     · have hpw:p<ws.length:=by have:=HNW.out;omega
       have hwk:=HJ.out.2.2.2 ws[p] (List.getElem_mem hpw)
       have hb:∃b,ak=some ⟨b,0,none⟩:=by
        obtain⟨_,_,e3,_,hc⟩:=Row.read (hs.pull1 (A1:=Row 106 2 (.slice ak nw ck) nw (ws.flatMap wkCells)));cases e3;obtain⟨b,e,_⟩:=hc (by omega);exact⟨b,e⟩
       obtain⟨b,rfl⟩:=hb
       have WRD:=hQ (show ∀(wx:World) (Fx:Pr),Sat ((Row 106 2 (.slice (some ⟨b,0,none⟩) nw ck) nw (ws.flatMap wkCells)).star Fx) wx→wx.cell? ⟨b,p*2,none⟩=some ws[p].fv∧wx.cell? ⟨b,p*2+1,none⟩=some ws[p].wv from fun wx Fx hx=>by
        obtain⟨_,_,e3,_,hc⟩:=Row.read hx
        cases e3
        obtain⟨b',eb,hd⟩:=hc (by omega)
        cases eb
        exact⟨(hd (p*2) (by omega)).1.trans (flat_at wkCells 2 (fun _=>rfl) ws p 0 hpw (by omega)),(hd (p*2+1) (by omega)).1.trans (flat_at wkCells 2 (fun _=>rfl) ws p 1 hpw (by omega))⟩)
       generalize ws[p]=E at*;obtain⟨fv,wv,L⟩:=E;obtain⟨hwalk,hwn,hfit,hlen⟩:=hwk;dsimp only at hwalk hwn hfit hlen;obtain⟨al,cl,e2, -⟩:=nums_rd hwn;subst e2;have hwalk2:=hwalk;obtain⟨lb,lv0,e1, -, -⟩:=hwalk2;subst e1;obtain⟨f2,f3⟩:=WRD.out _ _ (hs.pull1 (A1:=Row 106 2 (.slice (some ⟨b,0,none⟩) nw ck) nw (ws.flatMap wkCells)));try dsimp only at f2 f3
       have zb:=World.block_lt_of_cell? _ _ f2;have hs3:=book_close (h:=h) (wb:=wb) (v:=v) (r:=r) (kv:= .slice (some ⟨b,0,none⟩) nw ck) (tv:=tv) (xv:=xv) (bs:=bs) hbk.out hs.drew;have GO:=hQ (goes_any wb v r (.slice (some ⟨b,0,none⟩) nw ck) h _ (.slice al L.length cl) L hwalk hwn hfit hlen 1048576 _ _ (hs3.pull2 (A1:=BookE wb v r (.slice (some ⟨b,0,none⟩) nw ck) h) (A2:=Pr.own h)))
       have HST:=hQ hst;clear hs hs3 hst hwalk hwn hfit hlen hbk;go_wp2_with fail
       refine wS 91 [0,1,2,3,4,5,6,7,8,9,10,11,12,13,14,15,16] [(17,[18],[1,2,3,4,5,6,7,9,10,11,12,13,14,15])] ?_;refine wpQ_all _ rfl rfl ?_;simp only [pick,pQ];iterate 17 (go_big_quiet_step (fail))
       refine wpQuiet_nil ?_;refine wpRest_act rfl ?_;go_wp2_with fail
       refine GO.out.mono ?_;rintro e w1 ⟨rfl,st1,hs4⟩;obtain⟨tv1,xv1,bs1,bk1,hs5⟩:=book_open (wb:=wb) (v:=v) (r:=r) (kv:= .slice (some ⟨b,0,none⟩) nw ck) (h:=h) (OwnL.of2 hs4);have HST1:=hQ (HST.out.drew.trans st1);clear c1 f2 f3 zb GO HST;have c1:=hs5.facts;simp only [CellsAt,Nat.reduceAdd,and_true] at c1
       obtain⟨f2,f3⟩:=WRD.out _ _ (hs5.pull1 (A1:=Row 106 2 (.slice (some ⟨b,0,none⟩) nw ck) nw (ws.flatMap wkCells)));try dsimp only at f2 f3
       have zb:=World.block_lt_of_cell? _ _ f2;have HS5:=hQ hs5;have HBK1:=hQ bk1;clear hs4 hs5 st1 bk1 WRD;go_wp2;refine onN_mk ?_;refine wpQ_all _ rfl rfl ?_;simp only [pick,pQ];iterate 1 (go_big_quiet_step (fail))
       refine wpQuiet_nil ⟨?_,?_⟩
       · exact cQ
       refine wpRest_nil ?_;go_wp2;exact⟨⟨p+1,tv1,xv1,bs1,by omega,congrArg (Value.int .i64) (by omega),HST1.out,HBK1,HS5.out.to⟩,by simp [intOf];omega⟩
     · have hpn:p=nw:=by omega
       subst hpn
       have HD:=hQ (show DoneH wb v r k F wr from⟨⟨s,H,rs,gs,fl,l,.slice ak p ck,ws,h,tv,xv,bs⟩,⟨HJ.out.1,HJ.out.2.1,HJ.out.2.2.1,hbk.out,HJ.out.2.2.2⟩,by
        have h1:=hs
        show OwnL [VaultA v s,RefH r rs gs fl l,workO wb v r (.slice ak p ck) tv xv,BRest tv xv bs,Row 106 2 (.slice ak p ck) ws.length (ws.flatMap wkCells),Pr.own h,F] wr
        rw [HNW.out]
        exact h1⟩)
       have HSTW:=hQ hst;clear hs hst hbk HJ HNW;go_wp2_with fail
       clear c1;go_loopw [7] (fun i wr=> ∃q:Nat,q≤6∧i= .int .i64 q∧Stays w wr∧Hid (DoneH wb v r k F wr)) (fun i _=>6-(intOf i).toNat)
       case atStart=>exact⟨0,by omega,rfl,HSTW.out,HD⟩
       case round=>
        clear HSTW HD;obtain⟨q,hq,rfl,hst,hd⟩:=hrel;obtain⟨z,ok,hs⟩:=hd.out;rcases Nat.lt_or_ge q 6 with hl6 | hg6
        · have D10:=hQ (do10_any wb v r k z ok 10 q 1048576 0 0 0 none none 0 0 0 0 (by omega) rfl F wr hs)
          have hq6:(q:Int)<6:=by omega
          have HST:=hQ hst;clear hs hst ok hd;go_wp2_with fail
          refine D10.out.mono ?_;rintro e w1 ⟨rfl,st1,hd1⟩;have HST1:=hQ (HST.out.trans st1);have HD1:=hQ hd1;clear st1 hd1 D10 HST;go_wp2;exact⟨⟨q+1,by omega,congrArg (Value.int .i64) (by omega),HST1.out,HD1⟩,by simp [intOf];omega⟩
        · have hq6:q=6:=by omega
          subst hq6;have D9:=hQ (do9_any wb v r k z ok 9 0 0 0 0 0 none none 0 0 0 0 (by omega) rfl F wr hs);have HST:=hQ hst;clear hs hst ok hd;go_wp2_with fail
          refine D9.out.mono ?_;rintro e w1 ⟨rfl,st1,z1,ok1,hs1⟩;have HST1:=hQ (HST.out.trans st1);have DX:=hQ (doX_any wb v r k z1 ok1 99 0 0 0 0 0 none none 0 0 0 0 (by omega) (by omega) F w1 hs1);clear st1 ok1 hs1 D9 HST;go_wp2_with fail
          refine DX.out.mono ?_;rintro e w2 ⟨rfl,st2,z2,ok2,hs2⟩;have HST2:=hQ (HST1.out.trans st2);have BK:=hQ (book_any wb v r k z2 ok2 F w2 hs2);clear st2 ok2 hs2 DX HST1;go_wp2_with fail
          refine BK.out.mono ?_;rintro e w3 ⟨rfl,st3,hd3⟩;have HST3:=hQ (HST2.out.trans st3);have HD3:=hQ hd3;clear st3 hd3 BK HST2;go_wp2;go_ret;exact⟨rfl,HST3.out,HD3.out⟩
end Go.Proofs.YtbobcmimkonnoaaGreat.Lz
namespace Go.Proofs.YtbobcmimkonnoaaGreat.Mz
open F6 Z4 ChangeShapes WideShapes ChangeAt RowKit Sl Cop D2 M3 Q3 D4 M2 N2 E4 G4 X4 J4 L6 P6 K9 Ry Sy Z6 Ty Y8 G8 Vy Wy Kz Gz Lz Ny
abbrev cO(c:Int):Obj:= .cells #[.int .u8 c] 5 (1,2)
abbrev iO(N:Nat):Obj:= .cells #[.slice (some ⟨N,0,none⟩) 1 1,.slice none 0 0,.int .i64 0,.int .i64 0] 58
abbrev jO(N:Nat):Obj:= .cells #[.slice none 0 0,.slice none 0 0,.int .i64 1,.int .i64 0,.slice (some ⟨N,0,none⟩) 1 1,.slice none 0 0,.int .i64 2,.int .i64 0] 58
theorem const_in {N:Nat}{c:Int}{h:Hp}(ha:Pr.pts N (cO c) h):Bytes h (.slice (some ⟨N,0,none⟩) 1 1) [c]:=
 ⟨by simp,_,_,rfl,Nat.le_refl _,by simp [maxLen],fun _=>⟨_,_,rfl,fun i hi=>by
   have:i=0:=by simp at hi;omega
   subst this
   show h.cell _ _=_
   rw [ha]
   simp [Hp.cell]⟩⟩
theorem leaf_in {N M:Nat}{c:Int}{h:Hp}(hh:((Pr.pts N (cO c)).star (Pr.pts M (iO N))) h):PageIn h (pageV 1 0 (.slice (some ⟨M,0,none⟩) 1 1) (.slice none 0 0) 0) (leafG c):=by
 obtain⟨a,b,ha,hb,s1,s2⟩:=star_sub hh;refine⟨_,_,rfl,items_mk' [(.slice (some ⟨N,0,none⟩) 1 1,.slice none 0 0)] rfl ((pts_rowIn (xs:= [.slice (some ⟨N,0,none⟩) 1 1,.slice none 0 0,.int .i64 0,.int .i64 0]) hb rfl rfl (by simp [maxLen])).sub s2) fun i hx hl=> ?_,RowIn.nil _ _⟩;have:i=0:=by simp at hx;omega
 subst this;exact⟨(const_in ha).sub s1,RowIn.nil _ _⟩
theorem index_in {N M:Nat}{h:Hp}(hh:((Pr.pts N (cO 109)).star (Pr.pts M (jO N))) h):PageIn h (pageV 2 1 (.slice (some ⟨M,0,none⟩) 2 2) (.slice none 0 0) 0) indexG:=by
 obtain⟨a,b,ha,hb,s1,s2⟩:=star_sub hh;refine⟨_,_,rfl,items_mk' [(.slice none 0 0,.slice none 0 0),(.slice (some ⟨N,0,none⟩) 1 1,.slice none 0 0)] rfl ((pts_rowIn (xs:= [.slice none 0 0,.slice none 0 0,.int .i64 1,.int .i64 0,.slice (some ⟨N,0,none⟩) 1 1,.slice none 0 0,.int .i64 2,.int .i64 0]) hb rfl rfl (by simp [maxLen])).sub s2) fun i hx hl=> ?_,RowIn.nil _ _⟩;have:i=0∨i=1:=by simp at hx;omega
 rcases this with rfl | rfl
 · exact⟨RowIn.nil _ _,RowIn.nil _ _⟩
 · exact⟨(const_in ha).sub s1,RowIn.nil _ _⟩
section
variable(wb v r k:Nat)(z:LawS)
theorem law_pack {T:List Pr}{w:World}(h:OwnL (lawL wb v r z T) w):OwnL (lawL wb v r z [starL T]) w:=⟨h.sat.perm (by simp only [starL,Pr.star_emp])⟩
theorem law_pack1 {A:Pr}{T:List Pr}{w:World}(h:OwnL (lawL wb v r z (A :: T)) w):OwnL (lawL wb v r z [A,starL T]) w:=⟨h.sat.perm (by simp only [starL,Pr.star_emp])⟩
theorem law_open {T:List Pr}{w:World}(h:OwnL (lawL wb v r z [starL T]) w):OwnL (lawL wb v r z T) w:=⟨h.sat.perm (by simp only [starL,Pr.star_emp])⟩
def DoneT(P:VaultS→Prop)(T:List Pr)(w:World):Prop:= ∃z,LOK z k∧P z.s∧OwnL (lawL wb v r z T) w
theorem doneT_of {P:VaultS→Prop}{T:List Pr}{w:World}(h:DoneP wb v r k P (starL T) w):DoneT wb v r k P T w:=by
 obtain⟨z,ok,hp,hs⟩:=h;exact⟨z,ok,hp,law_open _ _ _ _ hs⟩
theorem call_make(ok:LOK z (k+1))(g:PageV)(vi vd:Value)(hp:Hp)(hpg:PageIn hp (pageV g.kind g.level vi vd g.next) g)(hz:SzP g)(hu:∀x∈g.items,U8 x.key)(P:VaultS→Prop)(hP:∀a b s' H',QMake z.s z.H g a b s' H'→P s')(T:List Pr)(w:World)(hs:OwnL (lawL wb v r z (Pr.own hp :: T)) w):
 Calls Tryz.prog 10 #[.pointer (some ⟨wb,0,none⟩),.agg #[.int .i64 0,.int .i64 0,.int .i64 0,.int .i64 g.kind,.int .i64 g.level,vi,vd,.int .i64 g.next]] w fun e w'=>e= .returned (.bool true)∧Stays w w'∧DoneT wb v r k P (Pr.own hp :: T) w':=by
 refine(do0_tell wb v r k z ok 0 0 g vi vd hp hpg hz hu P hP (starL T) w (law_pack1 _ _ _ _ hs)).mono ?_;rintro e w' ⟨h1,h2,h3⟩;exact⟨h1,h2,doneT_of wb v r k (T:=Pr.own hp :: T) h3⟩
theorem call_keep(ok:LOK z (k+1))(n:Int)(P:VaultS→Prop)(hP:∀b s' H',QKeep z.s z.H n b s' H'→P s')(T:List Pr)(w:World)(hs:OwnL (lawL wb v r z T) w):
 Calls Tryz.prog 10 #[.pointer (some ⟨wb,0,none⟩),.agg #[.int .i64 4,.int .i64 n,.int .i64 0,.int .i64 0,.int .i64 0,.slice none 0 0,.slice none 0 0,.int .i64 0]] w fun e w'=>e= .returned (.bool true)∧Stays w w'∧DoneT wb v r k P T w':=by
 refine(do4_tell wb v r k z ok 4 n 0 0 0 0 none none 0 0 0 0 (by omega) rfl P hP (starL T) w (law_pack _ _ _ _ hs)).mono ?_;rintro e w' ⟨h1,h2,h3⟩;exact⟨h1,h2,doneT_of wb v r k h3⟩
theorem call_shadow(ok:LOK z (k+1))(n:Int)(P:VaultS→Prop)(hP:∀a b s' H',QShadow z.s z.H n a b s' H'→P s')(T:List Pr)(w:World)(hs:OwnL (lawL wb v r z T) w):
 Calls Tryz.prog 10 #[.pointer (some ⟨wb,0,none⟩),.agg #[.int .i64 2,.int .i64 n,.int .i64 0,.int .i64 0,.int .i64 0,.slice none 0 0,.slice none 0 0,.int .i64 0]] w fun e w'=>e= .returned (.bool true)∧Stays w w'∧DoneT wb v r k P T w':=by
 refine(do2_tell wb v r k z ok 2 n 0 0 0 0 none none 0 0 0 0 (by omega) rfl P hP (starL T) w (law_pack _ _ _ _ hs)).mono ?_;rintro e w' ⟨h1,h2,h3⟩;exact⟨h1,h2,doneT_of wb v r k h3⟩
end
theorem lives_any(F:Pr)(w:World)(hF:Sat F w):
 Calls Tryz.prog 8 #[] w fun e w'=>e= .returned (.bool true)∧Stays w w'∧Sat F w':=by
 have B:=hQ (begin_any 6 3 (by decide) 1000 (by omega) F w hF);clear hF;go_enter Tryz.func8,Tryz.ntmps8
 go_wp2_with fail
 refine B.out.mono ?_;rintro e w1 ⟨st1,wb,v,r,rfl,ok,hs⟩;obtain⟨N,hN⟩:∃N,w1.heap.size=N:=⟨_,rfl⟩;obtain⟨wA,hwA⟩:∃wA,wA=((w1.alloc (cO 97)).alloc (iO N)).alloc (pageC 1 0 (.slice (some ⟨N+1,0,none⟩) 1 1) (.slice none 0 0) 0):=⟨_,rfl⟩;obtain⟨wB,hwB⟩:∃wB,wB=((wA.alloc (cO 112)).alloc (iO (N+1+1+1))).alloc (pageC 1 0 (.slice (some ⟨N+1+1+1+1,0,none⟩) 1 1) (.slice none 0 0) 0):=⟨_,rfl⟩
 obtain⟨wC,hwC⟩:∃wC,wC=((wB.alloc (cO 109)).alloc (jO (N+1+1+1+1+1+1))).alloc (pageC 2 1 (.slice (some ⟨N+1+1+1+1+1+1+1,0,none⟩) 2 2) (.slice none 0 0) 0):=⟨_,rfl⟩;have sA:wA.heap.size=N+1+1+1:=by rw [hwA, ← hN];simp
 have sB:wB.heap.size=N+1+1+1+1+1+1:=by rw [hwB, ← sA];simp
 have hcvA:=Go.Joins.run_convert_bytes_const_at (P:=Tryz.prog) w1 29 5 #[.int .u8 97] 1 1 N hN.symm Tryz.underlying29 Tryz.underlying5;have hcvB:=Go.Joins.run_convert_bytes_const_at (P:=Tryz.prog) wA 29 5 #[.int .u8 112] 1 1 (N+1+1+1) sA.symm Tryz.underlying29 Tryz.underlying5
 have hcvC:=Go.Joins.run_convert_bytes_const_at (P:=Tryz.prog) wB 29 5 #[.int .u8 109] 1 1 (N+1+1+1+1+1+1) sB.symm Tryz.underlying29 Tryz.underlying5;have es:∀(u:World) (o:Obj),(u.alloc o).heap.size=u.heap.size+1:=fun u o=>by simp
 have h3:=((hs.alloc (cO 97)).alloc (iO N)).alloc (pageC 1 0 (.slice (some ⟨N+1,0,none⟩) 1 1) (.slice none 0 0) 0);simp only [es,hN] at h3;rw [← hwA] at h3;have h6:=((h3.alloc (cO 112)).alloc (iO (N+1+1+1))).alloc (pageC 1 0 (.slice (some ⟨N+1+1+1+1,0,none⟩) 1 1) (.slice none 0 0) 0);simp only [es,sA] at h6;rw [← hwB] at h6
 have h9:=((h6.alloc (cO 109)).alloc (jO (N+1+1+1+1+1+1))).alloc (pageC 2 1 (.slice (some ⟨N+1+1+1+1+1+1+1,0,none⟩) 2 2) (.slice none 0 0) 0);simp only [es,sB] at h9;rw [← hwC] at h9
 have stC:Stays w wC:=by
  rw [hwC,hwB,hwA];exact(((((((((st1.alloc _).alloc _).alloc _).alloc _).alloc _).alloc _).alloc _).alloc _).alloc _)
 have HST:=hQ stC;have HOK:=hQ ok;have HS:=hQ h9;rw [hwB,hwA] at hwC;rw [hwB,hwA] at hcvC;rw [hwA] at hcvB;have c1:=h9.facts;simp only [CellsAt,Nat.reduceAdd,and_true] at c1;rw [hwC] at c1;have HWC:=hQ hwC;clear h3 h6 h9 hs ok stC st1 B es hwC hwB hwA sA sB;go_wp2_with fail
 rw [← HWC.out];have hs0:=HS.out;obtain⟨hA,haA,hs1⟩:=(hs0.join2 (Pr.pts N (cO 97)) (Pr.pts (N+1) (iO N))).arena ((Pr.pts N (cO 97)).star (Pr.pts (N+1) (iO N)));obtain⟨hB,haB,hs2⟩:=(hs1.join2 (Pr.pts (N+1+1+1) (cO 112)) (Pr.pts (N+1+1+1+1) (iO (N+1+1+1)))).arena ((Pr.pts (N+1+1+1) (cO 112)).star (Pr.pts (N+1+1+1+1) (iO (N+1+1+1))))
 obtain⟨hC,haC,hs3⟩:=(hs2.join2 (Pr.pts (N+1+1+1+1+1+1) (cO 109)) (Pr.pts (N+1+1+1+1+1+1+1) (jO (N+1+1+1+1+1+1)))).arena ((Pr.pts (N+1+1+1+1+1+1) (cO 109)).star (Pr.pts (N+1+1+1+1+1+1+1) (jO (N+1+1+1+1+1+1))));have PB:=hQ (leaf_in haB);have PC:=hQ (index_in haC)
 have hs4:OwnL (lawL wb v r (zNew 3 6) [Pr.own hA,Pr.own hB,Pr.own hC,Pr.pts (N+1+1+1+1+1) (pageC 1 0 (.slice (some ⟨N+1+1+1+1,0,none⟩) 1 1) (.slice none 0 0) 0),Pr.pts (N+1+1+1+1+1+1+1+1) (pageC 2 1 (.slice (some ⟨N+1+1+1+1+1+1+1,0,none⟩) 2 2) (.slice none 0 0) 0),F]) wC:=hs3.to;generalize N+1+1+1+1+1+1+1+1=N8 at*;generalize N+1+1+1+1+1+1+1=N7 at*;generalize N+1+1+1+1+1=N5 at*
 generalize N+1+1+1+1=N4 at*;generalize N+1=N1 at*;have C1:=hQ (call_make wb v r 999 (zNew 3 6) HOK.out (leafG 97) _ _ hA (leaf_in haA) (sz_leaf 97) u8_a (fun s=>LiveS s [1,0,0,0,0,0]) (fun a b s' H' hq=>(live_make live_zero check_a (i:=0) (by omega) rfl (fun j hj=>absurd hj (by omega)) hq).1) _ _ hs4);clear hs0 hs1 hs2 hs3 hs4 haA haB haC HOK HS hcvA hcvB hcvC c1 HWC;refine C1.out.mono ?_
 rintro e w2 ⟨rfl,st2,z1,ok1,p1,hs5⟩;have HST2:=hQ (HST.out.trans st2);have c1:=hs5.facts;simp only [CellsAt,Nat.reduceAdd,and_true] at c1
 have C2:=hQ (call_make wb v r 998 z1 ok1 (leafG 112) _ _ hB PB.out (sz_leaf 112) u8_p (fun s=>LiveS s [1,1,0,0,0,0]) (fun a b s' H' hq=>(live_make p1 check_p (i:=1) (by omega) rfl (fun j hj=>by
  obtain rfl:j=0:=by omega
  decide) hq).1) [Pr.own hA,Pr.own hC,Pr.pts N5 (pageC 1 0 (.slice (some ⟨N4,0,none⟩) 1 1) (.slice none 0 0) 0),Pr.pts N8 (pageC 2 1 (.slice (some ⟨N7,0,none⟩) 2 2) (.slice none 0 0) 0),F] _ hs5.to)
 clear st2 ok1 p1 hs5 C1 HST PB;go_wp2_with fail
 refine C2.out.mono ?_;rintro e w3 ⟨rfl,st3,z2,ok2,p2,hs6⟩;have HST3:=hQ (HST2.out.trans st3);clear c1;have c1:=hs6.facts;simp only [CellsAt,Nat.reduceAdd,and_true] at c1
 have C3:=hQ (call_make wb v r 997 z2 ok2 indexG _ _ hC PC.out sz_index u8_i (fun s=>LiveS s [1,1,1,0,0,0]∧s.on 3=some indexG) (fun a b s' H' hq=>by
  obtain⟨g1,g2⟩:=live_make p2 check_i (i:=2) (by omega) rfl (fun j hj=>by
   have:j=0∨j=1:=by omega
   rcases this with rfl | rfl<;>decide) hq
  exact⟨g1,(g2 3).trans (if_pos rfl)⟩) [Pr.own hA,Pr.own hB,Pr.pts N5 (pageC 1 0 (.slice (some ⟨N4,0,none⟩) 1 1) (.slice none 0 0) 0),Pr.pts N8 (pageC 2 1 (.slice (some ⟨N7,0,none⟩) 2 2) (.slice none 0 0) 0),F] _ hs6.to)
 clear st3 ok2 p2 hs6 C2 HST2 PC;go_wp2_with fail
 refine C3.out.mono ?_;rintro e w4 ⟨rfl,st4,z3,ok3,⟨p3,q3⟩,hs7⟩;have HST4:=hQ (HST3.out.trans st4)
 have C4:=hQ (call_keep wb v r 996 z3 ok3 3 (fun s=>LiveS s [1,1,2,0,0,0]∧s.on 3=some indexG) (fun b s' H' hq=>by
  obtain⟨g1,g2⟩:=live_keep p3 (i:=2) (by omega) (by decide) (by decide) hq
  exact⟨g1,(g2 3).trans q3⟩) [F] _ hs7.to)
 clear c1 st4 ok3 p3 q3 hs7 C3 HST3;go_wp2_with fail
 refine C4.out.mono ?_;rintro e w5 ⟨rfl,st5,z4,ok4,⟨p4,q4⟩,hs8⟩;have HST5:=hQ (HST4.out.trans st5);have C5:=hQ (call_shadow wb v r 995 z4 ok4 3 (fun s=>LiveS s [2,2,1,1,0,0]) (fun a b s' H' hq=>live_shadow p4 q4 kids_i hq) [F] _ hs8);clear st5 ok4 p4 q4 hs8 C4 HST4;go_wp2_with fail
 refine C5.out.mono ?_;rintro e w6 ⟨rfl,st6,z5,ok5,p5,hs9⟩;have HST6:=hQ (HST5.out.trans st6);obtain⟨x,okx,hs10⟩:=vault_open (v:=v) (s:=z5.s) hs9;have c1:=hs10.facts;simp only [CellsAt,Nat.reduceAdd,and_true] at c1;have M1:=hQ (count_A x.p z5.s.pool 1 _ _ (hs10.pull1 (A1:=PoolA x.p z5.s.pool)));have M4:=hQ (count_A x.p z5.s.pool 4 _ _ (hs10.pull1 (A1:=PoolA x.p z5.s.pool)))
 rw [show z5.s.pool.count 1=2 from p5.count (i:=0) (by omega)] at M1;rw [show z5.s.pool.count 4=1 from p5.count (i:=3) (by omega)] at M4;have A:=hQ (all_any wb v r 995 F w6 ⟨z5,ok5,hs9⟩);clear st6 ok5 p5 hs9 hs10 okx C5 HST5;go_wp2_with fail
 refine M1.out.mono ?_;rintro e w7 ⟨rfl,rfl⟩;go_wp2_with fail
 refine M4.out.mono ?_;rintro e w7 ⟨rfl,rfl⟩;clear c1;go_wp2_with fail
 refine A.out.mono ?_;rintro e w7 ⟨rfl,st7,z6,ok6,hs11⟩;have HST7:=hQ (HST6.out.trans st7);have HF:=hQ (hs11.end1 (A1:=F));clear st7 ok6 hs11 A M1 M4;go_wp2;go_ret;exact⟨rfl,HST7.out,HF.out⟩
end Go.Proofs.YtbobcmimkonnoaaGreat.Mz
namespace Go.Proofs.YtbobcmimkonnoaaGreat.Nz
open ChangeShapes WideShapes ChangeAt RowKit Sl Cop M3 M2 N2 E4 G4 J4 P5 M6 K9 Z6 Ty Y8 Kz Gz Lz Mz X2 N6 F6 U7
structure OpPFits(o:OpP):Prop where
 k: -9223372036854775808≤o.k∧o.k≤9223372036854775807
 z:SzP o.g
 u:∀x∈o.g.items,U8 x.key
theorem do_at(wb v r k:Nat)(hp:Hp)(F:Pr)(w:World)(hd:DoneH wb v r (k+1) ((Pr.own hp).star F) w)(o:OpP)(vi vd:Value)(hb:OpPB hp o (vi,vd))(hf:OpPFits o):
 Calls Tryz.prog 10 #[.pointer (some ⟨wb,0,none⟩),.agg #[.int .i64 o.kind,.int .i64 o.n,.int .i64 o.k,.int .i64 o.g.kind,.int .i64 o.g.level,vi,vd,.int .i64 o.g.next]] w fun e w'=>e= .returned (.bool true)∧Stays w w'∧DoneH wb v r k ((Pr.own hp).star F) w':=by
 obtain⟨z,ok,hs⟩:=hd;exact ldo_any wb v r k z ok o.kind o.n o.k hf.k o.g vi vd hp ⟨vi,vd,rfl,hb.1,hb.2⟩ hf.z hf.u F w hs.norm
theorem done_own {wb v r k:Nat}{hp:Hp}{F:Pr}{w:World}(hd:DoneH wb v r k ((Pr.own hp).star F) w):hp.le w:=by
 obtain⟨z,ok,hs⟩:=hd;exact(hs.pull1 (A1:=(Pr.own hp).star F)).left.own
theorem done_sat {wb v r k:Nat}{F:Pr}{w:World}(hd:DoneH wb v r k F w):Sat F w:=by
 obtain⟨z,ok,hs⟩:=hd;exact hs.end1
end Go.Proofs.YtbobcmimkonnoaaGreat.Nz
