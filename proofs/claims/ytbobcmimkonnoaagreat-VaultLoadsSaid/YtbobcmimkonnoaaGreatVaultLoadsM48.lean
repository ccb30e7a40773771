/- The law VaultLoads, walked; the conditions stand as hypotheses. -/
import Derived.Test.YtbobcmimkonnoaaGreatVaultLoadsM47
import Derived.Test.YtbobcmimkonnoaaGreatVaultLoadsM34
import Derived.Test.YtbobcmimkonnoaaGreatVaultLoadsM04
import Derived.Test.YtbobcmimkonnoaaGreatVaultLoadsM31
import Derived.Test.YtbobcmimkonnoaaGreatVaultLoadsM01
set_option maxRecDepth 100000
set_option maxHeartbeats 16000000
namespace Go.Proofs.YtbobcmimkonnoaaGreat.Pz
open ChangeShapes WideShapes ChangeAt RowKit Sl Cop M3 M2 N2 E4 G4 J4 L6 E6 P5 M6 K9 Z6 Ty G7 Y4 X6 K8 T8 Y8 P9 L8 Kz Gz Lz Mz X2 Nz N9 B8 Y7 M7 Q7 U7 X7 X8 D2 Q3 D4 Z4 F6 Ly Uy Vy
theorem own_start(T k:Nat){L:List Pr}{w:World}(o:OwnL L w):OwnL (Row T k (.slice none 0 0) 0 [] :: L) w:=⟨by
 show Sat ((Row T k (.slice none 0 0) 0 []).star (starL L)) w
 rw [Row.nil,Pr.emp_star]
 exact o.sat⟩
theorem loads_walk(refs:Int)(vc vl vo:Value)(cs:List Int)(l:List NumV)(ops:List OpP)(w:World)(hx:Ints (heapOf w) vc cs)(hl:NumsIn (heapOf w) vl l)(hlz:∀x∈l,SzP x.page)(hu:∀x∈l,∀y∈x.page.items,U8 y.key)(ho:OpsP (heapOf w) vo ops)(hof:∀o∈ops,OpPFits o):
 Calls Tryz.prog 7 #[.int .i64 refs,vc,vl,vo] w fun e w'=>e= .returned (.bool true)∧Sat (Pr.own (heapOf w)) w'∧Stays w w':=by
 obtain⟨ac,cc,rfl, -⟩:=ints_rd hx;obtain⟨al,cl,rfl,rdl⟩:=nums_rd hl;obtain⟨ao,co,rfl,hoc,hom,rdo⟩:=opsP_rd ho
 have hlc:l.length≤cl:=by
  obtain⟨_,_,⟨_,a,c,e,h1,_,_⟩,_⟩:=hl;cases e;exact h1
 obtain⟨n,hn⟩:∃n:Nat,n=min l.length 200:=⟨_,rfl⟩;obtain⟨m,hm⟩:∃m:Nat,m=min ops.length 60:=⟨_,rfl⟩;have HN:=hQ (show min (l.length:Int) 200=(n:Int) by omega);have HM:=hQ (show min (ops.length:Int) 60=(m:Int) by omega);have hnc:n≤cl:=by omega
 have hmc:m≤co:=by omega
 have hn2:n≤200:=by omega
 have hm2:m≤60:=by omega
 have hn3:n≤l.length:=by omega
 have hm3:m≤ops.length:=by omega
 have L:=hQ (fun(F:Pr) (wx:World) hF=>lives_any F wx hF);have X:=hQ (lives_any ((Pr.own (heapOf w)).star Pr.emp) w ((sat_heap w).perm (Pr.star_emp _).symm));have RDL:=hQ rdl;have HLZ:=hQ hlz;have HU:=hQ hu;have RDO:=hQ (And.intro rdo hof);have HX:=hQ hx;clear hl rdl hlc hlz hu ho hoc hom rdo hof hx hn hm;go_enter Tryz.func7,Tryz.ntmps7
 go_wp2_with (first | refine wpList_min rfl _ _ rfl rfl (l.length:Int) 200 (n:Int) HN.out.symm rfl rfl ?_ | refine wpList_slice_to rfl 41 78 _ _ rfl Tryz.underlying41 6 (fun w=>by go_simp) al l.length cl n hnc rfl rfl ?_ | refine wpList_min rfl _ _ rfl rfl (ops.length:Int) 60 (m:Int) HM.out.symm rfl rfl ?_ | refine wpList_slice_to rfl 22 33 _ _ rfl Tryz.underlying22 8 (fun w=>by go_simp) ao ops.length co m hmc rfl rfl ?_)
 refine X.out.mono ?_;rintro e w1 ⟨rfl,st1,hs1⟩;have HST:=hQ st1;have HS1:=hQ hs1;clear X st1 hs1;by_cases h300:300<cs.length
 · have h301:300<(cs.length:Int):=by omega
   have X:=hQ (L.out _ _ HS1.out);clear HS1;go_wp2_with fail
   refine X.out.mono ?_;rintro e w2 ⟨rfl,st2,hs2⟩;have HST2:=hQ (HST.out.trans st2);have HF:=hQ hs2.left;clear st2 hs2 X HST;go_wp2;go_ret;exact⟨rfl,HF.out,HST2.out⟩
 · have h301:(cs.length:Int)≤300:=by omega
   have SI:=hQ (spareints_any (heapOf w) _ cs _ w1 HS1.out HX.out (by omega));clear HS1;go_wp2_with fail
   refine SI.out.mono ?_;rintro e w2 ⟨bi,rfl,hs2,st2⟩;have HST2:=hQ (HST.out.trans st2);have HS2:=hQ (OwnL.of2 (L:= []) hs2);clear SI hs2 st2 HST;go_wp2_with fail
   go_loopw [10,11,12] (fun pv wv i wr=> ∃(k:Nat) (ys:List NX) (zs:List WX),k≤n∧i= .int .i64 k∧Hid ((ys.map (·.n)=l.take k∧zs.map (·.n)=l.take k)∧(∀y∈ys,NxOk y)∧∀z∈zs,WxOk z)∧Stays w wr∧
    OwnL [NxRow pv k ys,big nxOf ys,WxRow wv k zs,big wxOf zs,WholeI bi cs,Pr.own (heapOf w)] wr) (fun _ _ i _=>n-(intOf i).toNat)
   case atStart=>exact⟨0,[],[],Nat.zero_le _,rfl,hQ ⟨⟨rfl,rfl⟩,fun y hy=>(by cases hy),fun y hy=>(by cases hy)⟩,HST2.out,(own_start 78 6 ((own_start 78 6 ((HS2.out.nothing wxOf))).nothing nxOf))⟩
   case round=>
    clear HST2 HS2;obtain⟨k,ys,zs,hk,rfl,hok,hst,hs⟩:=hrel;obtain⟨a1,c1,rfl⟩:=Row.shape hs.sat;obtain⟨a2,c2,rfl⟩:=Row.shape hs.drop.drop.sat;rcases Nat.lt_or_ge k n with hlt | hge
    · have hkl:k<l.length:=by omega
      obtain⟨b,off,ai,ci,ad,cd,rfl,hpg,cells⟩:=RDL.out k hkl;have hz:=HLZ.out l[k] (List.getElem_mem hkl);have q6:=cells wr (hs.le (a:=heapOf w));have z0:=World.block_lt_of_cell? _ _ q6.1;have CELLS:=hQ cells;have HPG:=hQ hpg;have HZ:=hQ hz;have HTK:=hQ (List.take_succ_eq_append_getElem hkl);have SP:=hQ (sparepage_any (heapOf w) _ l[k].page hpg hz _ wr.drew (hs.drew.pull1 (A1:=Pr.own (heapOf w))))
      have HS:=hQ hs;have HSTR:=hQ hst;clear cells hpg hz hs hst;generalize l[k]=X at*;obtain⟨no,kd,lv,its,dt,nx⟩:=X;dsimp only at*;go_wp2_with fail
      refine wp_region_staged_last (sz:=218) (by kernel_rfl) [0,1,2,3,4,5,6,7,8,9,10] [(11,[12],[0,1,2,3,4,5,6,7,8,9]),(13,[],[0,1,2,3,4,5,6,7,8,9]),(14,[],[1,2,3,4,5,6,7,8,9])] rfl rfl rfl (by kernel_rfl) (by kernel_rfl) (by kernel_rfl) (by kernel_rfl) ?_;simp only [List.dropLast];refine wpQ_all _ rfl rfl ?_;simp only [pick,pQ];iterate 11 (go_big_quiet_step (fail))
      refine wpQuiet_nil ?_;refine wpRest_act rfl ?_;go_wp2_with fail
      refine SP.out.mono ?_;rintro e w3 ⟨x,rfl,hxl,st3,hs3⟩;unfold SpX.pv;dsimp only [pageV];have hs4:=OwnL.of4 hs3;obtain⟨i0,hi0,hz0,hz1,hz2⟩:=info_parts infoNum;obtain⟨hs5,hnew⟩:=hs4.fresh [.int .i64 no,.int .i64 kd,.int .i64 lv,.slice (some ⟨x.ib,0,none⟩) its.length (its.length+2),.slice (some ⟨x.db,0,none⟩) dt.length (dt.length+64),.int .i64 nx] 78 w3.heap.size rfl
      have A1:=hQ (hs5.drop.pull1 (A1:=NxRow (.slice a1 k c1) k ys));have HNEW:=hQ hnew;have HSTA:=hQ ((HSTR.out.drew.trans st3).alloc (.cells #[.int .i64 no,.int .i64 kd,.int .i64 lv,.slice (some ⟨x.ib,0,none⟩) its.length (its.length+2),.slice (some ⟨x.db,0,none⟩) dt.length (dt.length+64),.int .i64 nx] 78));have q6b:=CELLS.out w3 (hs4.le (a:=heapOf w));have q6c:=CELLS.out _ (hs5.le (a:=heapOf w))
      have HXL:=hQ hxl;clear q6 hs3 hs4 hs5 hnew st3 SP HS HSTR hxl;go_wp2;refine onN_mk ?_;refine wpQ_all _ rfl rfl ?_;simp only [pick,pQ];iterate 1 (go_big_quiet_step (fail))
      refine wpQuiet_nil ⟨?_,?_⟩
      · exact cQ
      refine wpRest_act rfl ?_;go_wp2;refine onN_mk ?_;refine wpQ_nil ⟨?_,?_⟩
      · exact cQ
      refine wpRest_act rfl ?_
      refine wpList_append_slK rfl _ _ _ rfl 78 i0 (.agg #[.int .i64 0,.int .i64 0,.int .i64 0,.slice none 0 0,.slice none 0 0,.int .i64 0]) 6 80 Tryz.underlying41 hi0 hz0 hz1 hz2 rfl _ _ _ rfl A1.out ⟨w3.heap.size,0,none⟩ 1 1 [.int .i64 no,.int .i64 kd,.int .i64 lv,.slice (some ⟨x.ib,0,none⟩) its.length (its.length+2),.slice (some ⟨x.db,0,none⟩) dt.length (dt.length+64),.int .i64 nx] rfl rfl HNEW.out (by simp [Value.oneCell']) (by simp only [maxLen];omega) (by omega) (fun v7 w7 hs7 hg7 K0 hK0=> ?_)
      obtain⟨a7,c7,rfl⟩:=Row.shape hs7;go_simp;refine hK0 _ ?_;clear hK0 K0;have hs8:=OwnL.of1 hs7;have h9:OwnL (nxOf ⟨⟨no,⟨kd,lv,its,dt,nx⟩⟩,x⟩ :: _) w7:=hs8.join3 (SpRow x.ib x.bs its) (big wholeOf (x.bs.zip its)) (WholeRow x.db dt);have h10:=h9.snoc nxOf ys ⟨⟨no,⟨kd,lv,its,dt,nx⟩⟩,x⟩
      have e10:ys.flatMap nxCells++ [.int .i64 no,.int .i64 kd,.int .i64 lv,.slice (some ⟨x.ib,0,none⟩) its.length (its.length+2),.slice (some ⟨x.db,0,none⟩) dt.length (dt.length+64),.int .i64 nx]=(ys++ [(⟨⟨no,⟨kd,lv,its,dt,nx⟩⟩,x⟩:NX)]).flatMap nxCells:=by
       rw [List.flatMap_append];rfl
      rw [e10] at h10;have HS10:=hQ (h10.to (M:= [NxRow (.slice a7 (k+1) c7) (k+1) (ys++ [⟨⟨no,⟨kd,lv,its,dt,nx⟩⟩,x⟩]),big nxOf (ys++ [⟨⟨no,⟨kd,lv,its,dt,nx⟩⟩,x⟩]),WxRow (.slice a2 k c2) k zs,big wxOf zs,WholeI bi cs,Pr.own (heapOf w)]));have HST8:=hQ (HSTA.out.of_grown hg7);have q6d:=CELLS.out w7 (hs8.le (a:=heapOf w))
      have CP:=hQ (copypage_any (heapOf w) _ _ HPG.out (by have:=HZ.out.n;omega) (fun y hy=>by have:=HZ.out.k y hy;omega) (by have:=HZ.out.d;omega) _ w7.drew (HS10.out.drew.pull1 (A1:=Pr.own (heapOf w))));clear hs7 hs8 hg7 h9 h10 e10 A1 HNEW HSTA q6b q6c;refine wpList_nil ?_;refine onN_mk ?_;refine wpQ_nil ⟨?_,?_⟩
      · exact cQ
      refine wpRest_nil ?_;unfold lastPost;go_wp2_with fail
      refine wp_region_staged_last (sz:=218) (by kernel_rfl) [0,1,2,3,4,5,6,7,8,9,10] [(11,[12],[0,1,2,3,4,5,6,7,8,9]),(13,[],[0,1,2,3,4,5,6,7,8,9]),(14,[],[1,2,3,4,5,6,7,8,9])] rfl rfl rfl (by kernel_rfl) (by kernel_rfl) (by kernel_rfl) (by kernel_rfl) ?_;simp only [List.dropLast];refine wpQ_all _ rfl rfl ?_;simp only [pick,pQ];iterate 11 (go_big_quiet_step (fail))
      refine wpQuiet_nil ?_;refine wpRest_act rfl ?_;go_wp2_with fail
      refine CP.out.mono ?_;rintro e w9 ⟨pv,hc,rfl,hpc,hs11,st9⟩;obtain⟨vi,vd,rfl,hpi,hpd⟩:=id hpc;obtain⟨bi2,ci2,rfl,_,_⟩:=items_rd hpi;obtain⟨bd2,cd2,rfl⟩:=bytes_shape hpd;dsimp only [pageV];have hs12:=OwnL.of2 hs11;obtain⟨hs13,hnew2⟩:=hs12.fresh [.int .i64 no,.int .i64 kd,.int .i64 lv,.slice bi2 its.length ci2,.slice bd2 dt.length cd2,.int .i64 nx] 78 w9.heap.size rfl
      have A2:=hQ (hs13.drop.pull1 (A1:=WxRow (.slice a2 k c2) k zs));have HNEW2:=hQ hnew2;have HSTB:=hQ ((HST8.out.drew.trans st9).alloc (.cells #[.int .i64 no,.int .i64 kd,.int .i64 lv,.slice bi2 its.length ci2,.slice bd2 dt.length cd2,.int .i64 nx] 78));have q6b:=CELLS.out w9 (hs12.le (a:=heapOf w));have q6c:=CELLS.out _ (hs13.le (a:=heapOf w));have HPI:=hQ (And.intro hpi hpd)
      clear q6d hs11 hs12 hs13 hnew2 st9 CP HS10 HST8 hpc hpi hpd;go_wp2;refine onN_mk ?_;refine wpQ_all _ rfl rfl ?_;simp only [pick,pQ];iterate 1 (go_big_quiet_step (fail))
      refine wpQuiet_nil ⟨?_,?_⟩
      · exact cQ
      refine wpRest_act rfl ?_;go_wp2;refine onN_mk ?_;refine wpQ_nil ⟨?_,?_⟩
      · exact cQ
      refine wpRest_act rfl ?_
      refine wpList_append_slK rfl _ _ _ rfl 78 i0 (.agg #[.int .i64 0,.int .i64 0,.int .i64 0,.slice none 0 0,.slice none 0 0,.int .i64 0]) 6 80 Tryz.underlying41 hi0 hz0 hz1 hz2 rfl _ _ _ rfl A2.out ⟨w9.heap.size,0,none⟩ 1 1 [.int .i64 no,.int .i64 kd,.int .i64 lv,.slice bi2 its.length ci2,.slice bd2 dt.length cd2,.int .i64 nx] rfl rfl HNEW2.out (by simp [Value.oneCell']) (by simp only [maxLen];omega) (by omega) (fun v8 w10 hs14 hg8 K0 hK0=> ?_)
      obtain⟨a8,c8,rfl⟩:=Row.shape hs14;go_simp;refine hK0 _ ?_;clear hK0 K0;have hs15:=OwnL.of1 hs14;have h15:OwnL (wxOf ⟨⟨no,⟨kd,lv,its,dt,nx⟩⟩,.slice bi2 its.length ci2,.slice bd2 dt.length cd2,hc⟩ :: _) w10:=⟨hs15.pull1 (A1:=Pr.own hc)⟩;have h16:=h15.snoc wxOf zs ⟨⟨no,⟨kd,lv,its,dt,nx⟩⟩,.slice bi2 its.length ci2,.slice bd2 dt.length cd2,hc⟩
      have e11:zs.flatMap wxCells++ [.int .i64 no,.int .i64 kd,.int .i64 lv,.slice bi2 its.length ci2,.slice bd2 dt.length cd2,.int .i64 nx]=(zs++ [(⟨⟨no,⟨kd,lv,its,dt,nx⟩⟩,.slice bi2 its.length ci2,.slice bd2 dt.length cd2,hc⟩:WX)]).flatMap wxCells:=by
       rw [List.flatMap_append];rfl
      rw [e11] at h16;have HS17:=hQ h16;have HST10:=hQ (HSTB.out.of_grown hg8);have q6d:=CELLS.out w10 (hs15.le (a:=heapOf w));clear hs14 hs15 h15 hg8 h16 e11 A2 HNEW2 HSTB q6b q6c;refine wpList_nil ?_;refine onN_mk ?_;refine wpQ_nil ⟨?_,?_⟩
      · exact cQ
      refine wpRest_nil ?_;unfold lastPost;go_wp2;go_roundw
      case measure=>simp [intOf];omega
      case rel=>
       refine⟨k+1,ys++ [⟨⟨no,⟨kd,lv,its,dt,nx⟩⟩,x⟩],zs++ [⟨⟨no,⟨kd,lv,its,dt,nx⟩⟩,.slice bi2 its.length ci2,.slice bd2 dt.length cd2,hc⟩],by omega,congrArg (Value.int .i64) (by omega),hQ ⟨⟨?_,?_⟩,?_,?_⟩,HST10.out,HS17.out.to⟩
       · rw [HTK.out,List.map_append,hok.out.1.1]
         rfl
       · rw [HTK.out,List.map_append,hok.out.1.2]
         rfl
       · intro y hy
         rcases List.mem_append.1 hy with hy | hy
         · exact hok.out.2.1 y hy
         · rw [List.mem_singleton] at hy
           subst hy;exact HXL.out
       · intro y hy
         rcases List.mem_append.1 hy with hy | hy
         · exact hok.out.2.2 y hy
         · rw [List.mem_singleton] at hy
           subst hy;exact HPI.out
    · obtain rfl:k=n:=by omega
      have hyl:ys.length=k:=by have:=congrArg List.length hok.out.1.1;simp at this;omega
      have hzl:zs.length=k:=by have:=congrArg List.length hok.out.1.2;simp at this;omega
      have hll:(l.take k).length≤65536:=by simp;omega
      have hul:∀x∈l.take k,∀y∈x.page.items,U8 y.key:=fun x hx=>HU.out x (List.mem_of_mem_take hx)
      obtain⟨ha,haA,hs2⟩:=(hs.join3 (WholeI bi cs) (NxRow (.slice a1 k c1) k ys) (big nxOf ys)).arena ((WholeI bi cs).star ((NxRow (.slice a1 k c1) k ys).star (big nxOf ys)))
      obtain⟨hb,hbA,hs3⟩:=((hs2.join2 (WxRow (.slice a2 k c2) k zs) (big wxOf zs)).join2 ((WxRow (.slice a2 k c2) k zs).star (big wxOf zs)) (Pr.own (heapOf w))).arena (((WxRow (.slice a2 k c2) k zs).star (big wxOf zs)).star (Pr.own (heapOf w)))
      have inA:Ints ha (.slice (some ⟨bi,0,none⟩) cs.length (cs.length+64)) cs∧NumsIn ha (.slice a1 k c1) (l.take k):=by
       obtain⟨x1,x2,g1,g2,s1,s2⟩:=star_sub haA;refine⟨(wholeI_ints g1).sub s1,?_⟩;have:=nx_in (v:= .slice a1 k c1) (ys:=ys) (h:=x2) (by rw [hyl];exact g2) hok.out.2.1
       rw [hok.out.1.1] at this;exact nums_sub s2 this
      have inB:Ints hb (.slice ac cs.length cc) cs∧NumsIn hb (.slice a2 k c2) (l.take k):=by
       obtain⟨x1,x2,g1,g2,s1,s2⟩:=star_sub hbA;refine⟨?_,?_⟩
       · have e:x2=heapOf w:=g2
         subst e;exact HX.out.sub s2
       · have:=wx_in (v:= .slice a2 k c2) (ys:=zs) (h:=x1) (by rw [hzl];exact g1) hok.out.2.2
         rw [hok.out.1.2] at this;exact nums_sub s1 this
      have V:=hQ (vload_any refs ha _ _ cs (l.take k) inA.1 inA.2 hul hll _ wr (hs3.pull1 (A1:=Pr.own ha)));have RL:=hQ (fun(F:Pr) (wx:World) hF=>rload_any refs hb _ _ cs (l.take k) inB.1 inB.2 hll F wx hF);have HST3:=hQ hst;have HAB:=hQ (And.intro haA hbA);have HRIGHT:=hQ (fun h=>right_load3 (refs:=refs) (cs:=cs) (l:=l.take k) h);have HYZ:=hQ (And.intro hyl hzl)
      generalize loadE refs cs (l.take k)=LE at*;obtain⟨en,on⟩:=LE;dsimp only at*;clear hs hs2 hs3 haA hbA inA inB hst hyl hzl hll hul;go_wp2_with fail
      refine V.out.mono ?_;rintro e w5 ⟨st5,(⟨hne,rfl,hs5⟩ | ⟨h0,v,rfl,hs5⟩)⟩
      · have R:=hQ (RL.out _ _ ((OwnL.of1 hs5).pull1 (A1:=Pr.own hb)))
        have HST5:=hQ (HST3.out.trans st5);have HNE:=hQ hne;clear hs5 st5 V RL HST3 hne;go_wp2_with fail
        refine R.out.mono ?_;rintro e w6 ⟨st6,hdis⟩;obtain⟨_,rfl,hs6⟩:=hdis.resolve_right fun h=>HNE.out h.1
        clear hdis;obtain⟨G,hG⟩:∃G:Pr,G=Pr.emp:=⟨_,rfl⟩
        have hs7:OwnL [G,Pr.own ha,Pr.own hb] w6:=by
         rw [hG];exact((OwnL.of1 hs6).emp).to
        clear hG;have hs8:=hs7.back ((WholeI bi cs).star ((NxRow (.slice a1 k c1) k ys).star (big nxOf ys))) HAB.out.1;have hs9:=(hs8.back (((WxRow (.slice a2 k c2) k zs).star (big wxOf zs)).star (Pr.own (heapOf w))) HAB.out.2).norm.norm;have hs10:OwnL [G,WholeI bi cs,NxRow (.slice a1 k c1) k ys,big nxOf ys,Pr.own (heapOf w)] w6:=hs9.to
        have KI:=hQ (keptints_any bi cs (heapOf w) _ HX.out (by omega) _ w6 (hs10.pull2 (A1:=WholeI bi cs) (A2:=Pr.own (heapOf w))));have HST6:=hQ (HST5.out.trans st6);have HS10:=hQ hs10;clear hs6 hs7 hs8 hs9 hs10 st6 R HST5 HAB;go_wp2_with fail
        refine KI.out.mono ?_;rintro e w7 ⟨rfl,o7⟩;have HST7:=hQ (HST6.out.trans o7.st);have HS7:=hQ (HS10.out.ext o7.heap);clear o7 KI HST6 HS10;go_wp2_with fail
        go_loopw [17] (fun i wr=> ∃q:Nat,q≤k∧i= .int .i64 q∧Stays w wr∧OwnL [G,WholeI bi cs,NxRow (.slice a1 k c1) k ys,big nxOf (ys.drop q),Pr.own (heapOf w)] wr) (fun i _=>k-(intOf i).toNat)
        case atStart=>exact⟨0,Nat.zero_le _,rfl,HST7.out,HS7.out⟩
        case round=>
         clear HST7 HS7;obtain⟨q,hq,rfl,hst,hs⟩:=hrel;rcases Nat.lt_or_ge q k with hlt | hge
         · have hqy:q<ys.length:=by have:=HYZ.out.1;omega
           have hql:q<l.length:=by omega
           have hyq:ys[q].n=l[q]:=by
            have h1:(ys.map (·.n))[q]'(by simpa using hqy)=(l.take k)[q]'(by simp;omega):=by simp only [hok.out.1.1]
            simpa using h1
           obtain⟨b,off,ai,ci,ad,cd,rfl,hpg,cells⟩:=RDL.out q hql;obtain⟨b1,c1',e1,z1,r0,r1,r2,r3,r4,r5⟩:=nx_rd (hs.pull1 (A1:=NxRow (.slice a1 k c1) k ys)) HYZ.out.1 hqy;cases e1;have q6:=cells wr (hs.le (a:=heapOf w));have z0:=World.block_lt_of_cell? _ _ q6.1;rw [List.drop_eq_getElem_cons hqy] at hs;have hs2:=hs.uncons nxOf ys[q] (ys.drop (q+1))
           have hoky:=hok.out.2.1 ys[q] (List.getElem_mem hqy);have hz:=HLZ.out l[q] (List.getElem_mem hql);have NRD:=hQ (fun(wx:World) (Fx:Pr) hx=>nx_rd (F:=Fx) (w:=wx) (v:= .slice (some ⟨b1,0,none⟩) k c1) (n:=k) (ys:=ys) hx HYZ.out.1 hqy);unfold nxV at r3 r4;rw [hyq] at r0 r1 r2 r3 r4 r5;unfold NxOk at hoky;rw [hyq] at hoky
           have hs3:OwnL ((SpRow ys[q].x.ib ys[q].x.bs ys[q].n.page.items).star ((big wholeOf (ys[q].x.bs.zip ys[q].n.page.items)).star (WholeRow ys[q].x.db ys[q].n.page.data)) :: _) wr:=hs2;rw [hyq] at hs3;have hs4:=hs3.norm
           have NRD2:=hQ (show ∀(wx:World) (Fx:Pr),Sat ((NxRow (.slice (some ⟨b1,0,none⟩) k c1) k ys).star Fx) wx→b1<wx.heap.size∧wx.cell? ⟨b1,q*6,none⟩=some (.int .i64 l[q].no)∧wx.cell? ⟨b1,q*6+1,none⟩=some (.int .i64 l[q].page.kind)∧wx.cell? ⟨b1,q*6+2,none⟩=some (.int .i64 l[q].page.level)∧
            wx.cell? ⟨b1,q*6+3,none⟩=some (.slice (some ⟨ys[q].x.ib,0,none⟩) l[q].page.items.length (l[q].page.items.length+2))∧wx.cell? ⟨b1,q*6+4,none⟩=some (.slice (some ⟨ys[q].x.db,0,none⟩) l[q].page.data.length (l[q].page.data.length+64))∧wx.cell? ⟨b1,q*6+5,none⟩=some (.int .i64 l[q].page.next) from fun wx Fx hx=>by
            obtain⟨_,_,e,g⟩:=NRD.out wx Fx hx
            cases e
            unfold nxV at g
            rw [hyq] at g
            exact g)
           have KP:=hQ (keptpage_any ys[q].x l[q].page hoky hz (heapOf w) _ hpg _ wr.drew (hs4.drew.pull4 (A1:=SpRow ys[q].x.ib ys[q].x.bs l[q].page.items) (A2:=big wholeOf (ys[q].x.bs.zip l[q].page.items)) (A3:=WholeRow ys[q].x.db l[q].page.data) (A4:=Pr.own (heapOf w))));have hk1:(l[q].page.items.length:Int)≤2199023255488:=by have:=hz.n;omega
           have hk2:(l[q].page.data.length:Int)≤140737488351232:=by have:=hz.d;omega
           have CELLS:=hQ cells;have HS4:=hQ hs4;have HSTR:=hQ hst;clear hs hs2 hs3 hs4 hst hoky hz hpg cells hyq NRD;generalize l[q]=X at*;generalize ys[q].x=x at*;obtain⟨no,kd,lv,its,dt,nx⟩:=X;obtain⟨ib,db,bs⟩:=x;dsimp only at*;go_wp2_with fail
           refine wS 218 [0,1,2,3,4,5,6,7,8,9,10,11,12,13,14,15,16,17,18,19,20,21] [(22,[23,24],[0,1,2,3,4,5,6,7,8,9,10,12,13,14,15,17,18,19,20])] ?_;refine wpQ_all _ rfl rfl ?_;simp only [pick,pQ];iterate 22 (go_big_quiet_step (fail))
           refine wpQuiet_nil ?_;refine wpRest_act rfl ?_;go_wp2_with fail
           refine KP.out.mono ?_;rintro e w8 ⟨rfl,o8⟩;have hs8:=HS4.out.drew.ext o8.heap;have HS8:=hQ hs8;have HST8:=hQ (HSTR.out.drew.trans o8.st);have q6b:=CELLS.out w8 (hs8.le (a:=heapOf w));have rb:=NRD2.out w8 _ (hs8.pull1 (A1:=NxRow (.slice (some ⟨b1,0,none⟩) k c1) k ys));clear q6 z0 r0 r1 r2 r3 r4 r5 z1 hs8 o8 KP HS4 HSTR CELLS;have z0:=World.block_lt_of_cell? _ _ q6b.1;go_wp2
           refine onN_mk ?_;refine wpQ_all _ rfl rfl ?_;simp only [pick,pQ];iterate 2 (go_big_quiet_step (fail))
           refine wpQuiet_nil ⟨?_,?_⟩
           · exact cQ
           refine wpRest_nil ?_;go_wp2_with fail
           clear q6b rb z0
           go_loopw [18] (fun j wr=> ∃(p:Nat) (zz:List It),p≤its.length∧j= .int .i64 p∧Hid (zz.length=its.length+2)∧Stays w wr∧
            OwnL [ZRow ib (its.length+2) (its.length+2) zz,WholeRow db dt,G,WholeI bi cs,NxRow (.slice (some ⟨b1,0,none⟩) k c1) k ys,big nxOf (ys.drop (q+1)),Pr.own (heapOf w)] wr) (fun j _=>its.length-(intOf j).toNat)
           case atStart=>exact⟨0,spL bs its (its.length+2),Nat.zero_le _,rfl,hQ (spL_len _ _ _),HST8.out,(HS8.out.lose (big wholeOf (bs.zip its))).to⟩
           case round=>
            clear HST8 HS8;obtain⟨p,zz,hp,rfl,hzz,hst,hs⟩:=hrel;obtain⟨g0,_,_,_,g3,g4,_⟩:=NRD2.out wr _ (hs.pull1 (A1:=NxRow (.slice (some ⟨b1,0,none⟩) k c1) k ys));rcases Nat.lt_or_ge p its.length with hlp | hgp
            · obtain⟨u,e0,e1,e2⟩:=z_child (hs.pull1 (A1:=ZRow ib (its.length+2) (its.length+2) zz)) hzz.out (k:=p) (by have:=hzz.out;omega)
              have ze:=World.block_lt_of_cell? _ _ e0;have E2:=hQ e2;have HSTQ:=hQ hst;clear hs hst e2;go_wp2;obtain⟨zs',hl',hs'⟩:=E2.out (wrap64 (u+100));exact⟨⟨p+1,zs',by omega,congrArg (Value.int .i64) (by omega),hQ (by rw [hl'];exact hzz.out),HSTQ.out.setCell _ _,(OwnL.of1 hs').to⟩,by simp [intOf];omega⟩
            · obtain rfl:p=its.length:=by omega
              have HSQ:=hQ hs;have HSTQ:=hQ hst;clear hs hst;go_wp2_with fail
              clear g0 g3 g4
              go_loopw [19] (fun j wr=> ∃(p:Nat) (zz:List Int),p≤dt.length∧j= .int .i64 p∧Hid (zz.length=dt.length+64)∧Stays w wr∧
               OwnL [ByRow db dt.length zz,G,WholeI bi cs,NxRow (.slice (some ⟨b1,0,none⟩) k c1) k ys,big nxOf (ys.drop (q+1)),Pr.own (heapOf w)] wr) (fun j _=>dt.length-(intOf j).toNat)
              case atStart=>exact⟨0,_,Nat.zero_le _,rfl,hQ (spareL_len _),HSTQ.out,(HSQ.out.lose (ZRow ib (its.length+2) (its.length+2) zz)).to⟩
              case round=>
               clear HSTQ HSQ;obtain⟨p,zz,hp,rfl,hzz,hst,hs⟩:=hrel;obtain⟨g0,_,_,_,g3,g4,_⟩:=NRD2.out wr _ (hs.pull1 (A1:=NxRow (.slice (some ⟨b1,0,none⟩) k c1) k ys));rcases Nat.lt_or_ge p dt.length with hlp | hgp
               · obtain⟨u,e0,e1,e2⟩:=by_cell (hs.pull1 (A1:=ByRow db dt.length zz)) hzz.out hlp
                 have ze:=World.block_lt_of_cell? _ _ e0;have E2:=hQ e2;have HSTQ:=hQ hst;clear hs hst e2;go_wp2;refine⟨⟨p+1,zz.set p (bits .xor .u8 u 1),by omega,congrArg (Value.int .i64) (by omega),hQ (by rw [List.length_set];exact hzz.out),HSTQ.out.setCell _ _,(OwnL.of1 (E2.out _)).to⟩,by simp [intOf];omega⟩
               · obtain rfl:p=dt.length:=by omega
                 have HSQ:=hQ hs;have HSTQ:=hQ hst;clear hs hst;go_wp2;go_roundw
                 case measure=>simp [intOf];omega
                 case rel=>exact⟨q+1,by omega,congrArg (Value.int .i64) (by omega),HSTQ.out,(HSQ.out.lose (ByRow db dt.length zz)).to⟩
         · obtain rfl:q=k:=by omega
           have HSQ:=hQ hs;have HSTQ:=hQ hst;clear hs hst;go_wp2_with fail
           go_loopw [20] (fun j wr=> ∃(p:Nat) (zz:List Int),p≤cs.length∧j= .int .i64 p∧Hid (zz.length=cs.length+64)∧Stays w wr∧OwnL [IRow bi cs.length zz,G,Pr.own (heapOf w)] wr) (fun j _=>cs.length-(intOf j).toNat)
           case atStart=>exact⟨0,_,Nat.zero_le _,rfl,hQ (spareI_len _),HSTQ.out,HSQ.out.to⟩
           case round=>
            clear HSTQ HSQ;obtain⟨p,zz,hp,rfl,hzz,hst,hs⟩:=hrel;rcases Nat.lt_or_ge p cs.length with hlp | hgp
            · obtain⟨u,e0,e1,e2⟩:=i_cell (hs.pull1 (A1:=IRow bi cs.length zz)) hzz.out hlp
              have ze:=World.block_lt_of_cell? _ _ e0;have E2:=hQ e2;have HSTQ:=hQ hst;clear hs hst e2;go_wp2;refine⟨⟨p+1,zz.set p 5,by omega,congrArg (Value.int .i64) (by omega),hQ (by rw [List.length_set];exact hzz.out),HSTQ.out.setCell _ _,(OwnL.of1 (E2.out _)).to⟩,by simp [intOf];omega⟩
            · obtain rfl:p=cs.length:=by omega
              have HSQ:=hQ hs;have HSTQ:=hQ hst;clear hs hst;go_wp2;go_ret;exact⟨rfl,HSQ.out.end1,HSTQ.out⟩
      · have R:=hQ (RL.out _ _ ((OwnL.of2 hs5).pull1 (A1:=Pr.own hb)))
        have HST5:=hQ (HST3.out.trans st5);have HNE:=hQ h0;clear hs5 st5 V RL HST3 h0;go_wp2_with fail
        refine R.out.mono ?_;rintro e w6 ⟨st6,(⟨hne,rfl,hs6⟩ | ⟨_,r,rfl,hs6⟩)⟩
        · exact absurd HNE.out hne
        · obtain⟨G,hG⟩:∃G:Pr,G=(VaultA v (loadV refs cs on)).star (RefA r (poolOf refs cs 0) (pgsOf cs.length on) (quietT false)):=⟨_,rfl⟩
          have HG:=hQ hG
          have hs7:OwnL [G,Pr.own ha,Pr.own hb] w6:=by
           rw [hG];exact((OwnL.of2 hs6).join2 (VaultA v (loadV refs cs on)) (RefA r (poolOf refs cs 0) (pgsOf cs.length on) (quietT false))).to
          clear hG;have hs8:=hs7.back ((WholeI bi cs).star ((NxRow (.slice a1 k c1) k ys).star (big nxOf ys))) HAB.out.1;have hs9:=(hs8.back (((WxRow (.slice a2 k c2) k zs).star (big wxOf zs)).star (Pr.own (heapOf w))) HAB.out.2).norm.norm;have hs10:OwnL [G,WholeI bi cs,NxRow (.slice a1 k c1) k ys,big nxOf ys,Pr.own (heapOf w)] w6:=hs9.to
          have KI:=hQ (keptints_any bi cs (heapOf w) _ HX.out (by omega) _ w6 (hs10.pull2 (A1:=WholeI bi cs) (A2:=Pr.own (heapOf w))));have HST6:=hQ (HST5.out.trans st6);have HS10:=hQ hs10;clear hs6 hs7 hs8 hs9 hs10 st6 R HST5 HAB;go_wp2_with fail
          refine KI.out.mono ?_;rintro e w7 ⟨rfl,o7⟩;have HST7:=hQ (HST6.out.trans o7.st);have HS7:=hQ (HS10.out.ext o7.heap);clear o7 KI HST6 HS10;go_wp2_with fail
          go_loopw [17] (fun i wr=> ∃q:Nat,q≤k∧i= .int .i64 q∧Stays w wr∧OwnL [G,WholeI bi cs,NxRow (.slice a1 k c1) k ys,big nxOf (ys.drop q),Pr.own (heapOf w)] wr) (fun i _=>k-(intOf i).toNat)
          case atStart=>exact⟨0,Nat.zero_le _,rfl,HST7.out,HS7.out⟩
          case round=>
           clear HST7 HS7;obtain⟨q,hq,rfl,hst,hs⟩:=hrel;rcases Nat.lt_or_ge q k with hlt | hge
           · have hqy:q<ys.length:=by have:=HYZ.out.1;omega
             have hql:q<l.length:=by omega
             have hyq:ys[q].n=l[q]:=by
              have h1:(ys.map (·.n))[q]'(by simpa using hqy)=(l.take k)[q]'(by simp;omega):=by simp only [hok.out.1.1]
              simpa using h1
             obtain⟨b,off,ai,ci,ad,cd,rfl,hpg,cells⟩:=RDL.out q hql;obtain⟨b1,c1',e1,z1,r0,r1,r2,r3,r4,r5⟩:=nx_rd (hs.pull1 (A1:=NxRow (.slice a1 k c1) k ys)) HYZ.out.1 hqy;cases e1;have q6:=cells wr (hs.le (a:=heapOf w));have z0:=World.block_lt_of_cell? _ _ q6.1;rw [List.drop_eq_getElem_cons hqy] at hs;have hs2:=hs.uncons nxOf ys[q] (ys.drop (q+1))
             have hoky:=hok.out.2.1 ys[q] (List.getElem_mem hqy);have hz:=HLZ.out l[q] (List.getElem_mem hql);have NRD:=hQ (fun(wx:World) (Fx:Pr) hx=>nx_rd (F:=Fx) (w:=wx) (v:= .slice (some ⟨b1,0,none⟩) k c1) (n:=k) (ys:=ys) hx HYZ.out.1 hqy);unfold nxV at r3 r4;rw [hyq] at r0 r1 r2 r3 r4 r5;unfold NxOk at hoky;rw [hyq] at hoky
             have hs3:OwnL ((SpRow ys[q].x.ib ys[q].x.bs ys[q].n.page.items).star ((big wholeOf (ys[q].x.bs.zip ys[q].n.page.items)).star (WholeRow ys[q].x.db ys[q].n.page.data)) :: _) wr:=hs2;rw [hyq] at hs3;have hs4:=hs3.norm
             have NRD2:=hQ (show ∀(wx:World) (Fx:Pr),Sat ((NxRow (.slice (some ⟨b1,0,none⟩) k c1) k ys).star Fx) wx→b1<wx.heap.size∧wx.cell? ⟨b1,q*6,none⟩=some (.int .i64 l[q].no)∧wx.cell? ⟨b1,q*6+1,none⟩=some (.int .i64 l[q].page.kind)∧wx.cell? ⟨b1,q*6+2,none⟩=some (.int .i64 l[q].page.level)∧
              wx.cell? ⟨b1,q*6+3,none⟩=some (.slice (some ⟨ys[q].x.ib,0,none⟩) l[q].page.items.length (l[q].page.items.length+2))∧wx.cell? ⟨b1,q*6+4,none⟩=some (.slice (some ⟨ys[q].x.db,0,none⟩) l[q].page.data.length (l[q].page.data.length+64))∧wx.cell? ⟨b1,q*6+5,none⟩=some (.int .i64 l[q].page.next) from fun wx Fx hx=>by
              obtain⟨_,_,e,g⟩:=NRD.out wx Fx hx
              cases e
              unfold nxV at g
              rw [hyq] at g
              exact g)
             have KP:=hQ (keptpage_any ys[q].x l[q].page hoky hz (heapOf w) _ hpg _ wr.drew (hs4.drew.pull4 (A1:=SpRow ys[q].x.ib ys[q].x.bs l[q].page.items) (A2:=big wholeOf (ys[q].x.bs.zip l[q].page.items)) (A3:=WholeRow ys[q].x.db l[q].page.data) (A4:=Pr.own (heapOf w))));have hk1:(l[q].page.items.length:Int)≤2199023255488:=by have:=hz.n;omega
             have hk2:(l[q].page.data.length:Int)≤140737488351232:=by have:=hz.d;omega
             have CELLS:=hQ cells;have HS4:=hQ hs4;have HSTR:=hQ hst;clear hs hs2 hs3 hs4 hst hoky hz hpg cells hyq NRD;generalize l[q]=X at*;generalize ys[q].x=x at*;obtain⟨no,kd,lv,its,dt,nx⟩:=X;obtain⟨ib,db,bs⟩:=x;dsimp only at*;go_wp2_with fail
             refine wS 218 [0,1,2,3,4,5,6,7,8,9,10,11,12,13,14,15,16,17,18,19,20,21] [(22,[23,24],[0,1,2,3,4,5,6,7,8,9,10,12,13,14,15,17,18,19,20])] ?_;refine wpQ_all _ rfl rfl ?_;simp only [pick,pQ];iterate 22 (go_big_quiet_step (fail))
             refine wpQuiet_nil ?_;refine wpRest_act rfl ?_;go_wp2_with fail
             refine KP.out.mono ?_;rintro e w8 ⟨rfl,o8⟩;have hs8:=HS4.out.drew.ext o8.heap;have HS8:=hQ hs8;have HST8:=hQ (HSTR.out.drew.trans o8.st);have q6b:=CELLS.out w8 (hs8.le (a:=heapOf w));have rb:=NRD2.out w8 _ (hs8.pull1 (A1:=NxRow (.slice (some ⟨b1,0,none⟩) k c1) k ys));clear q6 z0 r0 r1 r2 r3 r4 r5 z1 hs8 o8 KP HS4 HSTR CELLS;have z0:=World.block_lt_of_cell? _ _ q6b.1;go_wp2
             refine onN_mk ?_;refine wpQ_all _ rfl rfl ?_;simp only [pick,pQ];iterate 2 (go_big_quiet_step (fail))
             refine wpQuiet_nil ⟨?_,?_⟩
             · exact cQ
             refine wpRest_nil ?_;go_wp2_with fail
             clear q6b rb z0
             go_loopw [18] (fun j wr=> ∃(p:Nat) (zz:List It),p≤its.length∧j= .int .i64 p∧Hid (zz.length=its.length+2)∧Stays w wr∧
              OwnL [ZRow ib (its.length+2) (its.length+2) zz,WholeRow db dt,G,WholeI bi cs,NxRow (.slice (some ⟨b1,0,none⟩) k c1) k ys,big nxOf (ys.drop (q+1)),Pr.own (heapOf w)] wr) (fun j _=>its.length-(intOf j).toNat)
             case atStart=>exact⟨0,spL bs its (its.length+2),Nat.zero_le _,rfl,hQ (spL_len _ _ _),HST8.out,(HS8.out.lose (big wholeOf (bs.zip its))).to⟩
             case round=>
              clear HST8 HS8;obtain⟨p,zz,hp,rfl,hzz,hst,hs⟩:=hrel;obtain⟨g0,_,_,_,g3,g4,_⟩:=NRD2.out wr _ (hs.pull1 (A1:=NxRow (.slice (some ⟨b1,0,none⟩) k c1) k ys));rcases Nat.lt_or_ge p its.length with hlp | hgp
              · obtain⟨u,e0,e1,e2⟩:=z_child (hs.pull1 (A1:=ZRow ib (its.length+2) (its.length+2) zz)) hzz.out (k:=p) (by have:=hzz.out;omega)
                have ze:=World.block_lt_of_cell? _ _ e0;have E2:=hQ e2;have HSTQ:=hQ hst;clear hs hst e2;go_wp2;obtain⟨zs',hl',hs'⟩:=E2.out (wrap64 (u+100));exact⟨⟨p+1,zs',by omega,congrArg (Value.int .i64) (by omega),hQ (by rw [hl'];exact hzz.out),HSTQ.out.setCell _ _,(OwnL.of1 hs').to⟩,by simp [intOf];omega⟩
              · obtain rfl:p=its.length:=by omega
                have HSQ:=hQ hs;have HSTQ:=hQ hst;clear hs hst;go_wp2_with fail
                clear g0 g3 g4
                go_loopw [19] (fun j wr=> ∃(p:Nat) (zz:List Int),p≤dt.length∧j= .int .i64 p∧Hid (zz.length=dt.length+64)∧Stays w wr∧
                 OwnL [ByRow db dt.length zz,G,WholeI bi cs,NxRow (.slice (some ⟨b1,0,none⟩) k c1) k ys,big nxOf (ys.drop (q+1)),Pr.own (heapOf w)] wr) (fun j _=>dt.length-(intOf j).toNat)
                case atStart=>exact⟨0,_,Nat.zero_le _,rfl,hQ (spareL_len _),HSTQ.out,(HSQ.out.lose (ZRow ib (its.length+2) (its.length+2) zz)).to⟩
                case round=>
                 clear HSTQ HSQ;obtain⟨p,zz,hp,rfl,hzz,hst,hs⟩:=hrel;obtain⟨g0,_,_,_,g3,g4,_⟩:=NRD2.out wr _ (hs.pull1 (A1:=NxRow (.slice (some ⟨b1,0,none⟩) k c1) k ys));rcases Nat.lt_or_ge p dt.length with hlp | hgp
                 · obtain⟨u,e0,e1,e2⟩:=by_cell (hs.pull1 (A1:=ByRow db dt.length zz)) hzz.out hlp
                   have ze:=World.block_lt_of_cell? _ _ e0;have E2:=hQ e2;have HSTQ:=hQ hst;clear hs hst e2;go_wp2;refine⟨⟨p+1,zz.set p (bits .xor .u8 u 1),by omega,congrArg (Value.int .i64) (by omega),hQ (by rw [List.length_set];exact hzz.out),HSTQ.out.setCell _ _,(OwnL.of1 (E2.out _)).to⟩,by simp [intOf];omega⟩
                 · obtain rfl:p=dt.length:=by omega
                   have HSQ:=hQ hs;have HSTQ:=hQ hst;clear hs hst;go_wp2;go_roundw
                   case measure=>simp [intOf];omega
                   case rel=>exact⟨q+1,by omega,congrArg (Value.int .i64) (by omega),HSTQ.out,(HSQ.out.lose (ByRow db dt.length zz)).to⟩
           · obtain rfl:q=k:=by omega
             have HSQ:=hQ hs;have HSTQ:=hQ hst;clear hs hst;go_wp2_with fail
             go_loopw [20] (fun j wr=> ∃(p:Nat) (zz:List Int),p≤cs.length∧j= .int .i64 p∧Hid (zz.length=cs.length+64)∧Stays w wr∧OwnL [IRow bi cs.length zz,G,Pr.own (heapOf w)] wr) (fun j _=>cs.length-(intOf j).toNat)
             case atStart=>exact⟨0,_,Nat.zero_le _,rfl,hQ (spareI_len _),HSTQ.out,HSQ.out.to⟩
             case round=>
              clear HSTQ HSQ;obtain⟨p,zz,hp,rfl,hzz,hst,hs⟩:=hrel;rcases Nat.lt_or_ge p cs.length with hlp | hgp
              · obtain⟨u,e0,e1,e2⟩:=i_cell (hs.pull1 (A1:=IRow bi cs.length zz)) hzz.out hlp
                have ze:=World.block_lt_of_cell? _ _ e0;have E2:=hQ e2;have HSTQ:=hQ hst;clear hs hst e2;go_wp2;refine⟨⟨p+1,zz.set p 5,by omega,congrArg (Value.int .i64) (by omega),hQ (by rw [List.length_set];exact hzz.out),HSTQ.out.setCell _ _,(OwnL.of1 (E2.out _)).to⟩,by simp [intOf];omega⟩
              · obtain rfl:p=cs.length:=by omega
                have HSQ:=hQ hs;have HSTQ:=hQ hst;clear hs hst;have hs20:=HSQ.out;rw [HG.out] at hs20;have hs21:=(hs20.norm.alloc (.cells #[.pointer (some ⟨v,0,none⟩),.pointer (some ⟨r,0,none⟩),.slice none 0 0,.slice none 0 0,.slice none 0 0] 87));have okp:=(vault_ok (hs21.pull1 (A1:=VaultA v (loadV refs cs on)))).1;obtain⟨hr,hcr⟩:=HRIGHT.out HNE.out
                have hs22:=OwnL.of1 (refA_refH r (poolOf refs cs 0) (pgsOf cs.length on) 0 (hs21.pull1 (A1:=RefA r (poolOf refs cs 0) (pgsOf cs.length on) (quietT false))))
                have HD:=hQ (show DoneH wr.heap.size v r 60 ((Pr.own (heapOf w)).star Pr.emp) (wr.alloc (.cells #[.pointer (some ⟨v,0,none⟩),.pointer (some ⟨r,0,none⟩),.slice none 0 0,.slice none 0 0,.slice none 0 0] 87)) from
                 ⟨⟨loadV refs cs on,[],poolOf refs cs 0,pgsOf cs.length on,0,[],.slice none 0 0,[],Hp.nil,.slice none 0 0,.slice none 0 0,[]⟩,⟨join_load hr hcr okp 60 (by omega),by show 0+60≤ _;omega,by show 0+60≤ _;omega,⟨fun e he=>(by cases he),Nat.zero_le _⟩,fun x hx=>(by cases hx)⟩,by
                   have h5:=((hs22.emp).emp).emp
                   have e2:WksRow (.slice none 0 0) []=Pr.emp:=Row.nil _ _
                   show OwnL [VaultA v (loadV refs cs on),RefH r (poolOf refs cs 0) (pgsOf cs.length on) 0 [],workO wr.heap.size v r (.slice none 0 0) (.slice none 0 0) (.slice none 0 0),BRest (.slice none 0 0) (.slice none 0 0) [],WksRow (.slice none 0 0) [],Pr.own Hp.nil,(Pr.own (heapOf w)).star Pr.emp] _
                   rw [bRest_nil,e2,own_nil,Pr.star_emp]
                   exact h5.to⟩)
                have HST9:=hQ (HSTQ.out.alloc (.cells #[.pointer (some ⟨v,0,none⟩),.pointer (some ⟨r,0,none⟩),.slice none 0 0,.slice none 0 0,.slice none 0 0] 87));clear hs20 hs21 hs22 okp hr hcr HSQ HSTQ;go_wp2_with fail
                have D0:=HD.out;have S0:=HST9.out;clear HD HST9;generalize wr.alloc (.cells #[.pointer (some ⟨v,0,none⟩),.pointer (some ⟨r,0,none⟩),.slice none 0 0,.slice none 0 0,.slice none 0 0] 87)=w9 at*;generalize wr.heap.size=wb at*;go_loopw [22] (fun i wr=> ∃p:Nat,p≤m∧i= .int .i64 p∧Stays w wr∧Hid (DoneH wb v r (60-p) ((Pr.own (heapOf w)).star Pr.emp) wr)) (fun i _=>m-(intOf i).toNat)
                case atStart=>exact⟨0,Nat.zero_le _,rfl,S0,hQ D0⟩
                case round=>
                 clear D0 S0;obtain⟨i,hi,rfl,hst,hd⟩:=hrel;rcases Nat.lt_or_ge i m with hlt | hge
                 · have hio:i<ops.length:=by omega
                   obtain⟨b,off,ai,ad,ci,cd,rfl,ob,cells⟩:=RDO.out.1 i hio;have hf:=RDO.out.2 ops[i] (List.getElem_mem hio);have k8:=cells wr (done_own hd.out);have z0:=World.block_lt_of_cell? _ _ k8.1;have D:=hQ (do_at wb v r (60-i-1) (heapOf w) Pr.emp wr (by rw [show 60-i-1+1=60-i by omega];exact hd.out) ops[i] _ _ ob hf);have HST3:=hQ hst;clear cells ob hf hd hst;generalize ops[i]=O at*
                   go_wp2_with fail
                   refine D.out.mono ?_;rintro e w3 ⟨rfl,st3,hd3⟩;have HD3:=hQ hd3;have HST4:=hQ (HST3.out.trans st3);clear k8 z0 D HST3 hd3 st3;go_wp2;go_roundw
                   case rel=>exact⟨i+1,by omega,congrArg (Value.int .i64) (by omega),HST4.out,by rw [show 60-(i+1)=60-i-1 by omega];exact HD3⟩
                   case measure=>simp [intOf];omega
                 · have hin:i=m:=by omega
                   subst hin;have A:=hQ (all_any wb v r (60-i) _ wr hd.out);have HST3:=hQ hst;clear hd hst;go_wp2_with fail
                   refine A.out.mono ?_;rintro e w3 ⟨rfl,st3,hd3⟩;have HD3:=hQ hd3;have HST4:=hQ (HST3.out.trans st3);clear A HST3 hd3 st3;go_wp2;go_ret;exact⟨rfl,(done_sat HD3.out).left,HST4.out⟩
end Go.Proofs.YtbobcmimkonnoaaGreat.Pz
