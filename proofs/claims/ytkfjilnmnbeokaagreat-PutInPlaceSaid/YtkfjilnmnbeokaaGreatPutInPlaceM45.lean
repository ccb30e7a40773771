/- The law PutInPlace walked; the conditions stand as hypotheses. -/
import Derived.Test.YtkfjilnmnbeokaaGreatPutInPlaceM44
import Derived.Test.YtkfjilnmnbeokaaGreatPutInPlaceM13
import Derived.Test.YtkfjilnmnbeokaaGreatPutInPlaceM20
import Derived.Test.YtkfjilnmnbeokaaGreatPutInPlaceM05
import Derived.Test.YtkfjilnmnbeokaaGreatPutInPlaceM01
set_option maxRecDepth 100000
set_option maxHeartbeats 16000000
namespace Go.Cop
structure OpV where
 kind:Int
 t:Int
 key:List Int
 value:List Int
open Go.Proofs.YtkfjilnmnbeokaaGreat.Z9 in
theorem PiI.le {s:VaultS}{t:TreeV}{k k' j j':Nat}(h:PiI s t k j)(hk:k'≤k)(hj:j≤j'):PiI s t k' j':=⟨h.vi,h.lone,h.rm.le hk,h.hist,h.std,by have:=h.itb;omega⟩
end Go.Cop
namespace Go.Proofs.YtkfjilnmnbeokaaGreat.Dy
open ChangeShapes WideShapes ChangeAt RowKit Sl Cop Deep D2 D3 J3 V3 G2 J2 X3 Z3 Y3 M4 Q5 Y5 N6 Q6 W6 P5 M2 D4 J4 Z8 E9 P8 U9 V9 Y9 Z9 Cy Ay
def opCells(x:(Value × Value) × OpV):List Value:= [.int .i64 x.2.kind,.int .i64 x.2.t,x.1.1,x.1.2]
def OpsIn(h:Hp)(v:Value)(l:List OpV):Prop:= ∃xs:List (Value × Value),xs.length=l.length∧RowIn h 4 v l.length ((xs.zip l).flatMap opCells)∧∀i (hx:i<xs.length) (hl:i<l.length),Bytes h xs[i].1 l[i].key∧Bytes h xs[i].2 l[i].value
theorem ops_rd {h:Hp}{v:Value}{l:List OpV}(hi:OpsIn h v l):∃a c,v= .slice a l.length c∧l.length≤c∧c≤maxLen∧∀i (hl:i<l.length),∃b off ak ck av cv,a=some ⟨b,off,none⟩∧
 Bytes h (.slice ak l[i].key.length ck) l[i].key∧Bytes h (.slice av l[i].value.length cv) l[i].value∧
 ∀w,h.le w→w.cell? ⟨b,off+i*4,none⟩=some (.int .i64 l[i].kind)∧w.cell? ⟨b,off+i*4+1,none⟩=some (.int .i64 l[i].t)∧
  w.cell? ⟨b,off+i*4+2,none⟩=some (.slice ak l[i].key.length ck)∧w.cell? ⟨b,off+i*4+3,none⟩=some (.slice av l[i].value.length cv):=by
 obtain⟨xs,hxl,⟨hlen,a,c,e,hlc,hcm,hc⟩,hb⟩:=hi;refine⟨a,c,e,hlc,hcm,fun i hl=> ?_⟩;obtain⟨b,off,ea,hcell⟩:=hc (by omega);have hxi:i<xs.length:=by omega
 obtain⟨h1,h2⟩:=hb i hxi hl;obtain⟨ak,ck,e1⟩:=bytes_shape h1;obtain⟨av,cv,e2⟩:=bytes_shape h2;have hz:i<(xs.zip l).length:=by simp;omega
 have ez:(xs.zip l)[i]=(xs[i],l[i]):=by simp
 refine⟨b,off,ak,ck,av,cv,ea,e1 ▸ h1,e2 ▸ h2,fun w hw=> ?_⟩
 have at':∀j,j<4→∀v,(opCells (xs[i],l[i]))[j]? =some v→w.cell? ⟨b,off+i*4+j,none⟩=some v:=by
  intro j hj v hv;have h3:=hcell (i*4+j) (by omega);have h4:=flat_at opCells 4 (fun _=>rfl) (xs.zip l) i j hz hj;rw [ez,hv] at h4;rw [Nat.add_assoc];exact Hp.cell_le hw (h3.trans h4)
 have k0:=at' 0 (by omega) _ rfl;have k1:=at' 1 (by omega) _ rfl;have k2:=at' 2 (by omega) _ rfl;have k3:=at' 3 (by omega) _ rfl;dsimp only at k2 k3;rw [e1] at k2;rw [e2] at k3;exact⟨k0,k1,k2,k3⟩
theorem way_at {b c:Nat}{W:List Int}{F:Pr}{w:World}(h:Sat ((IntsRow (.slice (some ⟨b,0,none⟩) W.length c) W).star F) w){q:Nat}{n:Int}(hn:W[q]? =some n):w.cell? ⟨b,q,none⟩=some (.int .i64 n)∧w.frozen? ⟨b,q,none⟩=false∧b<w.heap.size:=by
 obtain⟨hq,_⟩:=List.getElem?_eq_some_iff.1 hn;obtain⟨_,u,e,hu,x1,x2,x3⟩:=Row.at1 h q hq;cases e;rw [List.getElem?_map,hn] at hu;cases hu;exact⟨x1,x2,x3⟩
theorem inplace_walk(len:Int)(h:Hp)(vs:Value)(l:List OpV)(hl:OpsIn h vs l)(hlu:∀x∈l,U8 x.key∧x.key.length≤140737488351232∧x.value.length≤140737488351232)(o:OpV)(ko vo:Value)(hko:Bytes h ko o.key)(hvo:Bytes h vo o.value)(hou:U8 o.key∧o.key.length≤140737488351232∧o.value.length≤140737488351232)(F:Pr)(w:World)(hF:OwnL [Pr.own h,F] w):
 Calls Tryz.prog 4 #[.int .i64 len,vs,.agg #[.int .i64 o.kind,.int .i64 o.t,ko,vo]] w fun e w'=>e= .returned (.bool true)∧Stays w w'∧OwnL [Pr.own h,F] w':=by
 obtain⟨sa,sc,rfl,hlc,hcm,rd⟩:=ops_rd hl;obtain⟨oka,okc,rfl⟩:=bytes_shape hko;obtain⟨ova,ovc,rfl⟩:=bytes_shape hvo;obtain⟨n,hn0⟩:∃n:Nat,n=min l.length 60:=⟨_,rfl⟩;have hmin:min (l.length:Int) 60=(n:Int):=by omega
 have hnc:n≤sc:=by omega
 have hn2:n≤60:=by omega
 have hn3:n≤l.length:=by omega
 have hsz:∀w:World,(Go.sizeOf 53).run Tryz.prog w= .ok 4 w:=fun w=>by go_simp
 have hs0:=hF.alloc (.cells #[.int .i64 o.kind,.int .i64 o.t,.slice oka o.key.length okc,.slice ova o.value.length ovc] 53);have WK:=hQ (works_any _ _ hs0.sat);have HST:=hQ ((Stays.refl w).alloc (.cells #[.int .i64 o.kind,.int .i64 o.t,.slice oka o.key.length okc,.slice ova o.value.length ovc] 53));have RD:=hQ rd;have HK:=hQ (And.intro hko (And.intro hvo hou));have HLU:=hQ hlu
 obtain⟨B0,hB0⟩:∃B0,w.heap.size=B0:=⟨_,rfl⟩;clear hF hs0 hl rd hko hvo hou hlu hn0 hlc hcm;go_enter Tryz.func4,Tryz.ntmps4
 go_wp2_with (first | refine wpList_min rfl _ _ rfl rfl (l.length:Int) 60 (n:Int) hmin.symm rfl rfl ?_ | refine wpList_slice_to rfl 51 53 _ _ rfl Tryz.underlying51 4 hsz sa l.length sc n hnc rfl rfl ?_)
 refine WK.out.mono ?_;rintro e w1 ⟨st1,rfl,hf1⟩;have hs1:OwnL [Pr.pts B0 (.cells #[.int .i64 o.kind,.int .i64 o.t,.slice oka o.key.length okc,.slice ova o.value.length ovc] 53),Pr.own h,F] w1:=by rw [← hB0];exact⟨hf1⟩
 have hs2:=hs1.alloc (treeC 0 0 0);have PZ:=hQ (played_zero len w1.heap.size _ _ (OwnL.in1 (hs2.pull1 (A1:=Pr.pts w1.heap.size (treeC 0 0 0)))));have HST1:=hQ ((HST.out.trans st1).alloc (treeC 0 0 0));clear hf1 hs1 hs2 st1 WK HST;go_wp2_with fail
 refine PZ.out.mono ?_;rintro e w2 ⟨st2,(⟨hbad,rfl,hs3⟩ | ⟨N,rfl,hro,b,v,m,o1,o2,rfl,hs3⟩)⟩
 · have HEND:=hQ (And.intro (HST1.out.trans st2) (hs3.flat.to (M:= [Pr.own h,F])))
   clear hbad hs3 st2 PZ HST1;go_wp2;go_ret;exact⟨rfl,HEND.out.1,HEND.out.2⟩
 · have hs4:=hs3.flat.to (M:= [Pr.pts b (worldC (.pointer (some ⟨v,0,none⟩)) m o1 o2),TrRow o1 [⟨0,0,0⟩],VaultA v (newV 2 N),Pr.own h,Pr.pts B0 (.cells #[.int .i64 o.kind,.int .i64 o.t,.slice oka o.key.length okc,.slice ova o.value.length ovc] 53),F])
   have HS4:=hQ hs4;have HPI:=hQ (pi_new hro (65*62) (by decide));have HST2:=hQ (HST1.out.trans st2);clear hs3 hs4 hro st2 PZ HST1;go_wp2_with fail
   go_loopg [8] n (fun kk i wr=> ∃(p:Nat) (s:VaultS) (t:TreeV),p+kk=n∧i= .int .i64 p∧Stays w wr∧Hid (PiI s t (65*(62-p)) p)∧Hid (OwnL [Pr.pts b (worldC (.pointer (some ⟨v,0,none⟩)) m o1 o2),TrRow o1 [t],VaultA v s,Pr.own h,Pr.pts B0 (.cells #[.int .i64 o.kind,.int .i64 o.t,.slice oka o.key.length okc,.slice ova o.value.length ovc] 53),F] wr))
   case atStart=>exact⟨0,_,_,Nat.zero_add _,rfl,HST2.out,HPI,HS4⟩
   case round=>
    obtain⟨p,s,t,hp,rfl,hst,hpi,hs⟩:=hrel;rename World=>wr
    have HST3:=hQ hst;clear hst HST2 HPI HS4;rcases Nat.lt_or_ge p n with hlt | hge
    · obtain⟨k0,hk0⟩:∃k0,k0+1=gk:=⟨gk-1,by omega⟩
      have hlt2:p<l.length:=by omega
      have hpi1:(p:Int)<(n:Int):=by omega
      have hpi2:(p:Int)<60:=by omega
      obtain⟨sb,off,ak,ck,av,cv,rfl,hbk,hbv,hcc⟩:=RD.out p hlt2;obtain⟨d1,d2,d3,d4⟩:=hcc wr (hs.out.le (a:=h));have zb:=World.block_lt_of_cell? _ _ d1;simp only at zb;obtain⟨hu,hkl,hvl⟩:=HLU.out _ (List.getElem_mem hlt2);generalize l[p]=x at*;have c1:=hs.out.facts;simp only [CellsAt,Nat.reduceAdd,and_true] at c1;by_cases hk:x.kind=0
      · rw [hk] at d1
        have h65:65*(62-p)=65*(61-p)+65:=by omega
        have hp0:=hpi.out;rw [h65] at hp0;obtain⟨r,hr⟩:=hp0.hist;obtain⟨S,L,hc,hsd⟩:=hp0.std
        have PP:=plays_put b v m o1 o2 [t] 0 (by simp) t rfl s r hr hp0.vi (65*(61-p)) hp0.rm h _ _ x.key x.value hbk hbv hu hkl hvl S [] hc L hsd (by have:=hp0.itb;omega) _ _ (OwnL.in4 (hs.out.drew.pull4 (A1:=Pr.pts b (worldC (.pointer (some ⟨v,0,none⟩)) m o1 o2)) (A2:=TrRow o1 [t]) (A3:=VaultA v s) (A4:=Pr.own h)));have PP:=hQ PP;have HP0:=hQ (And.intro hp0 (And.intro hc (And.intro hsd hu)))
        have HST4:=hQ HST3.out.drew;have HCC:=hQ hcc;clear hp0 hr hc hsd hbk hbv hu hkl hvl hcc hs hpi HST3 h65;go_wp2_with fail
        refine wS 168 [0,1,2,3,4,5,6,7,8,9,10,11] [(12,[],[1,2,3,4,5,6,7,8,9,10])] ?_;refine wpQ_all _ rfl rfl ?_;simp only [pick,pQ];iterate 12 (go_big_quiet_step (fail))
        refine wpQuiet_nil ?_;refine wpRest_act rfl ?_;go_wp2_with fail
        refine PP.out.mono ?_;rintro e w4 ⟨st4,rt',ht',it',ws,er,s',rfl,hout,hs5⟩;have hstep:=pi_step HP0.out.1 HP0.out.2.2.2 HP0.out.2.1 HP0.out.2.2.1 hout;have hs6:=hs5.flat;rw [show (if er=0 then [t].set 0 ⟨rt',ht',it'⟩ else [t])= [if er=0 then⟨rt',ht',it'⟩ else t] by split<;>rfl] at hs6;obtain⟨t',ht⟩:∃t',t'=(if er=0 then(⟨rt',ht',it'⟩:TreeV) else t):=⟨_,rfl⟩;rw [← ht] at hs6 hstep
        obtain⟨_,_,d5,d6⟩:=HCC.out w4 (hs6.le (a:=h));have HEND:=hQ (And.intro (HST4.out.trans st4) (And.intro hstep.1 (hs6.to (M:= [Pr.pts b (worldC (.pointer (some ⟨v,0,none⟩)) m o1 o2),TrRow o1 [t'],VaultA v s',Pr.own h,Pr.pts B0 (.cells #[.int .i64 o.kind,.int .i64 o.t,.slice oka o.key.length okc,.slice ova o.value.length ovc] 53),F]))))
        clear hstep hs5 hs6 ht hout st4 PP HST4 HP0 c1 d1 d2 d3 d4 HCC;go_wp2;refine onN_mk ?_;refine wpQ_nil ⟨?_,?_⟩
        · refine chk_all _ rfl rfl ?_
          simp only [pick,Sl.Same,pQ,and_true];repeat' (first | apply And.intro | (go_big_quiet_step (fail);exact wpQuiet_nil rfl))
        refine wpRest_nil ?_;go_wp2_with fail
        go_roundg k0
        case measure=>omega
        case rel=>exact⟨p+1,s',t',by omega,congrArg (Value.int .i64) (by omega),HEND.out.1,hQ (HEND.out.2.1.le (by omega) (Nat.le_refl _)),hQ HEND.out.2.2⟩
      · have hk':(x.kind == 0)=false:=by simpa using hk
        clear hk;go_wp2_with fail
        go_roundg k0
        case measure=>omega
        case rel=>exact⟨p+1,s,t,by omega,congrArg (Value.int .i64) (by omega),HST3.out,hQ (hpi.out.le (by omega) (by omega)),hs⟩
    · have hpi1:¬((p:Int)<(n:Int)):=by omega
      have hp0:=hpi.out.le (k':=65) (j':=61) (by omega) (by omega);obtain⟨tb,oc,rfl,⟨d1,d2,d3⟩,_,d4⟩:=tr_cell (hs.out.pull1 (A1:=TrRow o1 [t])) (i:=0) (by simp);simp only [Nat.zero_mul,Nat.zero_add,List.getElem_cons_zero] at d1 d2 d3;have CB:=hQ (copybytes_any h _ o.key _ _ (hs.out.drew.pull1 (A1:=Pr.own h)) HK.out.1 (by have:=HK.out.2.2.2.1;omega));have c1:=hs.out.facts
      simp only [CellsAt,Nat.reduceAdd,and_true] at c1;have HP0:=hQ hp0;have HST4:=hQ HST3.out.drew;clear hp0 hs hpi HST3;go_wp2_with fail
      refine wS 168 [0,1,2,3,4,5,6,7,8,9,10,11] [(12,[],[0,1,2,3,4,5,6,7,8,9,10]),(13,[14,15,16,17,18],[0,1,2,4,5,6,7,8,10])] ?_;refine wpQ_all _ rfl rfl ?_;simp only [pick,pQ];iterate 12 (go_big_quiet_step (fail))
      refine wpQuiet_nil ?_;refine wpRest_act rfl ?_;go_wp2_with fail
      refine CB.out.mono ?_;rintro e w3 ⟨kb,rfl,hs5,st3⟩;have hs6:=OwnL.of2 hs5;obtain⟨kba,kbc,rfl⟩:=Row.shape (hs6.pull1 (A1:=BytesRow kb o.key));obtain⟨a,ha,hs7⟩:=hs6.arena (BytesRow (.slice kba o.key.length kbc) o.key);obtain⟨r,hr⟩:=HP0.out.hist;obtain⟨S,L,hc,hsd⟩:=HP0.out.std
      have WA:=hQ (way_any v s (lookV s) HP0.out.vi.look HP0.out.vi.pgs a _ o.key (Row.rowIn ha) HK.out.2.2.1 t.root t.height t.items L (stand_T HP0.out.vi hsd) _ _ (OwnL.in2 (hs7.pull2 (A1:=VaultA v s) (A2:=Pr.own a))));obtain⟨_,_,e1,⟨d5,d6,d7⟩,_,d8⟩:=tr_cell (hs7.pull1 (A1:=TrRow (.slice (some ⟨tb,0,none⟩) 1 oc) [t])) (i:=0) (by simp);cases e1
      simp only [Nat.zero_mul,Nat.zero_add,List.getElem_cons_zero] at d5 d6 d7;clear c1 d1 d2 d3 d4;have c1:=hs7.facts;simp only [CellsAt,Nat.reduceAdd,and_true] at c1;have HC:=hQ (And.intro hr (And.intro hc hsd));have HST5:=hQ (HST4.out.trans st3);clear hs5 hs6 hs7 ha hr hc hsd st3 CB HST4;go_wp2;refine onN_mk ?_;refine wpQ_nil ⟨?_,?_⟩
      · refine chk_all _ rfl rfl ?_
        simp only [pick,Sl.Same,pQ,and_true];repeat' (first | apply And.intro | (go_big_quiet_step (fail);exact wpQuiet_nil rfl))
      refine wpRest_act rfl ?_;go_wp2_with fail
      refine WA.out.mono ?_;rintro e w4 ⟨st4,way,rfl,hs8⟩;obtain⟨W,hW⟩:∃W,W=wayK (lookV s) t.root t.height o.key:=⟨_,rfl⟩;rw [← hW] at hs8;have hs9:=hs8.flat;obtain⟨wa,wcp,rfl⟩:=Row.shape (hs9.pull1 (A1:=IntsRow way W));have HW:=hQ (show ∀m∈W,∃g,lookV s m=some g∧g.kind≠3 by rw [hW];exact way_pages HP0.out.vi o.key HC.out.2.2);obtain⟨pp,e0,f0,_,_,CO⟩:=pool_of v s _ _ (hs9.pull1 (A1:=VaultA v s))
      have CO:=hQ CO;clear c1 d5 d6 d7 d8;have c1:=hs9.facts;simp only [CellsAt,Nat.reduceAdd,and_true] at c1;have HST6:=hQ (HST5.out.trans st4);clear hs8 hs9 hW st4 WA HST5;go_wp2;refine onN_mk ?_;refine wpQ_all _ rfl rfl ?_;simp only [pick,pQ];iterate 5 (go_big_quiet_step (fail))
      refine wpQuiet_nil ⟨?_,?_⟩
      · refine chk_all _ rfl rfl ?_
        simp only [pick,Sl.Same,pQ,and_true];repeat' (first | apply And.intro | (go_big_quiet_step (fail);exact wpQuiet_nil rfl))
      refine wpRest_nil ?_;go_wp2_with fail
      refine CO.out.mono ?_;rintro e w5 ⟨st5,cs,rfl,hs10⟩;have hs11:=hs10.flat;obtain⟨ca,cc,rfl⟩:=Row.shape (hs11.pull1 (A1:=IntsRow cs s.pool.counts))
      have PP:=hQ (plays_put b v m (.slice (some ⟨tb,0,none⟩) 1 oc) o2 [t] 0 (by simp) t rfl s r HC.out.1 HP0.out.vi 0 HP0.out.rm h _ _ o.key o.value HK.out.1 HK.out.2.1 HK.out.2.2.1 HK.out.2.2.2.1 HK.out.2.2.2.2 S [] HC.out.2.1 L HC.out.2.2 (by have:=HP0.out.itb;omega) _ _ (OwnL.in4 (hs11.pull4 (A1:=Pr.pts b (worldC (.pointer (some ⟨v,0,none⟩)) m (.slice (some ⟨tb,0,none⟩) 1 oc) o2)) (A2:=TrRow (.slice (some ⟨tb,0,none⟩) 1 oc) [t]) (A3:=VaultA v s) (A4:=Pr.own h))))
      clear c1 e0 f0;have c1:=hs11.facts;simp only [CellsAt,Nat.reduceAdd,and_true] at c1;have HST7:=hQ (HST6.out.trans st5);clear hs10 hs11 st5 CO HST6;go_wp2_with fail
      refine PP.out.mono ?_;rintro e w6 ⟨st6,rt',ht',it',ws,er,s',rfl,hout,hs12⟩;obtain⟨hpi',hstay,hback⟩:=pi_step (k:=0) HP0.out HK.out.2.2.1 HC.out.2.1 HC.out.2.2 hout;have hs13:=hs12.flat;obtain⟨pp2,e0,f0,CN,TL,CO⟩:=pool_of v s' _ _ (hs13.pull1 (A1:=VaultA v s'));have HST8:=hQ (HST7.out.trans st6);clear c1 hout st6 PP HST7 hs12;have c1:=hs13.facts
      simp only [CellsAt,Nat.reduceAdd,and_true] at c1;by_cases her:er=0
      · subst her
        have hWl:W.length≤9223372036854775807:=by
         obtain⟨_,(⟨_,e,_⟩ | ⟨_,_,_,_,_,e1,e2,_⟩)⟩:=Row.open' (hs13.pull1 (A1:=IntsRow (.slice wa W.length wcp) W))
         · omega
         · simp only [maxLen] at e2
           omega
        have HWL:=hQ hWl;have HS13:=hQ (hs13.to (M:= [IntsRow (.slice wa W.length wcp) W,Pr.pts b (worldC (.pointer (some ⟨v,0,none⟩)) m (.slice (some ⟨tb,0,none⟩) 1 oc) o2),VaultA v s',Pr.own h,F]));have HPI:=hQ (And.intro hpi' hstay);clear hpi' hstay hback CN TL CO hs13 hWl e0 f0 c1;go_wp2_with fail
        go_loopg [14] W.length (fun kk i wr=> ∃q:Nat,q+kk=W.length∧i= .int .i64 q∧Stays w wr∧Hid (OwnL [IntsRow (.slice wa W.length wcp) W,Pr.pts b (worldC (.pointer (some ⟨v,0,none⟩)) m (.slice (some ⟨tb,0,none⟩) 1 oc) o2),VaultA v s',Pr.own h,F] wr))
        case atStart=>exact⟨0,Nat.zero_add _,rfl,HST8.out,HS13⟩
        case round=>
         obtain⟨q,hq,rfl,hst,hs⟩:=hrel;rename World=>wr
         have HST9:=hQ hst;clear hst HST8 HS13;rcases Nat.lt_or_ge q W.length with hlt | hge
         · obtain⟨k0,hk0⟩:∃k0,k0+1=gk:=⟨gk-1,by omega⟩
           have hqi:(q:Int)<(W.length:Int):=by omega
           have hq9:(q:Int)<9223372036854775807:=by have:=HWL.out;omega
           obtain⟨wb,u,rfl,hu,x1,x2,x3⟩:=Row.at1 (hs.out.pull1 (A1:=IntsRow (.slice wa W.length wcp) W)) q hlt;rw [List.getElem?_map,List.getElem?_eq_getElem hlt] at hu;obtain rfl:=(Option.some.inj hu).symm;obtain⟨g0,hg0,hk3⟩:=HW.out _ (List.getElem_mem hlt);have HNQ:=hQ (show W[q]? =some W[q] from List.getElem?_eq_getElem hlt);generalize W[q]=nq at*;obtain⟨hc0,hon0⟩:=on_look HP0.out.vi hg0
           obtain⟨s1,s2⟩:=HPI.out.2 nq hc0 (by rw [get_on hon0];exact hk3);have hc1:s'.pool.count nq≠0:=by rw [s1];exact hc0
           obtain⟨g,hg⟩:=HPI.out.1.vi.on nq hc1
           have hkg:g.kind≠3:=by
            rw [get_on hg,get_on hon0] at s2;rw [s2];exact hk3
           have hck:=HPI.out.1.vi.chk nq g hg
           have hcn:s'.pool.count nq=1:=by
            have h1:=HPI.out.1.lone.cnt nq;have h2:=(count_bd HPI.out.1.vi.ok nq).1;omega
           have hkd:g.kind=1∨g.kind=2:=by
            rcases (form_of_check hck).kind with h1 | h1 | h1
            · exact .inl h1
            · exact .inr h1
            · exact absurd h1 hkg
           have hth:=there_of_count hc1;have RD2:=hQ (fun FX wx hf=>read_rows v s' nq ⟨hth.1,by have:=hth.2;have:=HPI.out.1.vi.ok.n2;omega⟩ g (fit_of_check hck) FX wx hf hc1 hg);have HG:=hQ (And.intro hck (And.intro hkd hcn));clear hu hg0 hk3 hc0 hon0 s1 s2 hc1 hg hkg hck hcn hkd hth;have c1:=hs.out.facts;simp only [CellsAt,Nat.reduceAdd,and_true] at c1;go_wp2_with fail
           go_cut [15,16] from 109 to 121 (fun t15 t16 wx=> ∃(J:Nat) (T:ToldX) (pa da:Option Addr) (pc dc:Nat),t15= .pointer (some ⟨J,0,none⟩)∧t16= .int .i64 0∧Stays w wx∧Hid (T.g=g∧T.pv=pageV g.kind g.level (.slice pa g.items.length pc) (.slice da g.data.length dc) g.next)∧
            OwnL [Pr.pts J (pageC g.kind g.level (.slice pa g.items.length pc) (.slice da g.data.length dc) g.next),PgOwn T,IntsRow (.slice (some ⟨wb,0,none⟩) W.length wcp) W,Pr.pts b (worldC (.pointer (some ⟨v,0,none⟩)) m (.slice (some ⟨tb,0,none⟩) 1 oc) o2),VaultA v s',Pr.own h,F] wx)
           case first=>
            refine wp_region_forked (sz:=168) (by kernel_rfl) [0,1,2,3,4,5,6,7] [(12,[],[0,1,2,3,4,5,6,7],[(8,[9,10,11],[0,1,2,4,5,6]),(13,[14],[11])]),(8,[9,10,11],[0,1,2,4,5,6],[(12,[],[0,1,2,4,5,6,9,10,11]),(13,[14],[11])])] rfl (by kernel_rfl) (by kernel_rfl) (by kernel_rfl) ?_;refine wpQ_all _ rfl rfl ?_;simp only [pick,pQ];iterate 8 (go_big_quiet_step (fail))
            refine wpQuiet_nil ?_;intro sx hsx;rcases List.mem_cons.1 hsx with rfl | hsx
            · have hs20:=hs.out.drew.alloc (pageC 0 0 (.slice none 0 0) (.slice none 0 0) 0)
              rw [show wr.drew.heap.size=wr.heap.size by simp] at hs20;have RV:=hQ (RD2.out _ _ (hs20.pull1 (A1:=VaultA v s')));have HST10:=hQ (HST9.out.drew.alloc (pageC 0 0 (.slice none 0 0) (.slice none 0 0) 0));clear hs20;refine wpRest_act rfl ?_;go_wp2;refine onN_mk ?_;refine wpQ_nil ⟨?_,?_⟩
              · refine chk_all _ rfl rfl ?_
                simp only [pick,Sl.Same,pQ,and_true];repeat' (first | apply And.intro | (go_big_quiet_step (fail);exact wpQuiet_nil rfl))
              refine wpRest_act rfl ?_;go_wp2_with fail
              refine RV.out.mono ?_;rintro e w10 ⟨st10,T,rfl,eg,hs21⟩;have hs22:=OwnL.of2 hs21;obtain⟨pa,pc,da,dc,hpv⟩:=told_sh (hs22.pull1 (A1:=PgOwn T));rw [eg] at hpv;rw [hpv];dsimp only [pageV]
              have hs23:=((((hs22.set wr.heap.size 0 (.int .i64 g.kind)).set wr.heap.size 1 (.int .i64 g.level)).set wr.heap.size 2 (.slice pa g.items.length pc)).set wr.heap.size 3 (.slice da g.data.length dc)).set wr.heap.size 4 (.int .i64 g.next);clear c1;have c1:=hs22.facts;simp only [CellsAt,Nat.reduceAdd,and_true] at c1
              obtain⟨y1,y2,y3⟩:=way_at (hs22.pull1 (A1:=IntsRow (.slice (some ⟨wb,0,none⟩) W.length wcp) W)) HNQ.out
              have HEND:=hQ (And.intro ((((((HST10.out.trans st10).setCell ⟨wr.heap.size,0,none⟩ (.int .i64 g.kind)).setCell ⟨wr.heap.size,1,none⟩ (.int .i64 g.level)).setCell ⟨wr.heap.size,2,none⟩ (.slice pa g.items.length pc)).setCell ⟨wr.heap.size,3,none⟩ (.slice da g.data.length dc)).setCell ⟨wr.heap.size,4,none⟩ (.int .i64 g.next)) (And.intro (And.intro eg hpv) hs23))
              clear hs21 hs22 hs23 st10 RV HST10 eg hpv;go_wp2;refine onN_mk ?_;refine wpQ_all _ rfl rfl ?_;simp only [pick,pQ];iterate 3 (go_big_quiet_step (fail))
              refine wpQuiet_nil ⟨?_,?_⟩
              · refine chk_all _ rfl rfl ?_
                simp only [pick,Sl.Same,pQ,and_true];repeat' (first | apply And.intro | (go_big_quiet_step (fail);exact wpQuiet_nil rfl))
              refine wpRest_act rfl ?_;go_wp2_with fail
              refine onN_mk ?_;refine wpQ_all _ rfl rfl ?_;simp only [pick,pQ];iterate 1 (go_big_quiet_step (fail))
              refine wpQuiet_nil ⟨?_,?_⟩
              · refine chk_all _ rfl rfl ?_
                simp only [pick,Sl.Same,pQ,and_true];repeat' (first | apply And.intro | (go_big_quiet_step (fail);exact wpQuiet_nil rfl))
              refine wpRest_nil ?_;go_wp2;go_meet
              exact⟨_,T,pa,da,pc,dc,rfl,rfl,HEND.out.1,hQ HEND.out.2.1,HEND.out.2.2.to⟩
            · cases List.mem_singleton.1 hsx
              have RV:=hQ (RD2.out _ _ (hs.out.drew.pull1 (A1:=VaultA v s')));refine wpRest_act rfl ?_;go_wp2_with fail
              refine RV.out.mono ?_;rintro e w10 ⟨st10,T,rfl,eg,hs21⟩;have hs22:=OwnL.of2 hs21;obtain⟨pa,pc,da,dc,hpv⟩:=told_sh (hs22.pull1 (A1:=PgOwn T));rw [eg] at hpv;rw [hpv];dsimp only [pageV];clear c1;have c1:=hs22.facts;simp only [CellsAt,Nat.reduceAdd,and_true] at c1;obtain⟨y1,y2,y3⟩:=way_at (hs22.pull1 (A1:=IntsRow (.slice (some ⟨wb,0,none⟩) W.length wcp) W)) HNQ.out
              have HEND:=hQ (And.intro ((HST9.out.drew.trans st10).alloc (pageC g.kind g.level (.slice pa g.items.length pc) (.slice da g.data.length dc) g.next)) (And.intro (And.intro eg hpv) (hs22.alloc (pageC g.kind g.level (.slice pa g.items.length pc) (.slice da g.data.length dc) g.next))));clear hs21 hs22 st10 RV eg hpv;go_wp2;refine onN_mk ?_;refine wpQ_all _ rfl rfl ?_;simp only [pick,pQ]
              iterate 3 (go_big_quiet_step (fail))
              refine wpQuiet_nil ⟨?_,?_⟩
              · refine chk_all _ rfl rfl ?_
                simp only [pick,Sl.Same,pQ,and_true];repeat' (first | apply And.intro | (go_big_quiet_step (fail);exact wpQuiet_nil rfl))
              refine wpRest_act rfl ?_;go_wp2;refine onN_mk ?_;refine wpQ_nil ⟨?_,?_⟩
              · refine chk_all _ rfl rfl ?_
                simp only [pick,Sl.Same,pQ,and_true];repeat' (first | apply And.intro | (go_big_quiet_step (fail);exact wpQuiet_nil rfl))
              refine wpRest_act rfl ?_;go_wp2;refine onN_mk ?_;refine wpQ_all _ rfl rfl ?_;simp only [pick,pQ];iterate 1 (go_big_quiet_step (fail))
              refine wpQuiet_nil ⟨?_,?_⟩
              · refine chk_all _ rfl rfl ?_
                simp only [pick,Sl.Same,pQ,and_true];repeat' (first | apply And.intro | (go_big_quiet_step (fail);exact wpQuiet_nil rfl))
              refine wpRest_nil ?_;go_wp2;go_meet
              exact⟨_,T,pa,da,pc,dc,rfl,rfl,HEND.out.1,hQ HEND.out.2.1,HEND.out.2.2.to⟩
           case rest=>
            obtain⟨J,T,pa,da,pc,dc,rfl,rfl,st11,htt,hs24⟩:=hcut;obtain⟨hck,hkd,hcn⟩:=HG.out;obtain⟨ap,hap,hs25⟩:=hs24.arena (PgOwn T);have hpi:=pgOwn_in hap;rw [htt.out.1,htt.out.2] at hpi;have CK:=rcheck_any g ap _ hpi wc.drew (hs25.drew.le (a:=ap));rw [hck] at CK;obtain⟨kd,hkk⟩:∃kd,kd=g.kind:=⟨_,rfl⟩;rw [← hkk] at hs25 CK hkd;have CK:=hQ CK
            obtain⟨y1,y2,y3⟩:=way_at (hs25.pull1 (A1:=IntsRow (.slice (some ⟨wb,0,none⟩) W.length wcp) W)) HNQ.out;clear c1 x1 x2 x3;have c1:=hs25.facts;simp only [CellsAt,Nat.reduceAdd,and_true] at c1;obtain⟨pp,e0,f0,_⟩:=pool_of v s' _ _ (hs25.pull1 (A1:=VaultA v s'));have HS25:=hQ hs25.drew;have HST11:=hQ st11.drew;have HCN:=hQ hcn;clear hs24 hs25 hap hpi htt st11 RD2 HST9 hck hcn hkk HG
            rcases hkd with rfl | rfl
            all_goals
             go_wp2_with fail
             refine wS 168 [0,1,2,3] [(4,[5,6,7,8,9,10,11,12,13,14,15,16,17,18,19,20,21,22,23],[0,1]),(24,[25,26],[0,1,5,6,7,8,9,10,11,13,14,15,16,17,18,20,21,22])] ?_;refine wpQ_all _ rfl rfl ?_;simp only [pick,pQ];iterate 4 (go_big_quiet_step (fail))
             refine wpQuiet_nil ?_;refine wpRest_act rfl ?_;go_wp2_with fail
             refine CK.out.mono ?_;rintro e w12 ⟨rfl,ho⟩;have hs26:=HS25.out.ext ho.heap;clear c1 e0 f0 y1 y2 y3;have c1:=hs26.facts;simp only [CellsAt,Nat.reduceAdd,and_true] at c1;obtain⟨y1,y2,y3⟩:=way_at (hs26.pull1 (A1:=IntsRow (.slice (some ⟨wb,0,none⟩) W.length wcp) W)) HNQ.out;obtain⟨pp2,e0,f0,CN,_⟩:=pool_of v s' _ _ (hs26.pull1 (A1:=VaultA v s'));have CN:=CN nq;rw [HCN.out] at CN
             have CN:=hQ CN;have HS26:=hQ (And.intro (HST11.out.trans ho.st) (hs26.to (M:= [IntsRow (.slice (some ⟨wb,0,none⟩) W.length wcp) W,Pr.pts b (worldC (.pointer (some ⟨v,0,none⟩)) m (.slice (some ⟨tb,0,none⟩) 1 oc) o2),VaultA v s',Pr.own h,F])));clear hs26 ho CK HS25 HST11;go_wp2;refine onN_mk ?_;refine wpQ_all _ rfl rfl ?_;simp only [pick,pQ];iterate 19 (go_big_quiet_step (fail))
             refine wpQuiet_nil ⟨?_,?_⟩
             · refine chk_all _ rfl rfl ?_
               simp only [pick,Sl.Same,pQ,and_true];repeat' (first | apply And.intro | (go_big_quiet_step (fail);exact wpQuiet_nil rfl))
             refine wpRest_act rfl ?_;go_wp2_with fail
             refine CN.out.mono ?_;rintro e w13 ⟨rfl,rfl⟩;go_wp2;refine onN_mk ?_;refine wpQ_all _ rfl rfl ?_;simp only [pick,pQ];iterate 2 (go_big_quiet_step (fail))
             refine wpQuiet_nil ⟨?_,?_⟩
             · refine chk_all _ rfl rfl ?_
               simp only [pick,Sl.Same,pQ,and_true];repeat' (first | apply And.intro | (go_big_quiet_step (fail);exact wpQuiet_nil rfl))
             refine wpRest_nil ?_;go_wp2_with fail
             go_roundg k0
             case measure=>omega
             case rel=>exact⟨q+1,by omega,congrArg (Value.int .i64) (by omega),HS26.out.1,hQ HS26.out.2⟩
         · have hqi:¬((q:Int)<(W.length:Int)):=by omega
           obtain⟨pp2,e0,f0,_,TL,_⟩:=pool_of v s' _ _ (hs.out.pull1 (A1:=VaultA v s'));have T4:=TL 4 (.inr rfl);have T2:=TL 2 (.inl rfl);rw [lone_tally HPI.out.1.lone (.inr rfl)] at T4;rw [lone_tally HPI.out.1.lone (.inl rfl)] at T2;have T4:=hQ T4;have T2:=hQ T2;have c1:=hs.out.facts;simp only [CellsAt,Nat.reduceAdd,and_true] at c1;have HEND:=hQ (And.intro HST9.out (hs.out.to (M:= [Pr.own h,F])))
           clear hs TL HST9;go_wp2_with fail
           refine T4.out.mono ?_;rintro e w12 ⟨rfl,rfl⟩;go_wp2_with fail
           refine T2.out.mono ?_;rintro e w12 ⟨rfl,rfl⟩;go_wp2;go_ret;exact⟨rfl,HEND.out.1,HEND.out.2⟩
      · have hne':(er == 0)=false:=by simpa using her
        obtain rfl:=hback her;have CO:=hQ CO;have HN:=hQ hpi'.vi.ok.n2;clear hpi' hstay hback CN TL hs13 her;go_wp2_with fail
        refine CO.out.mono ?_;rintro e w7 ⟨st7,cs2,rfl,hs14⟩;have hs15:=hs14.flat;obtain⟨ca2,cc2,rfl⟩:=Row.shape (hs15.pull1 (A1:=IntsRow cs2 s'.pool.counts));obtain⟨a1,ha1,hs16⟩:=hs15.arena (IntsRow (.slice ca s'.pool.counts.length cc) s'.pool.counts);obtain⟨a2,ha2,hs17⟩:=hs16.arena (IntsRow (.slice ca2 s'.pool.counts.length cc2) s'.pool.counts)
        have EQ:=hQ (eqints_same a1 a2 _ _ s'.pool.counts (Row.rowIn ha1) (Row.rowIn ha2) HN.out w7 (hs17.le (a:=a1)) (hs17.le (a:=a2)));have HS17:=hQ hs17;have HST9:=hQ (HST8.out.trans st7);clear hs14 hs15 hs16 hs17 ha1 ha2 st7 CO HST8 c1 e0 f0;go_wp2_with fail
        refine EQ.out.mono ?_;rintro e w8 ⟨rfl,ho⟩;have HEND:=hQ (And.intro (HST9.out.trans ho.st) ((HS17.out.ext ho.heap).to (M:= [Pr.own h,F])));clear EQ ho HST9 HS17;go_wp2;go_ret;exact⟨rfl,HEND.out.1,HEND.out.2⟩
end Go.Proofs.YtkfjilnmnbeokaaGreat.Dy
