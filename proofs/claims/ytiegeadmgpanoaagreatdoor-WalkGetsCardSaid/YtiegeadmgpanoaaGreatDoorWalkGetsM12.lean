/- What the law of WalkGets compares: rows told that are the same, rows handed in; the conditions stand as hypotheses. -/
import Derived.Test.YtiegeadmgpanoaaGreatDoorWalkGetsM09
import Derived.Test.YtiegeadmgpanoaaGreatDoorWalkGetsM08
import Derived.Test.YtiegeadmgpanoaaGreatDoorWalkGetsM10
import Derived.Test.YtiegeadmgpanoaaGreatDoorWalkChecksM25
import Derived.Test.YtiegeadmgpanoaaGreatDoorWalkGetsM05
import Derived.Test.YtiegeadmgpanoaaGreatDoorWalkChecksM13
import Derived.Test.YtiegeadmgpanoaaGreatDoorWalkGetsM04
import Derived.Test.YtiegeadmgpanoaaGreatDoorWalkChecksM32
import Derived.Test.YtiegeadmgpanoaaGreatDoorWalkGetsM11
import Derived.Test.YtiegeadmgpanoaaGreatDoorWalkChecksM28
import Derived.Test.YtiegeadmgpanoaaGreatDoorWalkGetsM07
import Derived.Test.YtiegeadmgpanoaaGreatDoorWalkGetsM01
import Derived.Test.YtiegeadmgpanoaaGreatDoorWalkChecksM01
set_option maxRecDepth 100000
set_option maxHeartbeats 16000000
namespace Go.Proofs.YtiegeadmgpanoaaGreatDoor.Z8
open ChangeShapes WideShapes ChangeAt RowKit Sl Cop Go.Shelf D2 F3 N3 P3 G2 J2 Q3 V3 G4 K4 X3 M5 P5 U5 W5 N2 P2 L6 S6 J7 N5 S5 K7 V7 Z7 B8 G6 J6 T6 B6 M2 N7 M7 K3 C4 D4 F4 M4 G5 K5 F6 D7 C8 L8 Q7 U7 X5 Y5 X7 J8 N8 D8 W7 K8 P8 Q8 E4 U6 T8 V8 Y6
attribute [local go_sem] Oper.semAt_some
abbrev TextsIn(h:Hp)(v:Value)(l:List (Value × List Int)):Prop:=RowIn h 1 v l.length (l.map Prod.fst)
theorem texts_rd {h:Hp}{v:Value}{l:List (Value × List Int)}(hr:TextsIn h v l):∃a c,v= .slice a l.length c∧l.length≤c∧c≤maxLen∧∀i (hl:i<l.length),∃b off,a=some ⟨b,off,none⟩∧∀w,h.le w→w.cell? ⟨b,off+i,none⟩=some l[i].1:=by
 obtain⟨_,a,c,e,h1,h2,hc⟩:=hr;refine⟨a,c,e,h1,h2,fun i hl=> ?_⟩;obtain⟨b,off,ea,hcell⟩:=hc (by omega);refine⟨b,off,ea,fun w hw=> ?_⟩;have h3:=hcell i (by omega);rw [List.getElem?_map,List.getElem?_eq_getElem hl] at h3;exact Hp.cell_le hw h3
theorem eqrow_any(a b:Value)(V:List Int)(hn:V.length≤9000000000000000000)(F:Pr)(w:World)(h:Sat ((BytesRow a V).star ((BytesRow b V).star F)) w):
 Calls Tryz.prog 16 #[a,b] w fun e w'=>e= .returned (.bool true)∧Only w w':=by
 obtain⟨x,hx,h1⟩:=h.toOwn;obtain⟨y,hy,h2⟩:=(h1.perm (B:=(BytesRow b V).star ((Pr.own x).star F)) (by ac_rfl)).toOwn;exact eq_same x y a b V (Row.rowIn hx) (Row.rowIn hy) hn w h2.right.own h2.own
theorem eqpairs_any(a b c d:Value)(A B:List Int)(hn:A.length≤9000000000000000000)(hm:B.length≤9000000000000000000)(F:Pr)(w:World)(h:Sat ((BytesRow a A).star ((BytesRow b B).star ((BytesRow c A).star ((BytesRow d B).star F)))) w):
 Calls Tryz.prog 19 #[pairV a b,pairV c d] w fun e w'=>e= .returned (.bool true)∧Only w w':=by
 obtain⟨x,hx,h1⟩:=(h.perm (B:=((BytesRow a A).star (BytesRow b B)).star (((BytesRow c A).star (BytesRow d B)).star F)) (by ac_rfl)).toOwn;obtain⟨y,hy,h2⟩:=(h1.perm (B:=((BytesRow c A).star (BytesRow d B)).star ((Pr.own x).star F)) (by ac_rfl)).toOwn;obtain⟨x1,x2,g1,g2,s1,s2⟩:=star_sub hx;obtain⟨y1,y2,g3,g4,s3,s4⟩:=star_sub hy
 exact eqpair_same x y a b c d A B ((Row.rowIn g1).sub s1) ((Row.rowIn g2).sub s2) ((Row.rowIn g3).sub s3) ((Row.rowIn g4).sub s4) hn hm w h2.right.own h2.own
theorem eqints_any(a b:Value)(V:List Int)(hn:V.length≤65536)(F:Pr)(w:World)(h:Sat ((IntsRow a V).star ((IntsRow b V).star F)) w):
 Calls Tryz.prog 24 #[a,b] w fun e w'=>e= .returned (.bool true)∧Only w w':=by
 obtain⟨x,hx,h1⟩:=h.toOwn;obtain⟨y,hy,h2⟩:=(h1.perm (B:=(IntsRow b V).star ((Pr.own x).star F)) (by ac_rfl)).toOwn;exact eqints_same x y a b V (Row.rowIn hx) (Row.rowIn hy) hn w h2.right.own h2.own
end Go.Proofs.YtiegeadmgpanoaaGreatDoor.Z8
namespace Go.Cop
theorem way_len {look:Int→Option PageV}(ok:PgsOk look){root height items:Int}{L:List ItemV}(h:StandT look root height items L)(key:List Int):(wayK look root height key).length≤12:=by
 unfold wayK;rcases h with⟨_,rfl,_,_⟩ | ⟨_,_,lv,rfl,hlv,hT⟩
 · simp
 · rw [if_neg (by omega),show ((lv:Int)+1-1).toNat=lv by omega,(path_tr ok key hT).1.1]
   omega
end Go.Cop
namespace Go.Proofs.YtiegeadmgpanoaaGreatDoor.B9
open ChangeShapes WideShapes ChangeAt RowKit Sl Cop D2 F3 P3 G2 J2 Q3 V3 G4 X3 M5 J4 G5 G6 J6 P6 F6 K4 L6 T6 E7 V6 X6 L7 V7 D8 E8 W7 Go.Shelf N3 P5 U5 W5 N2 P2 S6 J7 N5 S5 K7 Z7 B8 B6 M2 N7 M7 K3 C4 D4 F4 M4 K5 D7 C8 L8 Q7 U7 X5 Y5 X7 J8 N8 K8 P8 Q8 E4 U6 T8 V8 Y6 Deep Q4 S4 L5 Y8 X8 Z8 G8
attribute [local go_sem] Oper.semAt_some
theorem snoc5 {T:TypeId}{t:Value}{M:List (Value × List Int)}(x1 x2 x3 x4 x5:Value × List Int){R:List Pr}{w:World}
 (h:OwnL (Row T 1 t (M.length+5) (M.map (·.1)++ [x1.1,x2.1,x3.1,x4.1,x5.1]) :: BytesRow x1.1 x1.2 :: BytesRow x2.1 x2.2 :: BytesRow x3.1 x3.2 :: BytesRow x4.1 x4.2 :: BytesRow x5.1 x5.2 :: big rowOf M :: R) w):
 OwnL (Row T 1 t (M++ [x1,x2,x3,x4,x5]).length ((M++ [x1,x2,x3,x4,x5]).map (·.1)) :: big rowOf (M++ [x1,x2,x3,x4,x5]) :: R) w:=by
 refine⟨h.sat.perm ?_⟩;rw [List.length_append,List.map_append,big_append];show _=(Row T 1 t (M.length+5) _).star (((big rowOf M).star ((BytesRow x1.1 x1.2).star ((BytesRow x2.1 x2.2).star ((BytesRow x3.1 x3.2).star ((BytesRow x4.1 x4.2).star ((BytesRow x5.1 x5.2).star Pr.emp)))))).star (starL R))
 rw [Pr.star_emp];simp only [starL];have e:∀A B C D E F G H:Pr,A.star (B.star (C.star (D.star (E.star (F.star (G.star H))))))=A.star ((G.star (B.star (C.star (D.star (E.star F))))).star H):=fun A B C D E F G H=>by ac_rfl
 exact e _ _ _ _ _ _ _ _
theorem gets_walk(refs which:Int)(h:Hp)(GE:EveryIn h)(vc vl vt vr:Value)(cs:List Int)(l:List NumV)(ts:List TreeV)(vals:List (Value × List Int))(hx:Ints h vc cs)(hl:NumsIn h vl l)(ht:TreesIn h vt ts)(hr:TextsIn h vr vals)(hbv:∀x∈vals,Bytes h x.1 x.2∧U8 x.2∧x.2.length≤140737488351232)(hu:∀x∈l,∀y∈x.page.items,U8 y.key)(hn:l.length≤9223372036854775807)(F:Pr)(w:World)(hF:OwnL [Pr.own h,F] w):
 Calls Tryz.prog 4 #[imgV refs vc vl vt,.int .i64 which,vr] w fun e w'=>e= .returned (.bool true)∧Stays w w'∧OwnL [Pr.own h,F] w':=by
 have hl0:=hl;have hx0:=hx;have ht0:=ht;obtain⟨al,cl,rfl,_⟩:=nums_rd hl;obtain⟨ac,cc,rfl,_⟩:=ints_rd hx;obtain⟨at',ct,rfl,_⟩:=trees_rd ht;obtain⟨ar,cr,rfl,hcr,hcm,rd⟩:=texts_rd hr;obtain⟨n,hn0⟩:∃n:Nat,n=min vals.length 200:=⟨_,rfl⟩;have hmin:min (vals.length:Int) 200=(n:Int):=by omega
 have hnc:n≤cr:=by omega
 have hn2:n≤200:=by omega
 have hn3:n≤vals.length:=by omega
 obtain⟨j0,hj,hy0,hy1,hy2⟩:=info_parts infoRows;have hsz:∀w:World,(Go.sizeOf 42).run Tryz.prog w= .ok 1 w:=fun w=>by go_simp
 have hs0:=hF.alloc (imgC refs (.slice ac cs.length cc) (.slice al l.length cl) (.slice at' ts.length ct));have LO:=hQ (loaded_any refs h _ _ at' ts.length ct cs l hx0 hl0 hu hn _ _ (hs0.pull1 (A1:=Pr.own h)));have HST:=hQ ((Stays.refl w).alloc (imgC refs (.slice ac cs.length cc) (.slice al l.length cl) (.slice at' ts.length ct)));have HH:=hQ (And.intro GE (And.intro ht0 (And.intro hu hbv)))
 have RD:=hQ rd;have c1:=hs0.facts;simp only [CellsAt,Nat.reduceAdd,and_true] at c1;clear hF hs0 hx hl ht hx0 hl0 ht0 hu GE hn hr hbv rd hn0 hcr hcm;generalize hLE:loadE refs cs l=LE at*;go_enter Tryz.func4,Tryz.ntmps4
 go_wp2_with (first | refine wpList_min rfl _ _ rfl rfl (vals.length:Int) 200 (n:Int) hmin.symm rfl rfl ?_ | refine wpList_slice_to rfl 39 42 _ _ rfl Tryz.underlying39 1 hsz ar vals.length cr n hnc rfl rfl ?_)
 refine LO.out.mono ?_;rintro e w1 ⟨st1,(⟨_,rfl,hs1⟩ | ⟨h0,h4,v,r,rfl,hs1⟩)⟩
 · have hs2:=OwnL.of1 hs1
   have hs3:=hs2.to (M:= [Pr.own h,F]);have HST1:=hQ (HST.out.trans st1);have LV:=hQ (lives_any h HH.out.1 F w1 hs3);clear hs1 hs2 hs3 st1 LO HST c1;go_wp2_with fail
   refine LV.out.mono ?_;rintro e w2 ⟨rfl,st2,hs4⟩;have HST2:=hQ (HST1.out.trans st2);have HE:=hQ hs4;clear st2 hs4 LV HST1;go_wp2;go_ret;exact⟨rfl,HST2.out,HE.out⟩
 · have hs2:=OwnL.of3 hs1
   have HST1:=hQ (HST.out.trans st1);have hri:Right cs LE.2:=by rw [← hLE] at h0 ⊢;exact right_load h0
   have okp:PgsOk (lookL cs LE.2):=by rw [← hLE] at h0 ⊢;exact pgs_load h0 HH.out.2.2.1
   have HLK:=hQ (And.intro (looks_of (refs:=refs) hri) (And.intro (rlooks_of (refs:=refs) hri) okp));have HC:=hQ (show (loadV refs cs LE.2).pool.counts=(poolOf refs cs 0).counts from rfl);generalize w.heap.size=IB at*
   have hs3:=hs2.to (M:= [Pr.pts IB (imgC refs (.slice ac cs.length cc) (.slice al l.length cl) (.slice at' ts.length ct)),VaultA v (loadV refs cs LE.2),RefA r (poolOf refs cs 0) (pgsOf cs.length LE.2) (quietT true),Pr.own h,F]);clear hs1 hs2 st1 LO HST h0 h4 hri okp;generalize lookL cs LE.2=look at*;generalize loadV refs cs LE.2=s at*;generalize pgsOf cs.length LE.2=gs at*
   generalize poolOf refs cs 0=rs at*;obtain⟨y,oky,hs4⟩:=refA_iff.1 (hs3.pull1 (A1:=RefA r rs gs (quietT true)));have hs5:=OwnL.of1 hs4;have HOK:=hQ oky;clear c1;have c1:=hs5.facts;simp only [CellsAt,Nat.reduceAdd,and_true] at c1
   have TR:=hQ (rtree_any r rs gs (quietT true) y oky look HLK.out.2.1 HLK.out.2.2 ts _ h HH.out.2.1 which _ _ (OwnL.in2 (hs5.pull2 (A1:=RefAt r rs gs (quietT true) y) (A2:=Pr.own h))));clear hs3 hs4 hs5 oky;go_wp2_with fail
   refine TR.out.mono ?_;rintro e w2 ⟨st2,t,b,rfl,hb,hs6⟩;have hs7:=hs6.flat;have HST2:=hQ (HST1.out.trans st2);clear c1;have c1:=hs7.facts;simp only [CellsAt,Nat.reduceAdd,and_true] at c1;cases b with
   | false=>
     have hs8:=hs7.alloc (treeC t.root t.height t.items);have LV:=hQ (lives_any h HH.out.1 F _ (hs8.to (M:= [Pr.own h,F])));have HST3:=hQ (HST2.out.alloc (treeC t.root t.height t.items));clear hs6 hs7 hs8 st2 TR hb HST2 HST1;go_wp2_with fail
     refine LV.out.mono ?_;rintro e w3 ⟨rfl,st3,hs9⟩;have HST4:=hQ (HST3.out.trans st3);have HE:=hQ hs9;clear st3 hs9 LV HST3;go_wp2;go_ret;exact⟨rfl,HST4.out,HE.out⟩
   | true=>
     obtain⟨L,hT⟩:=stand_of_check HLK.out.2.2 (hb rfl);have HT:=hQ hT;have hs8:=hs7.alloc (treeC t.root t.height t.items);have HS8:=hQ hs8;have HST3:=hQ (HST2.out.alloc (treeC t.root t.height t.items));clear hs6 hs7 hs8 st2 TR hb HST2 HST1 hT;have hn4:(n:Int)≤200:=by omega
     go_wp2;obtain⟨TB,hTB⟩:∃TB,w2.heap.size=TB:=⟨_,rfl⟩;rw [hTB];have U1:=HS8.out;have U2:=HST3.out;clear HS8 HST3;rw [hTB] at U1;generalize w2.alloc (treeC t.root t.height t.items)=w3 at*;have HS8:=hQ U1;have HST3:=hQ U2;clear U1 U2 hTB c1
     go_loopg [12,13] (2*n) (fun k tv i wr=> ∃(q:Nat) (M:List (Value × List Int)),q+k=2*n∧i= .int .i64 q∧M.length=5*q∧Hid (∀x∈M,x.2.length≤65536)∧Stays w wr∧OwnL [Row 42 1 tv M.length (M.map (·.1)),big rowOf M,Pr.pts IB (imgC refs (.slice ac cs.length cc) (.slice al l.length cl) (.slice at' ts.length ct)),Pr.pts TB (treeC t.root t.height t.items),VaultA v s,RefAt r rs gs (quietT true) y,Pr.own h,F] wr)
     case atStart=>
      refine⟨0,[],Nat.zero_add _,rfl,rfl,hQ (fun x hx=>by cases hx),HST3.out,?_⟩;have h1:=HS8.out.emp;rw [← Row.nil 42 1] at h1
      have h2:OwnL [big rowOf [],Row 42 1 (.slice none 0 0) ([]:List (Value × List Int)).length (([]:List (Value × List Int)).map (·.1)),Pr.pts TB (treeC t.root t.height t.items),RefAt r rs gs (quietT true) y,Pr.own h,Pr.pts IB (imgC refs (.slice ac cs.length cc) (.slice al l.length cl) (.slice at' ts.length ct)),VaultA v s,F] w3:=(h1.to (M:= [Row 42 1 (.slice none 0 0) 0 [],Pr.pts TB (treeC t.root t.height t.items),RefAt r rs gs (quietT true) y,Pr.own h,Pr.pts IB (imgC refs (.slice ac cs.length cc) (.slice al l.length cl) (.slice at' ts.length ct)),VaultA v s,F])).emp
      exact h2.to
     case round=>
      obtain⟨q,M,hqk,rfl,hM,hMl,hst,hs⟩:=hrel;rename World=>wr
      clear HS8 HST3;obtain⟨ta,tc,rfl⟩:=Row.shape (hs.pull1 (A1:=Row 42 1 u12 M.length (M.map (·.1))));have hM2:M.length≤2000:=by omega
      have HMQ:=hQ (And.intro hM hqk);clear hM hqk;rcases Nat.lt_or_ge q (2*n) with hlt | hge
      · have hqi:(q:Int)<2*(n:Int):=by omega
        obtain⟨k0,hk0⟩:∃k0,k0+1=gk:=⟨gk-1,by have:=HMQ.out.2;omega⟩;obtain⟨p,hp⟩:∃p:Nat,p=q / 2:=⟨_,rfl⟩;have hpn:p<n:=by omega
        have hpv:p<vals.length:=by omega
        have hquo:Int.tdiv (q:Int) 2=(p:Int):=by rw [Int.tdiv_eq_ediv_of_nonneg (by omega)];omega
        have hpi:(p:Int)<(n:Int):=by omega
        have hq400:(q:Int)≤400:=by omega
        obtain⟨rb,roff,rfl,hc⟩:=RD.out p hpv;obtain⟨hkv,huk,hnk⟩:=HH.out.2.2.2 _ (List.getElem_mem hpv);generalize vals[p]=x at*;obtain⟨kv,key⟩:=x;dsimp only at hkv huk hnk hc;obtain⟨xa,xc,rfl⟩:=bytes_shape hkv;have e0:=hc wr (hs.le (a:=h));have ez:=World.block_lt_of_cell? _ _ e0;simp only at ez;have SP:=hQ (spare_any h _ key _ _ (hs.pull1 (A1:=Pr.own h)) hkv hnk);have HST:=hQ hst
        have HKV:=hQ (And.intro hkv (And.intro huk (And.intro hnk hc)));have c1:=hs.facts;simp only [CellsAt,Nat.reduceAdd,and_true] at c1;clear hs hst hkv huk hnk hc hp;go_wp2_with fail
        refine SP.out.mono ?_;rintro e w5 ⟨b,rfl,hsS,stS⟩;have hs1:=OwnL.of2 hsS;obtain⟨hin,hwi,hsA⟩:=hs1.arena (WholeRow b key);have HIN:=hQ (And.intro hwi (whole_bytes hwi));have GT:=hQ (get_any v s look HLK.out.1 HLK.out.2.2 hin _ key HIN.out.2 HKV.out.2.1 (by have:=HKV.out.2.2.1;omega) t.root t.height t.items L HT.out _ _ (OwnL.in2 (hsA.pull2 (A1:=VaultA v s) (A2:=Pr.own hin))))
        have HST1:=hQ (HST.out.trans stS);clear c1 e0 ez;have c1:=hsA.facts;simp only [CellsAt,Nat.reduceAdd,and_true] at c1;clear hsS hs1 hsA hwi stS SP HST;go_wp2_with fail
        refine GT.out.mono ?_;rintro e w6 ⟨st6,o1,rfl,hs6⟩;have hs7:=hs6.flat;obtain⟨o1a,o1c,rfl⟩:=Row.shape (hs7.pull1 (A1:=BytesRow o1 (getV look L key)));have HST6:=hQ (HST1.out.trans st6);have hs8:=hs7.drew;have e0:=HKV.out.2.2.2 w6 (hs7.le (a:=h));have ez:=World.block_lt_of_cell? _ _ e0;simp only at ez;clear c1;have c1:=hs7.facts;simp only [CellsAt,Nat.reduceAdd,and_true] at c1
        have RG:=hQ (rget_any r rs gs (quietT true) y HOK.out look HLK.out.2.1 HLK.out.2.2 t.root t.height t.items L HT.out _ key h HKV.out.1 _ _ (OwnL.in2 (hs8.pull2 (A1:=RefAt r rs gs (quietT true) y) (A2:=Pr.own h))));clear hs6 hs7 hs8 st6 GT HST1;go_wp2;refine wS 243 [0,1,2,3,4,5,6] [(7,[8,9,10,11,12,13,14],[2,3,4,5])] ?_;refine wpQ_all _ rfl rfl ?_;simp only [pick,pQ]
        iterate 7 (go_big_quiet_step (fail))
        refine wpQuiet_nil ?_;refine wpRest_act rfl ?_;go_wp2_with fail
        refine RG.out.mono ?_;rintro e w7 ⟨st7,o2,rfl,hs9⟩;have hs10:=hs9.flat;obtain⟨o2a,o2c,rfl⟩:=Row.shape (hs10.pull1 (A1:=BytesRow o2 (getV look L key)));have HST7:=hQ (HST6.out.drew.trans st7);clear c1 e0 ez;have e0:=HKV.out.2.2.2 w7 (hs10.le (a:=h));have ez:=World.block_lt_of_cell? _ _ e0;simp only at ez;have c1:=hs10.facts;simp only [CellsAt,Nat.reduceAdd,and_true] at c1;have HS10:=hQ hs10
        clear hs9 hs10 st7 RG HST6;generalize getB L key=B1 at*;generalize getE key=E1 at*;have hBB:(B1 != B1)=false:=by simp
        have hEE:(E1 != E1)=false:=by simp
        go_wp2;refine onN_mk ?_;refine wpQ_all _ rfl rfl ?_;simp only [pick,pQ];iterate 7 (go_big_quiet_step (fail))
        refine wpQuiet_nil ⟨?_,?_⟩
        · exact cQ
        refine wpRest_nil ?_;have EQ:=hQ (eqrow_any _ _ (getV look L key) (by have:=getV_len look L key;omega) _ _ (HS10.out.pull2 (A1:=BytesRow (.slice o1a (getV look L key).length o1c) (getV look L key)) (A2:=BytesRow (.slice o2a (getV look L key).length o2c) (getV look L key))));go_wp2_with fail
        refine EQ.out.mono ?_;rintro e w8 ⟨rfl,ho8⟩;have hs11:OwnL _ w8:=⟨HS10.out.sat.only ho8⟩;have HST8:=hQ (HST7.out.trans ho8.st)
        have hs12:=hs11.to (M:= [BytesRow (.slice o1a (getV look L key).length o1c) (getV look L key),Pr.own hin,Row 42 1 (.slice ta M.length tc) M.length (M.map (·.1)),big rowOf M,Pr.pts IB (imgC refs (.slice ac cs.length cc) (.slice al l.length cl) (.slice at' ts.length ct)),Pr.pts TB (treeC t.root t.height t.items),VaultA v s,RefAt r rs gs (quietT true) y,Pr.own h,F])
        clear hs11 HS10 EQ HST7 ho8 e0 ez hBB hEE;obtain⟨O1,hO1⟩:∃O,(L.filter (geK key)).head?=O:=⟨_,rfl⟩;obtain⟨B2,hB2⟩:∃B,O1.isSome=B:=⟨_,rfl⟩;have UN:=hQ (And.intro (optK_len HT.out O1 (fun x hx=>(List.mem_filter.1 (List.mem_of_mem_head? (hO1.trans hx))).1)) (optV_len look O1))
        have CE0:=ceil_any v s look HLK.out.1 HLK.out.2.2 t.root t.height t.items L HT.out _ key hin HIN.out.2 HKV.out.2.1 (by have:=HKV.out.2.2.1;omega) _ _ (OwnL.in2 (hs12.pull2 (A1:=VaultA v s) (A2:=Pr.own hin)));rw [ceil_same HT.out key,hO1,hB2] at CE0;have CE:=hQ CE0;have HO1:=hQ (And.intro hO1 hB2);clear hO1 hB2 CE0;clear c1;have c1:=hs12.facts
        simp only [CellsAt,Nat.reduceAdd,and_true] at c1;have U0:=hQ hs12;clear hs12;go_wp2_with fail
        refine CE.out.mono ?_;rintro e w9 ⟨st9,av,bv,rfl,hs13⟩;have hs14:=hs13.flat;obtain⟨Ua1,Ua2,rfl⟩:=Row.shape (hs14.pull1 (A1:=BytesRow av (optK O1)));obtain⟨Ub1,Ub2,rfl⟩:=Row.shape (hs14.pull1 (A1:=BytesRow bv (optV look O1)));dsimp only [pairV];have UT:=hQ ((HST8.out.trans st9).alloc (pairC (.slice Ua1 (optK O1).length Ua2) (.slice Ub1 (optV look O1).length Ub2)))
        have US:=hQ (hs14.alloc (pairC (.slice Ua1 (optK O1).length Ua2) (.slice Ub1 (optV look O1).length Ub2)));clear c1;have c1:=hs14.facts;simp only [CellsAt,Nat.reduceAdd,and_true] at c1;clear hs13 hs14 st9 CE U0 HST8;go_wp2;have U1:=US.out;have U2:=UT.out;clear US UT;generalize w9.heap.size=UA at*
        generalize w9.alloc (pairC (.slice Ua1 (optK O1).length Ua2) (.slice Ub1 (optV look O1).length Ub2))=Uw at*;have US:=hQ U1;have UT:=hQ U2;clear U1 U2 c1
        go_cut [22,19,20] from 115 to 127 (fun t1 t2 t3 wx=> ∃(J:Nat) (pa pb:Option Addr) (ca cb:Nat),t1= .pointer (some ⟨J,0,none⟩)∧t2= .bool B2∧t3= .int .i64 0∧Stays w wx∧
         OwnL [Pr.pts J (pairC (.slice pa (optK O1).length ca) (.slice pb (optV look O1).length cb)),BytesRow (.slice pa (optK O1).length ca) (optK O1),BytesRow (.slice pb (optV look O1).length cb) (optV look O1),Pr.pts UA (pairC (.slice Ua1 (optK O1).length Ua2) (.slice Ub1 (optV look O1).length Ub2)),BytesRow (.slice Ua1 (optK O1).length Ua2) (optK O1),BytesRow (.slice Ub1 (optV look O1).length Ub2) (optV look O1),BytesRow (.slice o1a (getV look L key).length o1c) (getV look L key),Pr.own hin,Row 42 1 (.slice ta M.length tc) M.length (M.map (·.1)),big rowOf M,Pr.pts IB (imgC refs (.slice ac cs.length cc) (.slice al l.length cl) (.slice at' ts.length ct)),Pr.pts TB (treeC t.root t.height t.items),VaultA v s,RefAt r rs gs (quietT true) y,Pr.own h,F] wx)
        case first=>
         have hs20:=US.out;have c1:=hs20.facts;simp only [CellsAt,Nat.reduceAdd,and_true] at c1;have e0:=HKV.out.2.2.2 Uw (hs20.le (a:=h));have ez:=World.block_lt_of_cell? _ _ e0;simp only at ez
         refine wp_region_forked (sz:=243) (by kernel_rfl) [0,1,2,3,4,5,6] [(12,[],[0,1,2,3,4,5,6],[(7,[8,9,10,11],[2,3,4,5]),(13,[14,15],[10,11])]),(7,[8,9,10,11],[2,3,4,5],[(12,[],[2,3,4,5,8,9,10,11]),(13,[14,15],[10,11])])] rfl (by kernel_rfl) (by kernel_rfl) (by kernel_rfl) ?_;refine wpQ_all _ rfl rfl ?_;simp only [pick,pQ];iterate 7 (go_big_quiet_step (fail))
         refine wpQuiet_nil ?_;intro sx hsx;rcases List.mem_cons.1 hsx with rfl | hsx
         · have hs8:=hs20.drew.alloc (pairC (.slice none 0 0) (.slice none 0 0))
           have RV0:=rceil_any r rs gs (quietT true) y HOK.out look HLK.out.2.1 HLK.out.2.2 t.root t.height t.items L HT.out _ key h HKV.out.1 _ _ (OwnL.in2 (hs8.pull2 (A1:=RefAt r rs gs (quietT true) y) (A2:=Pr.own h)));rw [HO1.out.1,HO1.out.2] at RV0;have RV:=hQ RV0;clear RV0;have HSTA:=hQ (UT.out.drew.alloc (pairC (.slice none 0 0) (.slice none 0 0)));clear hs8;refine wpRest_act rfl ?_;go_wp2
           refine onN_mk ?_;refine wpQ_nil ⟨?_,?_⟩
           · exact cQ
           refine wpRest_act rfl ?_;go_wp2_with fail
           refine RV.out.mono ?_;rintro e w11 ⟨st11,pv,qv,rfl,hs9⟩;have hs10:=hs9.flat;rw [show Uw.drew.heap.size=Uw.heap.size by simp] at hs10;obtain⟨pa,ca,rfl⟩:=Row.shape (hs10.pull1 (A1:=BytesRow pv (optK O1)));obtain⟨pb,cb,rfl⟩:=Row.shape (hs10.pull1 (A1:=BytesRow qv (optV look O1)));dsimp only [pairV];clear c1;have c1:=hs10.facts;simp only [CellsAt,Nat.reduceAdd,and_true] at c1
           have hs11:=(hs10.set Uw.heap.size 0 (.slice pa (optK O1).length ca)).set Uw.heap.size 1 (.slice pb (optV look O1).length cb);have HEND:=hQ (And.intro (((HSTA.out.trans st11).setCell ⟨Uw.heap.size,0,none⟩ (.slice pa (optK O1).length ca)).setCell ⟨Uw.heap.size,1,none⟩ (.slice pb (optV look O1).length cb)) hs11);clear hs9 hs10 hs11 st11 RV HSTA;go_wp2;refine onN_mk ?_
           refine wpQ_all _ rfl rfl ?_;simp only [pick,pQ];iterate 4 (go_big_quiet_step (fail))
           refine wpQuiet_nil ⟨?_,?_⟩
           · exact cQ
           refine wpRest_act rfl ?_;go_wp2;refine onN_mk ?_;refine wpQ_all _ rfl rfl ?_;simp only [pick,pQ];iterate 2 (go_big_quiet_step (fail))
           refine wpQuiet_nil ⟨?_,?_⟩
           · exact cQ
           refine wpRest_nil ?_;go_wp2;go_meet
           exact⟨_,pa,pb,ca,cb,rfl,rfl,rfl,HEND.out.1,HEND.out.2.to⟩
         · cases List.mem_singleton.1 hsx
           have hs8:=hs20.drew;have RV0:=rceil_any r rs gs (quietT true) y HOK.out look HLK.out.2.1 HLK.out.2.2 t.root t.height t.items L HT.out _ key h HKV.out.1 _ _ (OwnL.in2 (hs8.pull2 (A1:=RefAt r rs gs (quietT true) y) (A2:=Pr.own h)));rw [HO1.out.1,HO1.out.2] at RV0;have RV:=hQ RV0;clear RV0;clear hs8;refine wpRest_act rfl ?_;go_wp2_with fail
           refine RV.out.mono ?_;rintro e w11 ⟨st11,pv,qv,rfl,hs9⟩;have hs10:=hs9.flat;obtain⟨pa,ca,rfl⟩:=Row.shape (hs10.pull1 (A1:=BytesRow pv (optK O1)));obtain⟨pb,cb,rfl⟩:=Row.shape (hs10.pull1 (A1:=BytesRow qv (optV look O1)));dsimp only [pairV];clear c1 e0 ez;have c1:=hs10.facts;simp only [CellsAt,Nat.reduceAdd,and_true] at c1;have e0:=HKV.out.2.2.2 w11 (hs10.le (a:=h))
           have ez:=World.block_lt_of_cell? _ _ e0;simp only at ez;have hs11:=hs10.alloc (pairC (.slice pa (optK O1).length ca) (.slice pb (optV look O1).length cb));have HEND:=hQ (And.intro ((UT.out.drew.trans st11).alloc (pairC (.slice pa (optK O1).length ca) (.slice pb (optV look O1).length cb))) hs11);clear hs9 hs10 hs11 st11 RV;go_wp2;refine onN_mk ?_;refine wpQ_all _ rfl rfl ?_
           simp only [pick,pQ];iterate 4 (go_big_quiet_step (fail))
           refine wpQuiet_nil ⟨?_,?_⟩
           · exact cQ
           refine wpRest_act rfl ?_;go_wp2;refine onN_mk ?_;refine wpQ_nil ⟨?_,?_⟩
           · exact cQ
           refine wpRest_act rfl ?_;go_wp2;refine onN_mk ?_;refine wpQ_all _ rfl rfl ?_;simp only [pick,pQ];iterate 2 (go_big_quiet_step (fail))
           refine wpQuiet_nil ⟨?_,?_⟩
           · exact cQ
           refine wpRest_nil ?_;go_wp2;go_meet
           exact⟨_,pa,pb,ca,cb,rfl,rfl,rfl,HEND.out.1,HEND.out.2.to⟩
        case rest=>
         obtain⟨J,pa,pb,ca,cb,rfl,rfl,rfl,st21,hs21⟩:=hcut;rename World=>w21
         have c1:=hs21.facts;simp only [CellsAt,Nat.reduceAdd,and_true] at c1
         have EP:=hQ (eqpairs_any _ _ _ _ (optK O1) (optV look O1) (by have:=UN.out.1;omega) (by have:=UN.out.2;omega) _ _ (hs21.pull4 (A1:=BytesRow (.slice Ua1 (optK O1).length Ua2) (optK O1)) (A2:=BytesRow (.slice Ub1 (optV look O1).length Ub2) (optV look O1)) (A3:=BytesRow (.slice pa (optK O1).length ca) (optK O1)) (A4:=BytesRow (.slice pb (optV look O1).length cb) (optV look O1))))
         have hbb:(B2 != B2)=false:=by simp
         have HS21:=hQ hs21;have HST21:=hQ st21;clear US UT hs21 st21;go_wp2_with fail
         refine EP.out.mono ?_;rintro e w22 ⟨rfl,ho22⟩;have hs22:OwnL _ w22:=⟨HS21.out.sat.only ho22⟩;have UT:=hQ (HST21.out.trans ho22.st)
         have UX:=hs22.to (M:= [Pr.pts UA (pairC (.slice Ua1 (optK O1).length Ua2) (.slice Ub1 (optV look O1).length Ub2)),BytesRow (.slice Ua1 (optK O1).length Ua2) (optK O1),BytesRow (.slice Ub1 (optV look O1).length Ub2) (optV look O1),BytesRow (.slice o1a (getV look L key).length o1c) (getV look L key),Pr.own hin,Row 42 1 (.slice ta M.length tc) M.length (M.map (·.1)),big rowOf M,Pr.pts IB (imgC refs (.slice ac cs.length cc) (.slice al l.length cl) (.slice at' ts.length ct)),Pr.pts TB (treeC t.root t.height t.items),VaultA v s,RefAt r rs gs (quietT true) y,Pr.own h,F])
         clear HS21 HST21 ho22 hs22 EP hbb;obtain⟨O2,hO2⟩:∃O,(L.filter (leK key)).getLast?=O:=⟨_,rfl⟩;obtain⟨B3,hB3⟩:∃B,O2.isSome=B:=⟨_,rfl⟩;have ZN:=hQ (And.intro (optK_len HT.out O2 (fun x hx=>(List.mem_filter.1 (List.mem_of_mem_getLast? (hO2.trans hx))).1)) (optV_len look O2))
         have CE0:=floor_any v s look HLK.out.1 HLK.out.2.2 t.root t.height t.items L HT.out _ key hin HIN.out.2 HKV.out.2.1 h HH.out.1 _ _ (OwnL.in3 (UX.pull3 (A1:=VaultA v s) (A2:=Pr.own hin) (A3:=Pr.own h)));rw [hO2,hB3] at CE0;have CE:=hQ CE0;have HO2:=hQ (And.intro hO2 hB3);clear hO2 hB3 CE0;clear c1;have c1:=UX.facts;simp only [CellsAt,Nat.reduceAdd,and_true] at c1;have Z0:=hQ UX;clear UX
         go_wp2_with fail
         refine CE.out.mono ?_;rintro e w9 ⟨st9,av,bv,rfl,hs13⟩;have hs14:=hs13.flat;obtain⟨Za1,Za2,rfl⟩:=Row.shape (hs14.pull1 (A1:=BytesRow av (optK O2)));obtain⟨Zb1,Zb2,rfl⟩:=Row.shape (hs14.pull1 (A1:=BytesRow bv (optV look O2)));dsimp only [pairV];have ZT:=hQ ((UT.out.trans st9).alloc (pairC (.slice Za1 (optK O2).length Za2) (.slice Zb1 (optV look O2).length Zb2)))
         have ZS:=hQ (hs14.alloc (pairC (.slice Za1 (optK O2).length Za2) (.slice Zb1 (optV look O2).length Zb2)));clear c1;have c1:=hs14.facts;simp only [CellsAt,Nat.reduceAdd,and_true] at c1;clear hs13 hs14 st9 CE Z0 UT;go_wp2;have U1:=ZS.out;have U2:=ZT.out;clear ZS ZT;generalize w9.heap.size=ZA at*
         generalize w9.alloc (pairC (.slice Za1 (optK O2).length Za2) (.slice Zb1 (optV look O2).length Zb2))=Zw at*;have ZS:=hQ U1;have ZT:=hQ U2;clear U1 U2 c1
         go_cut [24,19,20] from 149 to 161 (fun t1 t2 t3 wx=> ∃(J:Nat) (pa pb:Option Addr) (ca cb:Nat),t1= .pointer (some ⟨J,0,none⟩)∧t2= .bool B3∧t3= .int .i64 0∧Stays w wx∧
          OwnL [Pr.pts J (pairC (.slice pa (optK O2).length ca) (.slice pb (optV look O2).length cb)),BytesRow (.slice pa (optK O2).length ca) (optK O2),BytesRow (.slice pb (optV look O2).length cb) (optV look O2),Pr.pts ZA (pairC (.slice Za1 (optK O2).length Za2) (.slice Zb1 (optV look O2).length Zb2)),BytesRow (.slice Za1 (optK O2).length Za2) (optK O2),BytesRow (.slice Zb1 (optV look O2).length Zb2) (optV look O2),Pr.pts UA (pairC (.slice Ua1 (optK O1).length Ua2) (.slice Ub1 (optV look O1).length Ub2)),BytesRow (.slice Ua1 (optK O1).length Ua2) (optK O1),BytesRow (.slice Ub1 (optV look O1).length Ub2) (optV look O1),BytesRow (.slice o1a (getV look L key).length o1c) (getV look L key),Pr.own hin,Row 42 1 (.slice ta M.length tc) M.length (M.map (·.1)),big rowOf M,Pr.pts IB (imgC refs (.slice ac cs.length cc) (.slice al l.length cl) (.slice at' ts.length ct)),Pr.pts TB (treeC t.root t.height t.items),VaultA v s,RefAt r rs gs (quietT true) y,Pr.own h,F] wx)
         case first=>
          have hs20:=ZS.out;have c1:=hs20.facts;simp only [CellsAt,Nat.reduceAdd,and_true] at c1;have e0:=HKV.out.2.2.2 Zw (hs20.le (a:=h));have ez:=World.block_lt_of_cell? _ _ e0;simp only at ez
          refine wp_region_forked (sz:=243) (by kernel_rfl) [0,1,2,3,4,5,6] [(12,[],[0,1,2,3,4,5,6],[(7,[8,9,10,11],[2,3,4,5]),(13,[14,15],[10,11])]),(7,[8,9,10,11],[2,3,4,5],[(12,[],[2,3,4,5,8,9,10,11]),(13,[14,15],[10,11])])] rfl (by kernel_rfl) (by kernel_rfl) (by kernel_rfl) ?_;refine wpQ_all _ rfl rfl ?_;simp only [pick,pQ];iterate 7 (go_big_quiet_step (fail))
          refine wpQuiet_nil ?_;intro sx hsx;rcases List.mem_cons.1 hsx with rfl | hsx
          · have hs8:=hs20.drew.alloc (pairC (.slice none 0 0) (.slice none 0 0))
            have RV0:=rfloor_any r rs gs (quietT true) y HOK.out look HLK.out.2.1 HLK.out.2.2 t.root t.height t.items L HT.out _ key h HKV.out.1 _ _ (OwnL.in2 (hs8.pull2 (A1:=RefAt r rs gs (quietT true) y) (A2:=Pr.own h)));rw [HO2.out.1,HO2.out.2] at RV0;have RV:=hQ RV0;clear RV0;have HSTA:=hQ (ZT.out.drew.alloc (pairC (.slice none 0 0) (.slice none 0 0)));clear hs8;refine wpRest_act rfl ?_;go_wp2
            refine onN_mk ?_;refine wpQ_nil ⟨?_,?_⟩
            · exact cQ
            refine wpRest_act rfl ?_;go_wp2_with fail
            refine RV.out.mono ?_;rintro e w11 ⟨st11,pv,qv,rfl,hs9⟩;have hs10:=hs9.flat;rw [show Zw.drew.heap.size=Zw.heap.size by simp] at hs10;obtain⟨pa,ca,rfl⟩:=Row.shape (hs10.pull1 (A1:=BytesRow pv (optK O2)));obtain⟨pb,cb,rfl⟩:=Row.shape (hs10.pull1 (A1:=BytesRow qv (optV look O2)));dsimp only [pairV];clear c1;have c1:=hs10.facts;simp only [CellsAt,Nat.reduceAdd,and_true] at c1
            have hs11:=(hs10.set Zw.heap.size 0 (.slice pa (optK O2).length ca)).set Zw.heap.size 1 (.slice pb (optV look O2).length cb);have HEND:=hQ (And.intro (((HSTA.out.trans st11).setCell ⟨Zw.heap.size,0,none⟩ (.slice pa (optK O2).length ca)).setCell ⟨Zw.heap.size,1,none⟩ (.slice pb (optV look O2).length cb)) hs11);clear hs9 hs10 hs11 st11 RV HSTA;go_wp2;refine onN_mk ?_
            refine wpQ_all _ rfl rfl ?_;simp only [pick,pQ];iterate 4 (go_big_quiet_step (fail))
            refine wpQuiet_nil ⟨?_,?_⟩
            · exact cQ
            refine wpRest_act rfl ?_;go_wp2;refine onN_mk ?_;refine wpQ_all _ rfl rfl ?_;simp only [pick,pQ];iterate 2 (go_big_quiet_step (fail))
            refine wpQuiet_nil ⟨?_,?_⟩
            · exact cQ
            refine wpRest_nil ?_;go_wp2;go_meet
            exact⟨_,pa,pb,ca,cb,rfl,rfl,rfl,HEND.out.1,HEND.out.2.to⟩
          · cases List.mem_singleton.1 hsx
            have hs8:=hs20.drew;have RV0:=rfloor_any r rs gs (quietT true) y HOK.out look HLK.out.2.1 HLK.out.2.2 t.root t.height t.items L HT.out _ key h HKV.out.1 _ _ (OwnL.in2 (hs8.pull2 (A1:=RefAt r rs gs (quietT true) y) (A2:=Pr.own h)));rw [HO2.out.1,HO2.out.2] at RV0;have RV:=hQ RV0;clear RV0;clear hs8;refine wpRest_act rfl ?_;go_wp2_with fail
            refine RV.out.mono ?_;rintro e w11 ⟨st11,pv,qv,rfl,hs9⟩;have hs10:=hs9.flat;obtain⟨pa,ca,rfl⟩:=Row.shape (hs10.pull1 (A1:=BytesRow pv (optK O2)));obtain⟨pb,cb,rfl⟩:=Row.shape (hs10.pull1 (A1:=BytesRow qv (optV look O2)));dsimp only [pairV];clear c1 e0 ez;have c1:=hs10.facts;simp only [CellsAt,Nat.reduceAdd,and_true] at c1;have e0:=HKV.out.2.2.2 w11 (hs10.le (a:=h))
            have ez:=World.block_lt_of_cell? _ _ e0;simp only at ez;have hs11:=hs10.alloc (pairC (.slice pa (optK O2).length ca) (.slice pb (optV look O2).length cb));have HEND:=hQ (And.intro ((ZT.out.drew.trans st11).alloc (pairC (.slice pa (optK O2).length ca) (.slice pb (optV look O2).length cb))) hs11);clear hs9 hs10 hs11 st11 RV;go_wp2;refine onN_mk ?_;refine wpQ_all _ rfl rfl ?_
            simp only [pick,pQ];iterate 4 (go_big_quiet_step (fail))
            refine wpQuiet_nil ⟨?_,?_⟩
            · exact cQ
            refine wpRest_act rfl ?_;go_wp2;refine onN_mk ?_;refine wpQ_nil ⟨?_,?_⟩
            · exact cQ
            refine wpRest_act rfl ?_;go_wp2;refine onN_mk ?_;refine wpQ_all _ rfl rfl ?_;simp only [pick,pQ];iterate 2 (go_big_quiet_step (fail))
            refine wpQuiet_nil ⟨?_,?_⟩
            · exact cQ
            refine wpRest_nil ?_;go_wp2;go_meet
            exact⟨_,pa,pb,ca,cb,rfl,rfl,rfl,HEND.out.1,HEND.out.2.to⟩
         case rest=>
          obtain⟨J,pa,pb,ca,cb,rfl,rfl,rfl,st21,hs21⟩:=hcut;rename World=>w21
          have c1:=hs21.facts;simp only [CellsAt,Nat.reduceAdd,and_true] at c1
          have EP:=hQ (eqpairs_any _ _ _ _ (optK O2) (optV look O2) (by have:=ZN.out.1;omega) (by have:=ZN.out.2;omega) _ _ (hs21.pull4 (A1:=BytesRow (.slice Za1 (optK O2).length Za2) (optK O2)) (A2:=BytesRow (.slice Zb1 (optV look O2).length Zb2) (optV look O2)) (A3:=BytesRow (.slice pa (optK O2).length ca) (optK O2)) (A4:=BytesRow (.slice pb (optV look O2).length cb) (optV look O2))))
          have hbb:(B3 != B3)=false:=by simp
          have HS21:=hQ hs21;have HST21:=hQ st21;clear ZS ZT hs21 st21;go_wp2_with fail
          refine EP.out.mono ?_;rintro e w22 ⟨rfl,ho22⟩;have hs22:OwnL _ w22:=⟨HS21.out.sat.only ho22⟩;have ZT:=hQ (HST21.out.trans ho22.st)
          have ZX:=hs22.to (M:= [Pr.pts ZA (pairC (.slice Za1 (optK O2).length Za2) (.slice Zb1 (optV look O2).length Zb2)),BytesRow (.slice Za1 (optK O2).length Za2) (optK O2),BytesRow (.slice Zb1 (optV look O2).length Zb2) (optV look O2),Pr.pts UA (pairC (.slice Ua1 (optK O1).length Ua2) (.slice Ub1 (optV look O1).length Ub2)),BytesRow (.slice Ua1 (optK O1).length Ua2) (optK O1),BytesRow (.slice Ub1 (optV look O1).length Ub2) (optV look O1),BytesRow (.slice o1a (getV look L key).length o1c) (getV look L key),Pr.own hin,Row 42 1 (.slice ta M.length tc) M.length (M.map (·.1)),big rowOf M,Pr.pts IB (imgC refs (.slice ac cs.length cc) (.slice al l.length cl) (.slice at' ts.length ct)),Pr.pts TB (treeC t.root t.height t.items),VaultA v s,RefAt r rs gs (quietT true) y,Pr.own h,F])
          clear HS21 HST21 ho22 hs22 EP hbb;have PA:=hQ (way_any v s look HLK.out.1 HLK.out.2.2 hin _ key HIN.out.2 HKV.out.2.1 t.root t.height t.items L HT.out _ _ (OwnL.in2 (ZX.pull2 (A1:=VaultA v s) (A2:=Pr.own hin))));have c1:=ZX.facts;simp only [CellsAt,Nat.reduceAdd,and_true] at c1;have Z0:=hQ ZX;clear ZX;go_wp2_with fail
          refine PA.out.mono ?_;rintro e w31 ⟨st31,pw,rfl,hs31⟩;have hs32:=hs31.flat;obtain⟨wa,wc,rfl⟩:=Row.shape (hs32.pull1 (A1:=IntsRow pw (wayK look t.root t.height key)));have HST32:=hQ (ZT.out.trans st31);have hs33:=hs32.drew;have e0:=HKV.out.2.2.2 w31 (hs32.le (a:=h));have ez:=World.block_lt_of_cell? _ _ e0;simp only at ez;clear c1;have c1:=hs32.facts
          simp only [CellsAt,Nat.reduceAdd,and_true] at c1;have RQ:=hQ (rway_any r rs gs (quietT true) y HOK.out look HLK.out.2.1 HLK.out.2.2 h _ key HKV.out.1 t.root t.height t.items L HT.out _ _ (OwnL.in2 (hs33.pull2 (A1:=RefAt r rs gs (quietT true) y) (A2:=Pr.own h))));clear hs31 hs32 hs33 st31 PA ZT Z0;go_wp2;refine wS 243 [0,1,2,3,4,5,6] [(7,[8,9,10,11,12],[2,3,4,5])] ?_
          refine wpQ_all _ rfl rfl ?_;simp only [pick,pQ];iterate 7 (go_big_quiet_step (fail))
          refine wpQuiet_nil ?_;refine wpRest_act rfl ?_;go_wp2_with fail
          refine RQ.out.mono ?_;rintro e w32 ⟨st32,qw,rfl,hs34⟩;have hs35:=hs34.flat;have HWL:=hQ (way_len HLK.out.2.2 HT.out key);generalize wayK look t.root t.height key=W at*;obtain⟨qa,qc,rfl⟩:=Row.shape (hs35.pull1 (A1:=IntsRow qw W));have HST33:=hQ (HST32.out.drew.trans st32);clear c1 e0 ez;have e0:=HKV.out.2.2.2 w32 (hs35.le (a:=h));have ez:=World.block_lt_of_cell? _ _ e0;simp only at ez
          have c1:=hs35.facts;simp only [CellsAt,Nat.reduceAdd,and_true] at c1;have EQ:=hQ (eqints_any _ _ W (by have:=HWL.out;omega) _ _ (hs35.pull2 (A1:=IntsRow (.slice wa W.length wc) W) (A2:=IntsRow (.slice qa W.length qc) W)));have HS35:=hQ hs35;clear hs34 hs35 st32 RQ HST32;go_wp2;refine onN_mk ?_;refine wpQ_all _ rfl rfl ?_;simp only [pick,pQ];iterate 5 (go_big_quiet_step (fail))
          refine wpQuiet_nil ⟨?_,?_⟩
          · exact cQ
          refine wpRest_nil ?_;go_wp2_with fail
          refine EQ.out.mono ?_;rintro e w33 ⟨rfl,ho33⟩;have hs36:OwnL _ w33:=⟨HS35.out.sat.only ho33⟩;have HST34:=hQ (HST33.out.trans ho33.st)
          have hs37:=hs36.to (M:= [Row 3 1 (.slice wa W.length wc) W.length (W.map (Value.int .i64)),Pr.pts ZA (pairC (.slice Za1 (optK O2).length Za2) (.slice Zb1 (optV look O2).length Zb2)),BytesRow (.slice Za1 (optK O2).length Za2) (optK O2),BytesRow (.slice Zb1 (optV look O2).length Zb2) (optV look O2),Pr.pts UA (pairC (.slice Ua1 (optK O1).length Ua2) (.slice Ub1 (optV look O1).length Ub2)),BytesRow (.slice Ua1 (optK O1).length Ua2) (optK O1),BytesRow (.slice Ub1 (optV look O1).length Ub2) (optV look O1),BytesRow (.slice o1a (getV look L key).length o1c) (getV look L key),Pr.own hin,Row 42 1 (.slice ta M.length tc) M.length (M.map (·.1)),big rowOf M,Pr.pts IB (imgC refs (.slice ac cs.length cc) (.slice al l.length cl) (.slice at' ts.length ct)),Pr.pts TB (treeC t.root t.height t.items),VaultA v s,RefAt r rs gs (quietT true) y,Pr.own h,F])
          have hs38:=(hs37.back (WholeRow b key) HIN.out.1).to (M:= [Row 3 1 (.slice wa W.length wc) W.length (W.map (Value.int .i64)),Pr.pts ZA (pairC (.slice Za1 (optK O2).length Za2) (.slice Zb1 (optV look O2).length Zb2)),BytesRow (.slice Za1 (optK O2).length Za2) (optK O2),BytesRow (.slice Zb1 (optV look O2).length Zb2) (optV look O2),Pr.pts UA (pairC (.slice Ua1 (optK O1).length Ua2) (.slice Ub1 (optV look O1).length Ub2)),BytesRow (.slice Ua1 (optK O1).length Ua2) (optK O1),BytesRow (.slice Ub1 (optV look O1).length Ub2) (optV look O1),BytesRow (.slice o1a (getV look L key).length o1c) (getV look L key),WholeRow b key,Row 42 1 (.slice ta M.length tc) M.length (M.map (·.1)),big rowOf M,Pr.pts IB (imgC refs (.slice ac cs.length cc) (.slice al l.length cl) (.slice at' ts.length ct)),Pr.pts TB (treeC t.root t.height t.items),VaultA v s,RefAt r rs gs (quietT true) y,Pr.own h,F])
          clear c1 e0 ez;have e0:=HKV.out.2.2.2 w33 (hs38.le (a:=h));have ez:=World.block_lt_of_cell? _ _ e0;simp only at ez;have c1:=hs38.facts;simp only [CellsAt,Nat.reduceAdd,and_true] at c1;have KP:=hQ (kept_any b key h _ HKV.out.1 HKV.out.2.2.1 _ _ (hs38.pull2 (A1:=WholeRow b key) (A2:=Pr.own h)));have HS38:=hQ hs38;clear hs36 hs37 hs38 ho33 EQ HST33 HS35;go_wp2_with fail
          refine KP.out.mono ?_;rintro e w34 ⟨rfl,ho34⟩;have hs39:OwnL _ w34:=⟨HS38.out.sat.only ho34⟩;have HST35:=hQ (HST34.out.trans ho34.st);have HS39:=hQ hs39;have hWl:(W.length:Int)≤65536:=by have:=HWL.out;omega
          clear c1 e0 ez hs39 ho34 KP HST34 HS38;go_wp2_with fail
          go_loopw [27] (fun i wr=> ∃(k:Nat) (xs:List Value),k≤W.length∧i= .int .i64 k∧Hid (xs.length=W.length)∧Stays w wr∧OwnL [Row 3 1 (.slice wa W.length wc) W.length xs,Pr.pts ZA (pairC (.slice Za1 (optK O2).length Za2) (.slice Zb1 (optV look O2).length Zb2)),BytesRow (.slice Za1 (optK O2).length Za2) (optK O2),BytesRow (.slice Zb1 (optV look O2).length Zb2) (optV look O2),Pr.pts UA (pairC (.slice Ua1 (optK O1).length Ua2) (.slice Ub1 (optV look O1).length Ub2)),BytesRow (.slice Ua1 (optK O1).length Ua2) (optK O1),BytesRow (.slice Ub1 (optV look O1).length Ub2) (optV look O1),BytesRow (.slice o1a (getV look L key).length o1c) (getV look L key),WholeRow b key,Row 42 1 (.slice ta M.length tc) M.length (M.map (·.1)),big rowOf M,Pr.pts IB (imgC refs (.slice ac cs.length cc) (.slice al l.length cl) (.slice at' ts.length ct)),Pr.pts TB (treeC t.root t.height t.items),VaultA v s,RefAt r rs gs (quietT true) y,Pr.own h,F] wr) (fun i _=>W.length-(intOf i).toNat)
          case atStart=>exact⟨0,_,Nat.zero_le _,rfl,hQ (List.length_map _),HST35.out,HS39.out⟩
          case round=>
           obtain⟨k,xs,hk,rfl,hxs,hst,hs⟩:=hrel;rename World=>w35
           clear HST35 HS39;rcases Nat.lt_or_ge k W.length with hlk | hgk
           · obtain⟨pb0,u,ewa,_,c0,f0,z0⟩:=Row.at1 (hs.pull1 (A1:=Row 3 1 (.slice wa W.length wc) W.length xs)) k hlk
             subst ewa;have N1:=hQ (Row.put1 (hs.pull1 (A1:=Row 3 1 (.slice (some ⟨pb0,0,none⟩) W.length wc) W.length xs)) k (by rw [hxs.out];exact hlk) (.int .i64 (-1)));have HST36:=hQ hst;clear hs hst;go_wp2
             refine⟨⟨k+1,xs.set k (.int .i64 (-1)),by omega,congrArg (Value.int .i64) (by omega),hQ (by rw [List.length_set];exact hxs.out),HST36.out.setCell _ _,(OwnL.of1 N1.out).to⟩,by simp [intOf];omega⟩
           · obtain rfl:k=W.length:=by omega
             have hs40:=hs.lose (Row 3 1 (.slice wa W.length wc) W.length xs);have HST36:=hQ hst;have hnw:=HMQ.out;have c1:=hs40.facts;simp only [CellsAt,Nat.reduceAdd,and_true] at c1
             have hal:=hs40.alloc (.cells [.slice o1a (getV look L key).length o1c,.slice Ua1 (optK O1).length Ua2,.slice Ub1 (optV look O1).length Ub2,.slice Za1 (optK O2).length Za2,.slice Zb1 (optV look O2).length Zb2].toArray 42);have A1:=hQ (hal.pull1 (A1:=Row 42 1 (.slice ta M.length tc) M.length (M.map (·.1))))
             have hnew:=hQ (new_cells w35 [.slice o1a (getV look L key).length o1c,.slice Ua1 (optK O1).length Ua2,.slice Ub1 (optV look O1).length Ub2,.slice Za1 (optK O2).length Za2,.slice Zb1 (optV look O2).length Zb2] 42 _ rfl);clear hs hs40 hst hal hnw
             go_wp2_with (first
              | (at_builtin
                 refine wpList_append_sl rfl _ _ _ rfl 42 j0 (.slice none 0 0) 1 24 Tryz.underlying39 hj hy0 hy1 hy2 rfl _ _ _ rfl A1.out ⟨w35.heap.size,0,none⟩ 5 5 [.slice o1a (getV look L key).length o1c,.slice Ua1 (optK O1).length Ua2,.slice Ub1 (optV look O1).length Ub2,.slice Za1 (optK O2).length Za2,.slice Zb1 (optV look O2).length Zb2] rfl rfl hnew.out (by simp [Value.oneCell']) (by simp only [maxLen];omega) (by omega) ?_
                 intro v7 w7 hs7 hg7 _
                 obtain⟨a7,c7,e7,_,_⟩:=Row.read hs7
                 subst e7
                 have HS7:=hQ (OwnL.of1 hs7)
                 have HST7:=hQ ((HST36.out.alloc (.cells [.slice o1a (getV look L key).length o1c,.slice Ua1 (optK O1).length Ua2,.slice Ub1 (optV look O1).length Ub2,.slice Za1 (optK O2).length Za2,.slice Zb1 (optV look O2).length Zb2].toArray 42)).of_grown hg7)
                 clear hs7 hg7 A1 hnew HST36))
             go_roundg k0
             case measure=>omega
             case rel=>
              have h1:=HS7.out.to (M:= [Row 42 1 (.slice a7 (M.length+5) c7) (M.length+5) (M.map (·.1)++ [.slice o1a (getV look L key).length o1c,.slice Ua1 (optK O1).length Ua2,.slice Ub1 (optV look O1).length Ub2,.slice Za1 (optK O2).length Za2,.slice Zb1 (optV look O2).length Zb2]),BytesRow (.slice o1a (getV look L key).length o1c) (getV look L key),BytesRow (.slice Ua1 (optK O1).length Ua2) (optK O1),BytesRow (.slice Ub1 (optV look O1).length Ub2) (optV look O1),BytesRow (.slice Za1 (optK O2).length Za2) (optK O2),BytesRow (.slice Zb1 (optV look O2).length Zb2) (optV look O2),big rowOf M,Pr.pts IB (imgC refs (.slice ac cs.length cc) (.slice al l.length cl) (.slice at' ts.length ct)),Pr.pts TB (treeC t.root t.height t.items),VaultA v s,RefAt r rs gs (quietT true) y,Pr.own h,F])
              have h2:=snoc5 ((.slice o1a (getV look L key).length o1c),getV look L key) ((.slice Ua1 (optK O1).length Ua2),optK O1) ((.slice Ub1 (optV look O1).length Ub2),optV look O1) ((.slice Za1 (optK O2).length Za2),optK O2) ((.slice Zb1 (optV look O2).length Zb2),optV look O2) h1;clear h1 HS7
              refine⟨q+1,M++ [((.slice o1a (getV look L key).length o1c),getV look L key),((.slice Ua1 (optK O1).length Ua2),optK O1),((.slice Ub1 (optV look O1).length Ub2),optV look O1),((.slice Za1 (optK O2).length Za2),optK O2),((.slice Zb1 (optV look O2).length Zb2),optV look O2)],by have:=HMQ.out.2;omega,congrArg (Value.int .i64) (by omega),by have:=HMQ.out.1;rw [List.length_append];simp only [List.length_cons,List.length_nil];omega,hQ ?_,HST7.out,?_⟩
              · intro x hx
                rcases List.mem_append.1 hx with hx | hx
                · exact hMl.out x hx
                · simp only [List.mem_cons,List.not_mem_nil,or_false] at hx
                  rcases hx with rfl | rfl | rfl | rfl | rfl
                  · have:=getV_len look L key;dsimp only;omega
                  · have:=UN.out.1;dsimp only;omega
                  · have:=UN.out.2;dsimp only;omega
                  · have:=ZN.out.1;dsimp only;omega
                  · have:=ZN.out.2;dsimp only;omega
              · exact h2.to
      · have hqn:¬(q:Int)<2*(n:Int):=by omega
        have AP:=hQ (apart_any _ M (by omega) hMl.out _ _ (hs.pull2 (A1:=Row 42 1 (.slice ta M.length tc) M.length (M.map (·.1))) (A2:=big rowOf M)));have HST4:=hQ hst;clear hs hst;go_wp2_with fail
        refine AP.out.mono ?_;rintro e w5 ⟨rfl,st5,hs5⟩;have hs5':OwnL [Pr.pts IB (imgC refs (.slice ac cs.length cc) (.slice al l.length cl) (.slice at' ts.length ct)),Pr.pts TB (treeC t.root t.height t.items),VaultA v s,RefAt r rs gs (quietT true) y,Pr.own h,F] w5:=⟨hs5⟩;have hs6:=hs5'.pull1 (A1:=RefAt r rs gs (quietT true) y)
        have hs7:OwnL [RefA r rs gs (quietT true),Pr.pts IB (imgC refs (.slice ac cs.length cc) (.slice al l.length cl) (.slice at' ts.length ct)),Pr.pts TB (treeC t.root t.height t.items),VaultA v s,Pr.own h,F] w5:=⟨refA_iff.2 ⟨y,HOK.out,hs6⟩⟩
        have KP:=hQ (wkept_any v r s rs gs (quietT true) look HLK.out.1 HLK.out.2.1 HC.out _ _ (OwnL.in2 (hs7.pull2 (A1:=VaultA v s) (A2:=RefA r rs gs (quietT true)))));have HST5:=hQ (HST4.out.trans st5);clear hs5 hs5' hs6 hs7 st5 AP HST4;go_wp2_with fail
        refine KP.out.mono ?_;rintro e w6 ⟨rfl,st6,hs8⟩;have hs9:OwnL [Pr.own h,F] w6:=hs8.flat.to;have LV:=hQ (lives_any h HH.out.1 F _ hs9);have HST6:=hQ (HST5.out.trans st6);clear hs8 hs9 st6 KP HST5;go_wp2_with fail
        refine LV.out.mono ?_;rintro e w7 ⟨rfl,st7,hs10⟩;have HST7:=hQ (HST6.out.trans st7);have HE:=hQ hs10;clear st7 hs10 LV HST6;go_wp2;go_ret;exact⟨rfl,HST7.out,HE.out⟩
end Go.Proofs.YtiegeadmgpanoaaGreatDoor.B9
