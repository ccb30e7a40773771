/- (*Vault).own, Shadow, Take, Write; the conditions stand as hypotheses. -/
import Derived.Test.YtkfjilnmnbeokaaGreatPutInPlaceM31
import Derived.Test.YtkfjilnmnbeokaaGreatPutInPlaceM30
import Derived.Test.YtkfjilnmnbeokaaGreatPutInPlaceM32
import Derived.Test.YtkfjilnmnbeokaaGreatPutInPlaceM01
set_option maxRecDepth 100000
set_option maxHeartbeats 16000000
namespace Go.Cop
open Go.Proofs.YtkfjilnmnbeokaaGreat.Q3 Go.Proofs.YtkfjilnmnbeokaaGreat.D6 Go.Proofs.YtkfjilnmnbeokaaGreat.J7
def ownP(p:PoolS)(n:Int):Bool:=decide (p.state n=3) && decide (p.count n=1)
theorem Mid.incs {s:VaultS}{W:List (Int × Option PageV)}:∀(ks:List Int) {t:VaultS},Mid s t W→CR t.pool→PoolOk t.pool→t.pool.floor+t.pool.acts.length+ks.length≤1099511627776→Mid s { t with pool:=(incsP t.pool ks).2 } W
 | [],t,h,_,_,_=>h
 | k :: ks,t,h,hc,ok,hb=>by
   rw [incsP_one];by_cases h0:incE t.pool k=0
   · rw [if_pos h0]
     obtain⟨hc2,ht⟩:=hc.did h0;have hcb:=count_bd ok k;have hr:=hc k;have hr2:=ok.r2;have hlt:t.pool.count k+1≤65536:=by omega
     have hd:=h.did (n:=k) (b:=1) ht hcb.1 hcb.2 (by omega)
     have hb2:t.pool.floor+((t.pool.acts++ [(k,(1:Int))]).length:Nat)+ks.length≤1099511627776:=by
      rw [List.length_append];simp only [List.length_cons,List.length_nil] at hb ⊢;omega
     have ok2:PoolOk (t.pool.did k 1):=by
      have h1:=turn_ok ok (n:=k) (b:=1) (by omega) hlt;exact⟨h1.n1,h1.n2,h1.len,h1.r1,h1.r2,h1.cs,h1.fl,by show t.pool.floor+((t.pool.acts++ [(k,(1:Int))]).length:Nat)≤ _;omega⟩
     exact Mid.incs ks (t:= { t with pool:=t.pool.did k 1 }) hd hc2 ok2 (by show t.pool.floor+((t.pool.acts++ [(k,(1:Int))]).length:Nat)+ks.length≤ _;exact hb2)
   · rw [if_neg h0]
     exact h
theorem did_ok {s:PoolS}(ok:PoolOk s){n b:Int}(h0:0≤s.count n+b)(h1:s.count n+b≤65536)(hm:s.floor+s.acts.length<1099511627776):PoolOk (s.did n b):=by
 have h:=turn_ok ok h0 h1;refine⟨h.n1,h.n2,h.len,h.r1,h.r2,h.cs,h.fl,?_⟩;show s.floor+((s.acts++ [(n,b)]).length:Nat)≤ _
 rw [List.length_append];simp only [List.length_singleton];omega
theorem leave_mid {s t:VaultS}{W:List (Int × Option PageV)}(h:Mid s t W)(ok:PoolOk t.pool)(hc:CR t.pool){n:Int}(h0:t.pool.count n≠0)(hfit:((t.on n).getD ⟨0,0,[],[],0⟩).items.length≤65535)(hl:W.length<65536)(hm:t.pool.floor+t.pool.acts.length+65540<1099511627776):
 Mid s (leaveR t n).2.1 (W++(leaveR t n).2.2):=by
 have ht:=there_of_count h0;have hcb:=count_bd ok n;have hn:1≤n∧n≤65536:=⟨ht.1,by have:=ht.2;have:=ok.n2;omega⟩;have hd:=h.did (n:=n) (b:= -1) ht hcb.1 hcb.2 (by omega);have hcr:=hc.dec ht;have okd:PoolOk (t.pool.did n (-1)):=did_ok ok (by omega) (by omega) (by omega);unfold leaveR;by_cases h1:t.pool.count n=1
 · rw [if_pos h1]
   by_cases h2:(t.pool.did n (-1)).state n=1
   · have:=hd.set (n:=n) none hn hl
     simp only [h2,and_true,if_true];exact this
   · simp only [h2,and_false,if_false,List.append_nil]
     exact hd
 · rw [if_neg h1,List.append_nil]
   refine Mid.incs (t:= { t with pool:=t.pool.did n (-1) }) _ hd hcr okd ?_;have:=kidsOf_len ((t.on n).getD ⟨0,0,[],[],0⟩)
   show t.pool.floor+((t.pool.acts++ [(n,(-1:Int))]).length:Nat)+ _≤ _
   rw [List.length_append];simp only [List.length_singleton];omega
def shE(s:VaultS)(n:Int)(g:PageV):Option Int→Int
 | none=>12
 | some m=>(leaveR (s.made m g) n).1
def shS(s:VaultS)(n:Int)(g:PageV):Option Int→VaultS
 | none=>s
 | some m=>(leaveR (s.made m g) n).2.1
def shW(s:VaultS)(n:Int)(g:PageV):Option Int→List (Int × Option PageV)
 | none=> []
 | some m=> [(m,s.on m)]++(leaveR (s.made m g) n).2.2
end Go.Cop
namespace Go.Proofs.YtkfjilnmnbeokaaGreat.D8
open ChangeShapes WideShapes ChangeAt RowKit Sl Cop D2 D3 J3 V3 G2 J2 X3 Y3 E4 G4 L4 M4 Z3 D6 L5 C6 Z6 B7 C7 Q3 N4 D7 J7 M7
theorem own_any(v:Nat)(s:VaultS)(n:Int)(F:Pr)(w:World)(hF:Sat ((VaultA v s).star F) w):
 Calls Tryz.prog 111 #[.pointer (some ⟨v,0,none⟩),.int .i64 n] w fun e w'=>e= .returned (.bool (ownP s.pool n))∧w=w':=by
 obtain⟨x,ok,h1⟩:=vaultA_iff.1 hF;have hs:OwnL [PoolA x.p s.pool,vaultO v s x,(MapV x).star ((Row 126 2 x.av s.acts.length (actCells x.axs)).star (Pr.own x.h)),F] w:=⟨h1.perm (by unfold VaultAt vaultO MapV;simp only [starL,Pr.star_emp];ac_rfl)⟩;have c1:=hs.facts;simp only [CellsAt,Nat.reduceAdd,and_true] at c1;have PS:=hQ (pool_state x.p s.pool n _ w hs.pull1)
 have PC:=hQ (count_A x.p s.pool n _ w hs.pull1);obtain⟨B,hB⟩:∃B,B=ownP s.pool n:=⟨_,rfl⟩;rw [← hB];have HBB:=hQ hB;clear hF h1 hs hB ok;generalize hst:s.pool.state n=st at*;generalize hct:s.pool.count n=ct at*;have HB2:=hQ (show B=(decide (st=3) && decide (ct=1)) from by rw [HBB.out];unfold ownP;rw [hst,hct]);clear hst hct HBB;by_cases hs3:st=3
 · subst hs3
   by_cases hc1:ct=1
   · subst hc1
     go_enter Tryz.func111,Tryz.ntmps111
     go_wp2_with fail
     refine PS.out.mono ?_;rintro e w1 ⟨rfl,rfl⟩;go_wp2_with fail
     refine PC.out.mono ?_;rintro e w1 ⟨rfl,rfl⟩;go_wp2;go_ret;exact⟨by rw [HB2.out];rfl,rfl⟩
   · have hcb:(ct == 1)=false:=by rw [beq_eq_false_iff_ne];exact hc1
     have HC1:=hQ hc1;clear hc1;go_enter Tryz.func111,Tryz.ntmps111
     go_wp2_with fail
     refine PS.out.mono ?_;rintro e w1 ⟨rfl,rfl⟩;go_wp2_with fail
     refine PC.out.mono ?_;rintro e w1 ⟨rfl,rfl⟩;go_wp2;go_ret;exact⟨by rw [HB2.out,decide_eq_false HC1.out];rfl,rfl⟩
 · have hsb:(st == 3)=false:=by rw [beq_eq_false_iff_ne];exact hs3
   have HS3:=hQ hs3;clear hs3;go_enter Tryz.func111,Tryz.ntmps111
   go_wp2_with fail
   refine PS.out.mono ?_;rintro e w1 ⟨rfl,rfl⟩;go_wp2;go_ret;exact⟨by rw [HB2.out,decide_eq_false HS3.out];rfl,rfl⟩
end Go.Proofs.YtkfjilnmnbeokaaGreat.D8
namespace Go.Cop
open Go.Proofs.YtkfjilnmnbeokaaGreat.Q3 Go.Proofs.YtkfjilnmnbeokaaGreat.D6 Go.Proofs.YtkfjilnmnbeokaaGreat.J7
theorem CR.make {s:PoolS}(ok:PoolOk s)(h:CR s){n:Int}(hn:s.state n=1):CR (s.did n 1):=fun m=>by
 have ht:=there_of_state (by omega:s.state n≠0);have h0:=count_of_free ok hn;have:=did_count (s:=s) (n:=n) (b:=1) (m:=m) ht
 rw [this];have h2:=h m;have:=ok.r1
 show (if m=n then _ else _)≤s.refs
 split<;>omega
theorem made_count {s:VaultS}(ok:PoolOk s.pool){m n:Int}(hm:s.pool.state m=1)(hn:s.pool.count n≠0)(g:PageV):m≠n∧(s.made m g).pool.count n=s.pool.count n∧(s.made m g).on n=s.on n:=by
 have h0:=count_of_free ok hm;have hne:m≠n:=fun e=>hn (by rw [← e];exact h0)
 have ht:=there_of_state (by omega:s.pool.state m≠0);refine⟨hne,?_,?_⟩
 · have:=did_count (s:=s.pool) (n:=m) (b:=1) (m:=n) ht
   rw [if_neg (fun e=>hne e.symm)] at this;exact this
 · show (if n=m then _ else _)=_
   rw [if_neg (fun e=>hne e.symm)]
theorem sh_mid {s:VaultS}(ok:PoolOk s.pool)(hc:CR s.pool){n:Int}(h0:s.pool.count n≠0){g:PageV}(hg:s.on n=some g)(hfit:g.items.length≤65535)(hm:s.pool.floor+s.pool.acts.length+65545<1099511627776){z:Option Int}(hz:mkR s z):
 Mid s (shS s n g z) (shW s n g z):=by
 cases z with
 | none=>exact Mid.refl s
 | some m=>
   have h1:Mid s (s.made m g) [(m,s.on m)]:=mk_mid ok g (z:=some m) hz;obtain⟨_,e2,e3⟩:=made_count ok hz.1 h0 g;have hc0:=count_of_free ok hz.1;have okm:PoolOk (s.made m g).pool:=did_ok ok (by omega) (by omega) (by omega);refine leave_mid h1 okm (hc.make ok hz.1) (by rw [e2];exact h0) (by rw [e3,hg];exact hfit) (by simp) ?_;show s.pool.floor+((s.pool.acts++ [(m,(1:Int))]).length:Nat)+65540< _
   rw [List.length_append];simp only [List.length_singleton];omega
end Go.Cop
namespace Go.Proofs.YtkfjilnmnbeokaaGreat.G8
open ChangeShapes WideShapes ChangeAt RowKit Sl Cop D2 D3 J3 V3 G2 J2 X3 Y3 E4 G4 L4 M4 Z3 D6 L5 C6 Z6 B7 C7 Q3 N4 D7 J7 M7 D8
theorem vput_M2(v:Nat)(s:VaultS)(ab:Nat)(mark:Int)(was:List (Int × Option PageV))(n:Int)(hn:1≤n∧n≤65536)(h':Hp)(pv:Value)(g:PageV)(hg:PageIn h' pv g)(hl:was.length≤65536)(F:Pr)(w:World)
 (hF:Sat ((VMA v s ab mark was).star ((Pr.own h').star F)) w):
 Calls Tryz.prog 108 #[.pointer (some ⟨v,0,none⟩),.pointer (some ⟨ab,0,none⟩),.int .i64 n,pv] w fun e w'=>
  e= .returned (.tuple #[])∧Stays w w'∧Sat ((VMA v { s with on:=fun m=>if m=n then some g else s.on m } ab mark (was++ [(n,s.on n)])).star F) w'∧w'.cell? ⟨v,1,none⟩=w.cell? ⟨v,1,none⟩∧v<w'.heap.size:=by
 obtain⟨x,wv,ws,ok,hws,h1⟩:=vma_iff.1 hF;have h2:Sat ((Pr.own x.h).star ((Pr.own h').star (((PoolA x.p s.pool).star ((vaultO v s x).star ((MapV x).star (MRest s.acts.length x ab mark wv ws)))).star F))) w:=h1.perm (by unfold VMAt VaultAt MRest vaultO MapV;ac_rfl);obtain⟨hd,h3⟩:=h2.own_join
 have h4:Sat ((VMAt v s { x with h:=x.h.un h' } ab mark wv ws).star F) w:=h3.perm (by unfold VMAt VaultAt MRest vaultO MapV;dsimp only;ac_rfl);have hO:OnIn (x.h.un h') x.f s.on:=ok.on.sub (Hp.sub_un_left _ _);have hpv:PageIn (x.h.un h') pv g:=hg.sub (Hp.sub_un_right hd)
 have b1:w.cell? ⟨v,1,none⟩=some (.map (some x.mb)):=by
  have h6:Sat ((vaultO v s x).star (((Pr.own x.h).star ((Pr.own h').star ((PoolA x.p s.pool).star ((MapV x).star (MRest s.acts.length x ab mark wv ws))))).star F)) w:=h2.perm (by unfold vaultO;ac_rfl);rw [cell_of_heap h6.pts_heap];rfl
 refine(put_at v s { x with h:=x.h.un h' } ab mark wv ws n hn pv g hpv hO (by rw [hws.1];exact hl) F w h4).mono ?_;rintro e w' ⟨rfl,⟨wv',X,hX,h5⟩,st⟩
 have h7:Sat ((vaultO v s x).star (((Pr.own (x.h.un h')).star ((PoolA x.p s.pool).star ((MapV { x with f:=fun m=>if m=n then some pv else x.f m }).star (MRest s.acts.length x ab mark wv' (ws++ [X]))))).star F)) w':=h5.perm (by unfold VMAt VaultAt MRest vaultO MapV;dsimp only;ac_rfl)
 exact⟨rfl,st,vma_iff.2 ⟨{ x with f:=fun m=>if m=n then some pv else x.f m,h:=x.h.un h' },wv',ws++ [X],⟨hO.put hpv,ok.acts.sub (Hp.sub_un_left x.h h'),ok.f0,ok.fb⟩,was_snoc (hws.sub (Hp.sub_un_left x.h h')) hX,h5.perm (by unfold VMAt VaultAt;dsimp only)⟩,by rw [b1,cell_of_heap h7.pts_heap];rfl,h7.lt⟩
theorem shadow1_any(v:Nat)(s:VaultS)(ab:Nat)(mark:Int)(VB MB NB:Nat)(m0 n:Int)(g:PageV)(h0:s.pool.count n≠0)(hgn:s.on n=some g)(fit:Fit g)(hcr:CR s.pool)(hm:s.pool.floor+s.pool.acts.length+65545<1099511627776)(F:Pr)(w:World)
 (hF:Sat ((VMA v s ab mark []).star ((Pr.pts VB (.cells #[.pointer (some ⟨v,0,none⟩)] 24)).star ((Pr.pts MB (.cells #[.int .i64 m0] 3)).star ((Pr.pts NB (.cells #[.int .i64 n] 3)).star F)))) w):
 Calls Tryz.prog 150 #[.pointer (some ⟨ab,0,none⟩),.pointer (some ⟨VB,0,none⟩),.pointer (some ⟨MB,0,none⟩),.pointer (some ⟨NB,0,none⟩)] w fun e w'=>
  Stays w w'∧∃z,mkR s z∧e= .returned (.int .i64 (shE s n g z))∧Sat ((VMA v (shS s n g z) ab mark (shW s n g z)).star ((Pr.pts MB (.cells #[.int .i64 (mkN z)] 3)).star F)) w':=by
 have hs0:=OwnL.in4 hF;have okp:=vma_pool hF;have hth:=there_of_count h0;have hnb:1≤n∧n≤65536:=⟨hth.1,by have:=hth.2;have:=okp.n2;omega⟩;obtain⟨x,wv,ws,ok,hws,hs1⟩:=vma_open (v:=v) (s:=s) (ab:=ab) (mark:=mark) (was:= []) hs0;have c1:=hs1.facts;simp only [CellsAt,Nat.reduceAdd,and_true] at c1;have A:=hQ (alloc_A x.p s.pool _ w hs1.pull1 (by omega))
 have HB:=hQ (fun m (hm:s.pool.there m)=>(show 1≤m∧m≤65536 from⟨hm.1,by have:=hm.2;have:=okp.n2;omega⟩));have HS0:=hQ hs0;have HOK:=hQ (And.intro ok hws);have HPG:=hQ (show ∃pv,x.f n=some pv∧PageIn x.h pv g from by have:=ok.on n;rw [hgn] at this;exact this);have HMC:=hQ (fun m (hm:s.pool.state m=1)=>made_count okp hm h0 g);have HCM:=hQ (fun m (hm:s.pool.state m=1)=>hcr.make okp hm)
 have HH:=hQ (And.intro h0 (And.intro hgn hm));clear hF hs0 hs1 ok hws okp hth hcr h0 hgn hm;go_enter Tryz.func150,Tryz.ntmps150
 go_wp2_with fail
 refine A.out.mono ?_;rintro e w1 (⟨rfl,hno,rfl⟩ | ⟨m,rfl,hn,hle,hs,hst⟩)
 · clear A HB
   go_wp2;go_ret;exact⟨(Stays.refl w).setCell _ _,none,hno,rfl,(show Sat ((VMA v s ab mark []).star ((Pr.pts MB (.cells #[.int .i64 0] 3)).star F)) _ from(HS0.out.set MB 0 (.int .i64 0)).end3)⟩
 · have hs2:=(OwnL.of1 hs).set MB 0 (.int .i64 m)
   clear c1;have c1:=(OwnL.of1 hs).facts;simp only [CellsAt,Nat.reduceAdd,and_true] at c1;have c2:=hs2.facts;simp only [CellsAt,Nat.reduceAdd,and_true] at c2;obtain⟨pv,hfn,hpv⟩:=HPG.out;have LK:=map_look (P:=Tryz.prog) (w:=(w1.setCell ⟨MB,0,none⟩ (.int .i64 m)).drew) Tryz.underlying3 Tryz.underlying67 (z:=zeroPage) (zero_page _) false hnb (hs2.drew.pull1 (A1:=MapV x));rw [hfn] at LK
   have HLK:=hQ (show (Instr.lookup 67 (.map (some x.mb)) (.int .i64 n) false).run Tryz.prog (w1.setCell ⟨MB,0,none⟩ (.int .i64 m)).drew= .ok pv (w1.setCell ⟨MB,0,none⟩ (.int .i64 m)).drew from LK);have C:=hQ (copied_any x.h pv g hpv (by have:=fit.n;omega) (fun y hy=>by have:=fit.k y hy;omega) (by have:=fit.d;omega) _ _ (hs2.drew.pull1 (A1:=Pr.own x.h)))
   have HST:=hQ (hst.setCell ⟨MB,0,none⟩ (.int .i64 m)).drew;have HSQ:=hQ (And.intro hn hle);have hmb:=HB.out m (there_of_state (by omega:s.pool.state m≠0));have HMC2:=hQ (HMC.out m hn);have HCM2:=hQ (HCM.out m hn);obtain⟨vi,vd,epv,hi0,hb0⟩:=id hpv;obtain⟨ai,ci,rfl,_,_⟩:=items_rd hi0;obtain⟨ad,cd,rfl⟩:=bytes_shape hb0;subst epv;clear hs hs2 hst A HB HS0 hn hle HPG HMC HCM LK hfn hpv hi0 hb0;go_wp2
   refine wS 32 [0,1,2,3,4,5,6,7,8] [(9,[],[0,1,2,3,4,5,6,7]),(10,[],[3,4,5,6,7])] ?_;refine wpQ_cut [0,1,2,3,4,5,6,7] [8] ?_;refine wpQ_all _ rfl rfl ?_;simp only [pick,pQ];iterate 8 (go_big_quiet_step (fail))
   refine wpQuiet_nil ?_;refine wpQ_lookK rfl rfl rfl HLK.out (fun K hK=> ?_);go_simp;refine hK _ ?_;clear hK K;refine wpQ_nil ?_;refine wpRest_act rfl ?_;go_wp2_with fail
   refine C.out.mono ?_;rintro e w3 ⟨pv2,h',rfl,hpv2,hs4,st4⟩;have hs5:=vma_close (v:=v) (s:= { s with pool:=s.pool.did m 1 }) (ab:=ab) (mark:=mark) (was:= []) (x:=x) (wv:=wv) (ws:=ws) ⟨HOK.out.1.on,HOK.out.1.acts,HOK.out.1.f0,HOK.out.1.fb⟩ HOK.out.2 (OwnL.of2 hs4)
   have P:=hQ (vput_M2 v { s with pool:=s.pool.did m 1 } ab mark [] m hmb h' pv2 g hpv2 (by simp) _ _ (hs5.pull2 (A1:=VMA v { s with pool:=s.pool.did m 1 } ab mark []) (A2:=Pr.own h')));clear c1 c2;have c2:=(OwnL.of2 hs4).facts;simp only [CellsAt,Nat.reduceAdd,and_true] at c2;have HST4:=hQ (HST.out.trans st4);clear hs4 hs5 st4 C hpv2 HLK;go_wp2;refine onN_mk ?_;refine wpQ_nil ⟨?_,?_⟩
   · exact cQ
   refine wpRest_act rfl ?_;go_wp2_with fail
   refine P.out.mono ?_;rintro e w4 ⟨rfl,st5,hs6,hv1,hvz⟩;have hv2:w4.cell? ⟨v,1,none⟩=some (.map (some x.mb)):=hv1.trans c2.1.1.2.2.1;clear hv1;rw [List.nil_append] at hs6
   have hs7:OwnL [VMA v (s.made m g) ab mark [(m,s.on m)],Pr.pts VB (.cells #[.pointer (some ⟨v,0,none⟩)] 24),Pr.pts MB (.cells #[.int .i64 m] 3),Pr.pts NB (.cells #[.int .i64 n] 3),F] w4:=(show OwnL (VMA v (s.made m g) ab mark [(m,s.on m)] :: _) w4 from OwnL.of1 hs6).to;have c3:=hs7.facts;simp only [CellsAt,and_true] at c3
   have LV:=hQ (leave_any v (s.made m g) ab mark [(m,s.on m)] n (by rw [HMC2.out.2.1];exact HH.out.1) HCM2.out (by rw [HMC2.out.2.2,HH.out.2.1];have:=fit.n;show g.items.length≤ _;omega) (by simp) (by
    have:=HH.out.2.2
    show s.pool.floor+((s.pool.acts++ [(m,(1:Int))]).length:Nat)+65540< _
    rw [List.length_append]
    simp only [List.length_singleton]
    omega) _ _ hs7.pull1)
   clear hs6 hs7 P c2;go_wp2;refine onN_mk ?_;refine wpQ_nil ⟨?_,?_⟩
   · exact cQ
   refine wpRest_nil ?_;go_wp2_with fail
   refine LV.out.mono ?_;rintro e w5 ⟨st6,rfl,hs8⟩;have HS8:=hQ (OwnL.of1 hs8);clear hs8 LV c3;go_wp2;go_ret;exact⟨(HST4.out.trans st5).trans st6,some m,HSQ.out,rfl,(show Sat ((VMA v (leaveR (s.made m g) n).2.1 ab mark ([(m,s.on m)]++(leaveR (s.made m g) n).2.2)).star ((Pr.pts MB (.cells #[.int .i64 m] 3)).star F)) _ from HS8.out.end3)⟩
def ShPost(v:Nat)(s:VaultS)(n:Int)(F:Pr)(w:World)(e:Ending)(w':World):Prop:=Stays w w'∧
     ((s.pool.count n=0∧e= .returned (.tuple #[.int .i64 0,.int .i64 15])∧Sat ((VaultA v s).star F) w')∨
      (s.pool.count n≠0∧ownP s.pool n=true∧e= .returned (.tuple #[.int .i64 n,.int .i64 0])∧Sat ((VaultA v s).star F) w')∨
      (s.pool.count n≠0∧ownP s.pool n=false∧∃g z,s.on n=some g∧mkR s z∧Mid s (shS s n g z) (shW s n g z)∧e= .returned (.tuple #[.int .i64 (if shE s n g z=0 then mkN z else 0),.int .i64 (shE s n g z)])∧
        Sat ((if shE s n g z=0 then VaultA v ((shS s n g z).acted ⟨s.pool.mark,shW s n g z⟩) else VaultA v s).star F) w'))
theorem vshadow_any(v:Nat)(s:VaultS)(n:Int)(hfit:∀n g,s.on n=some g→Fit g)(hon:s.pool.count n≠0→∃g,s.on n=some g)(hcr:CR s.pool)(hm:s.pool.floor+s.pool.acts.length+65545<1099511627776)(hvm:s.floor+s.acts.length<1099511627776)(F:Pr)(w:World)
 (hF:Sat ((VaultA v s).star F) w):
 Calls Tryz.prog 113 #[.pointer (some ⟨v,0,none⟩),.int .i64 n] w fun e w'=>ShPost v s n F w e w':=by
 have hs0:=OwnL.in1 hF;have okp:=(vault_ok hF).1;have hs1:=(hs0.alloc (.cells #[.pointer (some ⟨v,0,none⟩)] 24)).alloc (.cells #[.int .i64 n] 3);have es:(w.alloc (.cells #[.pointer (some ⟨v,0,none⟩)] 24)).heap.size=w.heap.size+1:=by simp
 rw [es] at hs1;have HST:=hQ (((Stays.refl w).alloc (.cells #[.pointer (some ⟨v,0,none⟩)] 24)).alloc (.cells #[.int .i64 n] 3));obtain⟨x,ok,hx⟩:=vaultA_iff.1 (hs1.pull1 (A1:=VaultA v s))
 have hsx:OwnL [PoolA x.p s.pool,vaultO v s x,(MapV x).star ((Row 126 2 x.av s.acts.length (actCells x.axs)).star (Pr.own x.h)),Pr.pts (w.heap.size+1) (.cells #[.int .i64 n] 3),Pr.pts w.heap.size (.cells #[.pointer (some ⟨v,0,none⟩)] 24),F] _:=⟨hx.perm (by unfold VaultAt vaultO MapV;simp only [starL,Pr.star_emp];ac_rfl)⟩;have c1:=hsx.facts;simp only [CellsAt,Nat.reduceAdd,and_true] at c1
 have PC:=hQ (count_A x.p s.pool n _ _ hsx.drew.pull1);have OW:=hQ (own_any v s n _ _ (hs1.drew.pull1 (A1:=VaultA v s)));have HS1:=hQ hs1.drew;have HS1N:=hQ hs1;have HON:=hQ hon;have HFIT:=hQ hfit;have HCR:=hQ hcr;have HOKP:=hQ okp;generalize hct:s.pool.count n=ct at*;have HCT:=hQ hct;obtain⟨B,hB⟩:∃B,B=ownP s.pool n:=⟨_,rfl⟩;rw [← hB] at OW;have HBB:=hQ hB
 clear hF hs0 hs1 es okp ok hx hsx hon hfit hcr hct hB;go_enter Tryz.func113,Tryz.ntmps113
 go_wp2_with fail
 refine wS 26 [0,1,2,3,4] [(5,[6],[0,1,2])] ?_;refine wpQ_all _ rfl rfl ?_;simp only [pick,pQ];iterate 5 (go_big_quiet_step (fail))
 refine wpQuiet_nil ?_;refine wpRest_act rfl ?_;go_wp2_with fail
 refine PC.out.mono ?_;rintro e w1 ⟨rfl,rfl⟩;go_wp2;refine onN_mk ?_;refine wpQ_all _ rfl rfl ?_;simp only [pick,pQ];iterate 1 (go_big_quiet_step (fail))
 refine wpQuiet_nil ⟨?_,?_⟩
 · exact cQ
 refine wpRest_nil ?_;by_cases h0:ct=0
 · subst h0
   clear OW;go_wp2;go_ret2;exact⟨HST.out.drew,.inl ⟨HCT.out,rfl,HS1.out.end2⟩⟩
 · have hne:(ct == 0)=false:=by rw [beq_eq_false_iff_ne];exact h0
   have HH0:=hQ h0;clear h0;go_wp2_with fail
   refine OW.out.mono ?_;rintro e w1 ⟨rfl,rfl⟩;cases B with
   | true=>
     clear OW PC;go_wp2;go_ret2;exact⟨HST.out.drew,.inr (.inl ⟨by rw [HCT.out];exact HH0.out,HBB.out.symm,rfl,HS1.out.end2⟩)⟩
   | false=>
     obtain⟨g,hg⟩:=HON.out HH0.out;have hcn:s.pool.count n≠0:=by rw [HCT.out];exact HH0.out
     have fit:=HFIT.out n g hg;clear OW PC;have hs2:=(HS1N.out.alloc (.cells #[.int .i64 0] 3)).drew;rw [show ((w.alloc (.cells #[.pointer (some ⟨v,0,none⟩)] 24)).alloc (.cells #[.int .i64 n] 3)).heap.size=w.heap.size+1+1 by simp] at hs2
     have D:=hQ (do_any v s 150 #[.pointer (some ⟨w.heap.size,0,none⟩),.pointer (some ⟨w.heap.size+1+1,0,none⟩),.pointer (some ⟨w.heap.size+1,0,none⟩)] (shE s n g) (mkR s) (shS s n g) (shW s n g)
      (fun z=>(Pr.pts (w.heap.size+1+1) (.cells #[.int .i64 (mkN z)] 3)).star F) _ _ (hs2.end5 (A1:=VaultA v s) (A2:=Pr.pts w.heap.size (.cells #[.pointer (some ⟨v,0,none⟩)] 24)) (A3:=Pr.pts (w.heap.size+1+1) (.cells #[.int .i64 0] 3)) (A4:=Pr.pts (w.heap.size+1) (.cells #[.int .i64 n] 3)) (A5:=F)) hvm (fun _ _=>rfl)
      (fun z hz=>sh_mid HOKP.out HCR.out hcn hg (by have:=fit.n;omega) hm hz) (fun ab wx hwx=>
        shadow1_any v s ab s.pool.mark w.heap.size (w.heap.size+1+1) (w.heap.size+1) 0 n g hcn hg fit HCR.out hm F wx hwx))
     have HG:=hQ hg;have HM:=hQ (fun z hz=>sh_mid HOKP.out HCR.out hcn hg (by have:=fit.n;omega) hm (z:=z) hz);have HST2:=hQ (HST.out.alloc (.cells #[.int .i64 0] 3)).drew;clear c1;have c1:=hs2.facts;simp only [CellsAt,and_true] at c1;clear hs2 HS1 HS1N hg hcn fit HON HFIT;go_wp2_with fail
     refine D.out.mono ?_;rintro e w2 ⟨st3,z,hz,rfl,hs5⟩;have hs6:=OwnL.in2 hs5;have HS6:=hQ hs6;have HZ:=hQ hz;clear c1;have c1:=hs6.facts;simp only [CellsAt,and_true] at c1;clear hs5 hs6 hz D;generalize hEz:shE s n g z=Ez at*;have HEZ:=hQ hEz;clear hEz;by_cases he:Ez=0
     · subst he
       go_wp2;go_ret2;refine⟨HST2.out.trans st3,.inr (.inr ⟨by rw [HCT.out];exact HH0.out,HBB.out.symm,g,z,HG.out,HZ.out,HM.out z HZ.out,?_,?_⟩)⟩
       · rw [HEZ.out];rfl
       · rw [HEZ.out,if_pos rfl]
         have h9:=HS6.out.lose (Pr.pts (w.heap.size+1+1) (.cells #[.int .i64 (mkN z)] 3));simp only [if_true] at h9;exact h9.end2
     · have hne:(Ez != 0)=true:=by rw [bne_iff_ne];exact he
       have HE:=hQ he;clear he;go_wp2;go_ret2;refine⟨HST2.out.trans st3,.inr (.inr ⟨by rw [HCT.out];exact HH0.out,HBB.out.symm,g,z,HG.out,HZ.out,HM.out z HZ.out,?_,?_⟩)⟩
       · rw [HEZ.out,if_neg HE.out];rfl
       · rw [HEZ.out]
         exact(HS6.out.lose (Pr.pts (w.heap.size+1+1) (.cells #[.int .i64 (mkN z)] 3))).end2
end Go.Proofs.YtkfjilnmnbeokaaGreat.G8
namespace Go.Proofs.YtkfjilnmnbeokaaGreat.P8
open ChangeShapes WideShapes ChangeAt RowKit Sl Cop D2 D3 J3 V3 G2 J2 X3 Y3 E4 G4 L4 M4 Z3 D6 L5 C6 Z6 B7 C7 Q3 N4 D7 J7 M7 D8 G8
abbrev wrS(s:VaultS)(n:Int)(g:PageV):VaultS:= { s with on:=fun m=>if m=n then some g else s.on m }
theorem write1_any(v:Nat)(s:VaultS)(ab:Nat)(mark:Int)(VB NB PB:Nat)(n:Int)(hnb:1≤n∧n≤65536)(hp:Hp)(vi vd:Value)(g:PageV)(fit:Fit g)(hg:PageIn hp (pageV g.kind g.level vi vd g.next) g)(F:Pr)(w:World)
 (hF:Sat ((VMA v s ab mark []).star ((Pr.pts VB (.cells #[.pointer (some ⟨v,0,none⟩)] 24)).star ((Pr.pts NB (.cells #[.int .i64 n] 3)).star ((Pr.pts PB (.cells #[.int .i64 g.kind,.int .i64 g.level,vi,vd,.int .i64 g.next] 74)).star ((Pr.own hp).star F))))) w):
 Calls Tryz.prog 112 #[.pointer (some ⟨ab,0,none⟩),.pointer (some ⟨VB,0,none⟩),.pointer (some ⟨NB,0,none⟩),.pointer (some ⟨PB,0,none⟩)] w fun e w'=>
  Stays w w'∧e= .returned (.int .i64 0)∧Sat ((VMA v (wrS s n g) ab mark [(n,s.on n)]).star ((Pr.own hp).star F)) w':=by
 have hs0:=OwnL.in5 hF;obtain⟨vi0,vd0,ee,hi0,hb0⟩:=id hg;simp only [pageV,Value.agg.injEq,Array.mk.injEq,List.cons.injEq,and_true,true_and] at ee;obtain⟨rfl,rfl⟩:=ee;obtain⟨ai,ci,rfl,_,_⟩:=items_rd hi0;obtain⟨ad,cd,rfl⟩:=bytes_shape hb0;have c1:=hs0.facts;simp only [CellsAt,Nat.reduceAdd,and_true] at c1
 have C:=hQ (copied_any hp _ g hg (by have:=fit.n;omega) (fun y hy=>by have:=fit.k y hy;omega) (by have:=fit.d;omega) _ _ (hs0.drew.pull1 (A1:=Pr.own hp)));clear hF hs0 hi0 hb0 hg;go_enter Tryz.func112,Tryz.ntmps112
 go_wp2_with fail
 refine wS 12 [0,1,2,3] [(4,[],[0,1,2]),(5,[],[])] ?_;refine wpQ_all _ rfl rfl ?_;simp only [pick,pQ];iterate 4 (go_big_quiet_step (fail))
 refine wpQuiet_nil ?_;refine wpRest_act rfl ?_;go_wp2_with fail
 refine C.out.mono ?_;rintro e w3 ⟨pv,h',rfl,hpv,hs4,st4⟩;have hs5:=OwnL.of2 hs4;have P:=hQ (vput_M v s ab mark [] n hnb h' pv g hpv (by simp) _ _ (hs5.pull2 (A1:=VMA v s ab mark []) (A2:=Pr.own h')));clear c1;have c1:=hs5.facts;simp only [CellsAt,Nat.reduceAdd,and_true] at c1;have HST4:=hQ ((Stays.refl w).drew.trans st4);clear hs4 hs5 st4 C hpv;go_wp2;refine onN_mk ?_;refine wpQ_nil ⟨?_,?_⟩
 · exact cQ
 refine wpRest_act rfl ?_;go_wp2_with fail
 refine P.out.mono ?_;rintro e w4 ⟨rfl,st5,hs6⟩;rw [List.nil_append] at hs6;have HS6:=hQ (OwnL.of1 hs6);clear hs6 P c1;go_wp2;refine onN_mk (wpQ_nil ⟨chk_nil,wpRest_nil ?_⟩);go_wp2;go_ret;exact⟨HST4.out.trans st5,rfl,HS6.out.end3⟩
def WrPost(v:Nat)(s:VaultS)(n:Int)(g:PageV)(hp:Hp)(F:Pr)(w:World)(e:Ending)(w':World):Prop:=Stays w w'∧
 ((ownP s.pool n=false∧e= .returned (.int .i64 15)∧Sat ((VaultA v s).star ((Pr.own hp).star F)) w')∨
  (ownP s.pool n=true∧checkP g≠0∧e= .returned (.int .i64 (checkP g))∧Sat ((VaultA v s).star ((Pr.own hp).star F)) w')∨
  (ownP s.pool n=true∧checkP g=0∧e= .returned (.int .i64 0)∧Mid s (wrS s n g) [(n,s.on n)]∧Sat ((VaultA v ((wrS s n g).acted ⟨s.pool.mark,[(n,s.on n)]⟩)).star ((Pr.own hp).star F)) w'))
theorem own_bd {s:PoolS}(ok:PoolOk s){n:Int}(h:ownP s n=true):1≤n∧n≤65536:=by
 unfold ownP at h;simp only [Bool.and_eq_true,decide_eq_true_eq] at h;have ht:=there_of_count (by omega:s.count n≠0);exact⟨ht.1,by have:=ht.2;have:=ok.n2;omega⟩
theorem vwrite_any(v:Nat)(s:VaultS)(n:Int)(hp:Hp)(pv:Value)(g:PageV)(hg:PageIn hp pv g)(hu:∀x∈g.items,U8 x.key)(hvm:s.floor+s.acts.length<1099511627776)(F:Pr)(w:World)
 (hF:Sat ((VaultA v s).star ((Pr.own hp).star F)) w):
 Calls Tryz.prog 72 #[.pointer (some ⟨v,0,none⟩),.int .i64 n,pv] w fun e w'=>WrPost v s n g hp F w e w':=by
 have hs0:=OwnL.in2 hF;have okp:=(vault_ok hF).1;obtain⟨vi,vd,rfl,hi0,hb0⟩:=id hg;obtain⟨ai,ci,rfl,_,_⟩:=items_rd hi0;obtain⟨ad,cd,rfl⟩:=bytes_shape hb0;have hs1:=((hs0.alloc (.cells #[.pointer (some ⟨v,0,none⟩)] 24)).alloc (.cells #[.int .i64 n] 3)).alloc (.cells #[.int .i64 g.kind,.int .i64 g.level,.slice ai g.items.length ci,.slice ad g.data.length cd,.int .i64 g.next] 74)
 have es:(w.alloc (.cells #[.pointer (some ⟨v,0,none⟩)] 24)).heap.size=w.heap.size+1:=by simp
 have es2:((w.alloc (.cells #[.pointer (some ⟨v,0,none⟩)] 24)).alloc (.cells #[.int .i64 n] 3)).heap.size=w.heap.size+1+1:=by simp
 rw [es,es2] at hs1;have HST:=hQ ((((Stays.refl w).alloc (.cells #[.pointer (some ⟨v,0,none⟩)] 24)).alloc (.cells #[.int .i64 n] 3)).alloc (.cells #[.int .i64 g.kind,.int .i64 g.level,.slice ai g.items.length ci,.slice ad g.data.length cd,.int .i64 g.next] 74));have c1:=hs1.facts;simp only [CellsAt,Nat.reduceAdd,and_true] at c1;have OW:=hQ (own_any v s n _ _ (hs1.pull1 (A1:=VaultA v s)))
 have C:=hQ (check_any g hp _ hg hu _ _ (hs1.pull1 (A1:=Pr.own hp)));have HS1:=hQ hs1;have HG:=hQ hg;have HOKP:=hQ okp;obtain⟨B,hB⟩:∃B,B=ownP s.pool n:=⟨_,rfl⟩;rw [← hB] at OW;have HBB:=hQ hB;obtain⟨E,hE⟩:∃E,E=checkP g:=⟨_,rfl⟩;rw [← hE] at C;have HE:=hQ hE;clear hF hs0 hs1 hi0 hb0 hg es es2 okp hB hE hu;go_enter Tryz.func72,Tryz.ntmps72
 go_wp2_with fail
 refine OW.out.mono ?_;rintro e w1 ⟨rfl,rfl⟩;cases B with
 | false=>
   clear OW C;go_wp2;go_ret;exact⟨HST.out,.inl ⟨HBB.out.symm,rfl,HS1.out.end3⟩⟩
 | true=>
   go_wp2_with fail
   refine C.out.mono ?_;rintro e w2 ⟨rfl,hs2,st2⟩;have hs3:=OwnL.of1 hs2;by_cases h0:E=0
   · subst h0
     have hnb:=own_bd HOKP.out HBB.out.symm;have fit:=fit_of_check HE.out.symm
     have D:=hQ (do_any v s 112 #[.pointer (some ⟨w.heap.size,0,none⟩),.pointer (some ⟨w.heap.size+1,0,none⟩),.pointer (some ⟨w.heap.size+1+1,0,none⟩)] (fun _:Unit=>0) (fun _=>True) (fun _=>wrS s n g) (fun _=> [(n,s.on n)])
      (fun _=>(Pr.own hp).star F) _ _ (hs3.end6 (A1:=VaultA v s) (A2:=Pr.pts w.heap.size (.cells #[.pointer (some ⟨v,0,none⟩)] 24)) (A3:=Pr.pts (w.heap.size+1) (.cells #[.int .i64 n] 3)) (A4:=Pr.pts (w.heap.size+1+1) (.cells #[.int .i64 g.kind,.int .i64 g.level,.slice ai g.items.length ci,.slice ad g.data.length cd,.int .i64 g.next] 74)) (A5:=Pr.own hp) (A6:=F)) hvm (fun _ _=>rfl)
      (fun z _=>(Mid.refl s).set (some g) hnb (by simp)) (fun ab wx hwx=>(write1_any v s ab s.pool.mark w.heap.size (w.heap.size+1) (w.heap.size+1+1) n hnb hp _ _ g fit HG.out F wx hwx).mono (by
        rintro e w' ⟨h1,h2,h3⟩
        exact⟨h1,(),trivial,h2,h3⟩)))
     clear c1;have c1:=hs3.facts;simp only [CellsAt,Nat.reduceAdd,and_true] at c1;have HMID:=hQ (show Mid s (wrS s n g) [(n,s.on n)] from(Mid.refl s).set (some g) hnb (by simp));clear hs2 hs3 C OW;go_wp2_with fail
     refine D.out.mono ?_;rintro e w3 ⟨st3,z,_,rfl,hs5⟩;rw [if_pos trivial] at hs5;have HS5:=hQ hs5;clear hs5 D c1;go_wp2;go_ret;exact⟨(HST.out.trans st2).trans st3,.inr (.inr ⟨HBB.out.symm,HE.out.symm,rfl,HMID.out,HS5.out⟩)⟩
   · have hne:(E != 0)=true:=by rw [bne_iff_ne];exact h0
     have HH:=hQ h0;have HS3:=hQ hs3;clear h0 hs2 hs3 C OW;go_wp2;go_ret;exact⟨HST.out.trans st2,.inr (.inl ⟨HBB.out.symm,by rw [← HE.out];exact HH.out,by rw [← HE.out];rfl,HS3.out.end3⟩)⟩
end Go.Proofs.YtkfjilnmnbeokaaGreat.P8
