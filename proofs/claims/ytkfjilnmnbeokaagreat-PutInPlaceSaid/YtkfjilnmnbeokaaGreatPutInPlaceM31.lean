/- In the midst of an act: the vault laid open and closed; put of any page; Make of any page; the conditions stand as hypotheses. -/
import Derived.Test.YtkfjilnmnbeokaaGreatPutInPlaceM29
import Derived.Test.YtkfjilnmnbeokaaGreatPutInPlaceM24
import Derived.Test.YtkfjilnmnbeokaaGreatPutInPlaceM30
import Derived.Test.YtkfjilnmnbeokaaGreatPutInPlaceM20
import Derived.Test.YtkfjilnmnbeokaaGreatPutInPlaceM03
import Derived.Test.YtkfjilnmnbeokaaGreatPutInPlaceM01
set_option maxRecDepth 100000
set_option maxHeartbeats 16000000
namespace Go.Proofs.YtkfjilnmnbeokaaGreat.J7
open ChangeShapes WideShapes ChangeAt RowKit Sl Cop D2 D3 J3 V3 G2 J2 X3 Y3 E4 G4 L4 M4 Z3 L5 C6 Z6 B7 N4
abbrev vaultO(v:Nat)(s:VaultS)(x:VX):Pr:=Pr.pts v (.cells #[.pointer (some ⟨x.p,0,none⟩),.map (some x.mb),x.av,.int .i64 s.floor] 70)
def MRest(na:Nat)(x:VX)(ab:Nat)(mark:Int)(wv:Value)(ws:List WasX):Pr:=
 (Row 126 2 x.av na (actCells x.axs)).star ((Pr.pts ab (.cells #[.int .i64 mark,wv] 126)).star (Row 164 7 wv ws.length (ws.flatMap WasX.cells)))
abbrev MapV(x:VX):Pr:=MapA Tryz.prog 3 x.mb x.f
theorem vma_open {v:Nat}{s:VaultS}{ab:Nat}{mark:Int}{was:List (Int × Option PageV)}{L R:List Pr}{w:World}(o:OwnL L w) [h:Pull (VMA v s ab mark was) L R]:
 ∃x wv ws,VOk s x∧WasIn x.h ws was∧OwnL (PoolA x.p s.pool :: vaultO v s x :: MapV x :: Pr.own x.h :: MRest s.acts.length x ab mark wv ws :: R) w:=by
 obtain⟨x,wv,ws,ok,hw,h1⟩:=vma_iff.1 (o.pull1 (A1:=VMA v s ab mark was));refine⟨x,wv,ws,ok,hw,⟨h1.perm ?_⟩⟩;show _=(PoolA x.p s.pool).star ((vaultO v s x).star ((MapV x).star ((Pr.own x.h).star ((MRest s.acts.length x ab mark wv ws).star (starL R)))))
 generalize starL R=F;unfold VMAt VaultAt MRest vaultO MapV;ac_rfl
theorem vma_close {v:Nat}{s:VaultS}{ab:Nat}{mark:Int}{was:List (Int × Option PageV)}{x:VX}{wv:Value}{ws:List WasX}(ok:VOk s x)(hw:WasIn x.h ws was){L R1 R2 R3 R4 R5:List Pr}{w:World}(o:OwnL L w)
 [h1:Pull (PoolA x.p s.pool) L R1] [h2:Pull (vaultO v s x) R1 R2] [h3:Pull (MapV x) R2 R3] [h4:Pull (Pr.own x.h) R3 R4] [h5:Pull (MRest s.acts.length x ab mark wv ws) R4 R5]:OwnL (VMA v s ab mark was :: R5) w:=by
 have h:=o.pull5 (A1:=PoolA x.p s.pool) (A2:=vaultO v s x) (A3:=MapV x) (A4:=Pr.own x.h) (A5:=MRest s.acts.length x ab mark wv ws);refine⟨vma_iff.2 ⟨x,wv,ws,ok,hw,?_⟩⟩;generalize starL R5=F at*;exact h.perm (by unfold VMAt VaultAt MRest vaultO MapV;ac_rfl)
theorem vault_ab {v:Nat}{s:VaultS}{ab:Nat}{mark:Int}{was:List (Int × Option PageV)}{F:Pr}{w:World}(h:Sat ((VMA v s ab mark was).star F) w):PoolOk s.pool:=by
 obtain⟨x,wv,ws,ok,hw,h1⟩:=vma_iff.1 h;have h2:Sat ((PoolA x.p s.pool).star ((vaultO v s x).star ((MapV x).star ((Pr.own x.h).star ((MRest s.acts.length x ab mark wv ws).star F))))) w:=h1.perm (by unfold VMAt VaultAt MRest vaultO MapV;ac_rfl);exact(poolA_iff.1 h2).1
theorem vput_M(v:Nat)(s:VaultS)(ab:Nat)(mark:Int)(was:List (Int × Option PageV))(n:Int)(hn:1≤n∧n≤65536)(h':Hp)(pv:Value)(g:PageV)(hg:PageIn h' pv g)(hl:was.length≤65536)(F:Pr)(w:World)
 (hF:Sat ((VMA v s ab mark was).star ((Pr.own h').star F)) w):
 Calls Tryz.prog 108 #[.pointer (some ⟨v,0,none⟩),.pointer (some ⟨ab,0,none⟩),.int .i64 n,pv] w fun e w'=>
  e= .returned (.tuple #[])∧Stays w w'∧Sat ((VMA v { s with on:=fun m=>if m=n then some g else s.on m } ab mark (was++ [(n,s.on n)])).star F) w':=by
 obtain⟨x,wv,ws,ok,hws,h1⟩:=vma_iff.1 hF;have h2:Sat ((Pr.own x.h).star ((Pr.own h').star (((PoolA x.p s.pool).star ((vaultO v s x).star ((MapV x).star (MRest s.acts.length x ab mark wv ws)))).star F))) w:=h1.perm (by unfold VMAt VaultAt MRest vaultO MapV;ac_rfl);obtain⟨hd,h3⟩:=h2.own_join
 have h4:Sat ((VMAt v s { x with h:=x.h.un h' } ab mark wv ws).star F) w:=h3.perm (by unfold VMAt VaultAt MRest vaultO MapV;dsimp only;ac_rfl);have hO:OnIn (x.h.un h') x.f s.on:=ok.on.sub (Hp.sub_un_left _ _);have hpv:PageIn (x.h.un h') pv g:=hg.sub (Hp.sub_un_right hd);refine(put_at v s { x with h:=x.h.un h' } ab mark wv ws n hn pv g hpv hO (by rw [hws.1];exact hl) F w h4).mono ?_
 rintro e w' ⟨rfl,⟨wv',X,hX,h5⟩,st⟩;exact⟨rfl,st,vma_iff.2 ⟨{ x with f:=fun m=>if m=n then some pv else x.f m,h:=x.h.un h' },wv',ws++ [X],⟨hO.put hpv,ok.acts.sub (Hp.sub_un_left x.h h'),ok.f0,ok.fb⟩,was_snoc (hws.sub (Hp.sub_un_left x.h h')) hX,h5.perm (by unfold VMAt VaultAt;dsimp only)⟩⟩
def mkE:Option Int→Int
 | none=>12
 | some _=>0
def mkS(s:VaultS)(g:PageV):Option Int→VaultS
 | none=>s
 | some n=>s.made n g
def mkW(s:VaultS):Option Int→List (Int × Option PageV)
 | none=> []
 | some n=> [(n,s.on n)]
def mkR(s:VaultS):Option Int→Prop
 | none=> ∀m,s.pool.state m≠1
 | some n=>s.pool.state n=1∧∀m,s.pool.state m=1→n≤m
def mkN:Option Int→Int
 | none=>0
 | some n=>n
theorem mk_mid {s:VaultS}(okp:PoolOk s.pool)(g:PageV){z:Option Int}(hz:mkR s z):Mid s (mkS s g z) (mkW s z):=by
 cases z with
 | none=>exact Mid.refl s
 | some n=>
   have h0:=count_of_free okp hz.1;have ht:=there_of_state (by have:=hz.1;omega:s.pool.state n≠0);have h1:=(Mid.refl s).did (n:=n) (b:=1) ht (by omega) (by omega) (by omega);have h2:=h1.set (n:=n) (some g) ⟨ht.1,by have:=ht.2;have:=okp.n2;omega⟩ (by simp);exact h2
theorem make1_any(v:Nat)(s:VaultS)(ab:Nat)(mark:Int)(VB MB PB:Nat)(m0:Int)(hp:Hp)(vi vd:Value)(g:PageV)(fit:Fit g)(hg:PageIn hp (pageV g.kind g.level vi vd g.next) g)(F:Pr)(w:World)
 (hF:Sat ((VMA v s ab mark []).star ((Pr.pts VB (.cells #[.pointer (some ⟨v,0,none⟩)] 24)).star ((Pr.pts MB (.cells #[.int .i64 m0] 3)).star ((Pr.pts PB (.cells #[.int .i64 g.kind,.int .i64 g.level,vi,vd,.int .i64 g.next] 74)).star ((Pr.own hp).star F))))) w)
 (hm:s.pool.floor+s.pool.acts.length<1099511627776):
 Calls Tryz.prog 106 #[.pointer (some ⟨ab,0,none⟩),.pointer (some ⟨VB,0,none⟩),.pointer (some ⟨MB,0,none⟩),.pointer (some ⟨PB,0,none⟩)] w fun e w'=>
  Stays w w'∧∃z,mkR s z∧e= .returned (.int .i64 (mkE z))∧Sat ((VMA v (mkS s g z) ab mark (mkW s z)).star ((Pr.pts MB (.cells #[.int .i64 (mkN z)] 3)).star ((Pr.own hp).star F))) w':=by
 have hs0:=OwnL.in5 hF;have okp:=vault_ab hF;obtain⟨vi0,vd0,ee,hi0,hb0⟩:=id hg;simp only [pageV,Value.agg.injEq,Array.mk.injEq,List.cons.injEq,and_true,true_and] at ee;obtain⟨rfl,rfl⟩:=ee;obtain⟨ai,ci,rfl,_,_⟩:=items_rd hi0;obtain⟨ad,cd,rfl⟩:=bytes_shape hb0;obtain⟨x,wv,ws,ok,hws,hs1⟩:=vma_open (v:=v) (s:=s) (ab:=ab) (mark:=mark) (was:= []) hs0;have c1:=hs1.facts
 simp only [CellsAt,Nat.reduceAdd,and_true] at c1;have A:=hQ (alloc_A x.p s.pool _ w hs1.pull1 hm);have HB:=hQ (fun n (hn:s.pool.there n)=>(show 1≤n∧n≤65536 from⟨hn.1,by have:=hn.2;have:=okp.n2;omega⟩));have HS0:=hQ hs0;have HG:=hQ hg;have HOK:=hQ (And.intro ok hws);clear hF hs0 hs1 hi0 hb0 hg ok hws okp;go_enter Tryz.func106,Tryz.ntmps106
 go_wp2_with fail
 refine A.out.mono ?_;rintro e w1 (⟨rfl,hno,rfl⟩ | ⟨n,rfl,hn,hle,hs,hst⟩)
 · clear A HB
   go_wp2;go_ret;exact⟨(Stays.refl w).setCell _ _,none,hno,rfl,(show Sat ((VMA v s ab mark []).star ((Pr.pts MB (.cells #[.int .i64 0] 3)).star ((Pr.own hp).star F))) _ from(HS0.out.set MB 0 (.int .i64 0)).end4)⟩
 · have hs2:=vma_close (v:=v) (s:= { s with pool:=s.pool.did n 1 }) (ab:=ab) (mark:=mark) (was:= []) (x:=x) (wv:=wv) (ws:=ws) ⟨HOK.out.1.on,HOK.out.1.acts,HOK.out.1.f0,HOK.out.1.fb⟩ HOK.out.2 (OwnL.of1 hs)
   have hs3:=hs2.set MB 0 (.int .i64 n);clear c1;have c1:=(OwnL.of1 hs).facts;simp only [CellsAt,Nat.reduceAdd,and_true] at c1;have c2:=hs3.facts;simp only [CellsAt,Nat.reduceAdd,and_true] at c2;have C:=hQ (copied_any hp _ g HG.out (by have:=fit.n;omega) (fun y hy=>by have:=fit.k y hy;omega) (by have:=fit.d;omega) _ _ (hs3.drew.pull1 (A1:=Pr.own hp)))
   have HST:=hQ (hst.setCell ⟨MB,0,none⟩ (.int .i64 n)).drew;have HSQ:=hQ (And.intro hn hle);have hnb:=HB.out n (there_of_state (by omega:s.pool.state n≠0));clear hs hs2 hs3 hst A HB HS0 hn hle;go_wp2;refine wS 23 [0,1,2,3] [(4,[],[0,1,2]),(5,[],[])] ?_;refine wpQ_all _ rfl rfl ?_;simp only [pick,pQ];iterate 4 (go_big_quiet_step (fail))
   refine wpQuiet_nil ?_;refine wpRest_act rfl ?_;go_wp2_with fail
   refine C.out.mono ?_;rintro e w3 ⟨pv,h',rfl,hpv,hs4,st4⟩;have hs5:=OwnL.of2 hs4;have P:=hQ (vput_M v { s with pool:=s.pool.did n 1 } ab mark [] n hnb h' pv g hpv (by simp) _ _ (hs5.pull2 (A1:=VMA v { s with pool:=s.pool.did n 1 } ab mark []) (A2:=Pr.own h')));clear c1 c2;have c2:=hs5.facts;simp only [CellsAt,Nat.reduceAdd,and_true] at c2;have HST4:=hQ (HST.out.trans st4);clear hs4 hs5 st4 C hpv
   go_wp2;refine onN_mk ?_;refine wpQ_nil ⟨?_,?_⟩
   · exact cQ
   refine wpRest_act rfl ?_;go_wp2_with fail
   refine P.out.mono ?_;rintro e w4 ⟨rfl,st5,hs6⟩;rw [List.nil_append] at hs6;have HS6:=hQ (OwnL.of1 hs6);have c3:=HS6.out.facts;simp only [CellsAt,Nat.reduceAdd,and_true] at c3;clear hs6 P c2;go_wp2;refine onN_mk (wpQ_nil ⟨chk_nil,wpRest_nil ?_⟩);go_wp2;go_ret
   exact⟨HST4.out.trans st5,some n,HSQ.out,rfl,(show Sat ((VMA v { s with pool:=s.pool.did n 1,on:=fun m=>if m=n then some g else s.on m } ab mark [(n,s.on n)]).star ((Pr.pts MB (.cells #[.int .i64 n] 3)).star ((Pr.own hp).star F))) _ from HS6.out.end4)⟩
theorem vmake_any(v:Nat)(s:VaultS)(hp:Hp)(pv:Value)(g:PageV)(hg:PageIn hp pv g)(hu:∀x∈g.items,U8 x.key)(hm:s.pool.floor+s.pool.acts.length<1099511627776)(hvm:s.floor+s.acts.length<1099511627776)(F:Pr)(w:World)
 (hF:Sat ((VaultA v s).star ((Pr.own hp).star F)) w):
 Calls Tryz.prog 70 #[.pointer (some ⟨v,0,none⟩),pv] w fun e w'=>
  Stays w w'∧((checkP g≠0∧e= .returned (.tuple #[.int .i64 0,.int .i64 (checkP g)])∧Sat ((VaultA v s).star ((Pr.own hp).star F)) w')∨
   (checkP g=0∧∃z,mkR s z∧e= .returned (.tuple #[.int .i64 (mkN z),.int .i64 (mkE z)])∧Sat ((if mkE z=0 then VaultA v ((mkS s g z).acted ⟨s.pool.mark,mkW s z⟩) else VaultA v s).star ((Pr.own hp).star F)) w')):=by
 have hs0:=OwnL.in2 hF;have okp:=(vault_ok hF).1;obtain⟨vi,vd,rfl,hi0,hb0⟩:=id hg;obtain⟨ai,ci,rfl,_,_⟩:=items_rd hi0;obtain⟨ad,cd,rfl⟩:=bytes_shape hb0;have hs1:=(hs0.alloc (.cells #[.pointer (some ⟨v,0,none⟩)] 24)).alloc (.cells #[.int .i64 g.kind,.int .i64 g.level,.slice ai g.items.length ci,.slice ad g.data.length cd,.int .i64 g.next] 74)
 have es:(w.alloc (.cells #[.pointer (some ⟨v,0,none⟩)] 24)).heap.size=w.heap.size+1:=by simp
 rw [es] at hs1;have C:=hQ (check_any g hp _ hg hu _ _ (hs1.pull1 (A1:=Pr.own hp)));have HST:=hQ (((Stays.refl w).alloc (.cells #[.pointer (some ⟨v,0,none⟩)] 24)).alloc (.cells #[.int .i64 g.kind,.int .i64 g.level,.slice ai g.items.length ci,.slice ad g.data.length cd,.int .i64 g.next] 74));have c1:=hs1.facts;simp only [CellsAt,Nat.reduceAdd,and_true] at c1;have HG:=hQ hg
 have FIT:=hQ (fun h=>fit_of_check (g:=g) h);have MID:=hQ (fun z (hz:mkR s z)=>mk_mid okp g hz);generalize hE:checkP g=E at*;have HE:=hQ hE;clear hF hs0 hs1 hi0 hb0 hg es okp hE hu;go_enter Tryz.func70,Tryz.ntmps70
 go_wp2_with fail
 refine C.out.mono ?_;rintro e w1 ⟨rfl,hs2,st2⟩;have hs3:=OwnL.of1 hs2;have HST2:=hQ (HST.out.trans st2);by_cases h0:E=0
 · subst h0
   have hs4:=hs3.alloc (.cells #[.int .i64 0] 3)
   have D:=hQ (do_any v s 106 #[.pointer (some ⟨w.heap.size,0,none⟩),.pointer (some ⟨w1.heap.size,0,none⟩),.pointer (some ⟨w.heap.size+1,0,none⟩)] mkE (mkR s) (mkS s g) (mkW s)
    (fun z=>(Pr.pts w1.heap.size (.cells #[.int .i64 (mkN z)] 3)).star ((Pr.own hp).star F)) _ _ (hs4.end6 (A1:=VaultA v s) (A2:=Pr.pts w.heap.size (.cells #[.pointer (some ⟨v,0,none⟩)] 24)) (A3:=Pr.pts w1.heap.size (.cells #[.int .i64 0] 3)) (A4:=Pr.pts (w.heap.size+1) (.cells #[.int .i64 g.kind,.int .i64 g.level,.slice ai g.items.length ci,.slice ad g.data.length cd,.int .i64 g.next] 74)) (A5:=Pr.own hp) (A6:=F)) hvm (fun _ _=>rfl) MID.out (fun ab wx hwx=>
      make1_any v s ab s.pool.mark w.heap.size w1.heap.size (w.heap.size+1) 0 hp _ _ g (FIT.out rfl) HG.out F wx hwx hm))
   clear c1;have c1:=hs4.facts;simp only [CellsAt,Nat.reduceAdd,and_true] at c1;have HST3:=hQ (HST2.out.alloc (.cells #[.int .i64 0] 3));clear hs2 hs3 hs4 st2 C MID FIT HG;go_wp2_with fail
   refine D.out.mono ?_;rintro e w2 ⟨st3,z,hz,rfl,hs5⟩;have hs6:=OwnL.in3 hs5;have HS6:=hQ hs6;have HZ:=hQ hz;clear c1;have c1:=hs6.facts;simp only [CellsAt,and_true] at c1;clear hs5 hs6 hz D;generalize hEz:mkE z=Ez at*;have HEZ:=hQ hEz;clear hEz;go_wp2;go_ret2;exact⟨HST3.out.trans st3,z,HZ.out,by rw [HEZ.out];rfl,by rw [HEZ.out];exact HS6.out.end3⟩
 · have HS3:=hQ hs3
   clear hs2 hs3 st2 C;go_wp2;go_ret2;exact⟨HST2.out,.inl ⟨h0,rfl,HS3.out.end3⟩⟩
end Go.Proofs.YtkfjilnmnbeokaaGreat.J7
namespace Go.Cop
open Go.Proofs.YtkfjilnmnbeokaaGreat.Q3 Go.Proofs.YtkfjilnmnbeokaaGreat.D6
def incsP(s:PoolS):List Int→Int × PoolS
 | []=>(0,s)
 | k :: r=>if incE s k=0 then incsP (s.did k 1) r else(incE s k,s)
theorem incsP_one {s:PoolS}{k:Int}{r:List Int}:incsP s (k :: r)=if incE s k=0 then incsP (s.did k 1) r else(incE s k,s):=rfl
theorem incsP_app:∀ {a b:List Int} {s t:PoolS},incsP s a=(0,t)→incsP s (a++b)=incsP t b
 | [],b,s,t,h=>by cases h;rfl
 | k :: a,b,s,t,h=>by
   rw [List.cons_append,incsP_one];rw [incsP_one] at h;by_cases h0:incE s k=0
   · rw [if_pos h0] at h ⊢
     exact incsP_app h
   · rw [if_neg h0] at h
     exact absurd (congrArg Prod.fst h) h0
def CR(s:PoolS):Prop:= ∀n,s.count n≤s.refs
theorem CR.did {s:PoolS}(h:CR s){n:Int}(h0:incE s n=0):CR (s.did n 1)∧s.there n:=by
 have hne:s.count n≠0:=fun e=>by unfold incE at h0;rw [if_pos e] at h0;cases h0
 have hne2:s.count n≠s.refs:=fun e=>by unfold incE at h0;rw [if_neg hne,if_pos e] at h0;cases h0
 have ht:=there_of_count hne;refine⟨fun m=> ?_,ht⟩;have:=did_count (s:=s) (n:=n) (b:=1) (m:=m) ht
 rw [this];have h1:=h n;have h2:=h m;show (if m=n then _ else _)≤s.refs
 split<;>omega
theorem CR.dec {s:PoolS}(h:CR s){n:Int}(ht:s.there n):CR (s.did n (-1)):=fun m=>by
 have:=did_count (s:=s) (n:=n) (b:= -1) (m:=m) ht
 rw [this];have h1:=h n;have h2:=h m;show (if m=n then _ else _)≤s.refs
 split<;>omega
def leaveR(s:VaultS)(n:Int):Int × VaultS × List (Int × Option PageV):=
 if s.pool.count n=1 then(0,{ s with pool:=s.pool.did n (-1),on:=fun m=>if m=n∧(s.pool.did n (-1)).state n=1 then none else s.on m },if(s.pool.did n (-1)).state n=1 then [(n,s.on n)] else [])
 else((incsP (s.pool.did n (-1)) (kidsOf ((s.on n).getD ⟨0,0,[],[],0⟩))).1,{ s with pool:=(incsP (s.pool.did n (-1)) (kidsOf ((s.on n).getD ⟨0,0,[],[],0⟩))).2 },[])
end Go.Cop
namespace Go.Proofs.YtkfjilnmnbeokaaGreat.M7
open ChangeShapes WideShapes ChangeAt RowKit Sl Cop D2 D3 J3 V3 G2 J2 X3 Y3 E4 G4 L4 M4 Z3 D6 L5 C6 B7 C7 Q3 N4 J7
theorem leave_any(v:Nat)(s:VaultS)(ab:Nat)(mark:Int)(was:List (Int × Option PageV))(n:Int)(h0:s.pool.count n≠0)(hcr:CR s.pool)(hfit:((s.on n).getD ⟨0,0,[],[],0⟩).items.length≤65535)(hl:was.length≤65536)
 (hm:s.pool.floor+s.pool.acts.length+65540<1099511627776) (F:Pr) (w:World) (hF:Sat ((VMA v s ab mark was).star F) w):
 Calls Tryz.prog 151 #[.pointer (some ⟨v,0,none⟩),.pointer (some ⟨ab,0,none⟩),.int .i64 n] w fun e w'=>
  Stays w w'∧e= .returned (.int .i64 (leaveR s n).1)∧Sat ((VMA v (leaveR s n).2.1 ab mark (was++(leaveR s n).2.2)).star F) w':=by
 have okp:=vma_pool hF;have hs0:=OwnL.in1 hF;obtain⟨x,wv,ws,ok,hws,hs1⟩:=vma_open (v:=v) (s:=s) (ab:=ab) (mark:=mark) (was:=was) hs0;have c1:=hs1.facts;simp only [CellsAt,Nat.reduceAdd,and_true] at c1;have HD:=hQ (dec_A x.p s.pool n _ w hs1.pull1 (by omega));have hth:=there_of_count h0;have hnb:1≤n∧n≤65536:=⟨hth.1,by have:=hth.2;have:=okp.n2;omega⟩;have HOK:=hQ (And.intro ok hws);have HH0:=hQ h0
 have HCR:=hQ (hcr.dec hth);by_cases h1:s.pool.count n=1
 · have e1:leaveR s n=(0,{ s with pool:=s.pool.did n (-1),on:=fun m=>if m=n∧(s.pool.did n (-1)).state n=1 then none else s.on m },if(s.pool.did n (-1)).state n=1 then [(n,s.on n)] else []):=by unfold leaveR;rw [if_pos h1]
   obtain⟨R,hR⟩:∃R,R=leaveR s n:=⟨_,rfl⟩;rw [← hR];have HR:=hQ (hR.trans e1);rw [h1] at HD;have HL:=hQ hl;clear hF hs0 hs1 ok hws h0 hcr hfit hth okp e1 hl hm hR;go_enter Tryz.func151,Tryz.ntmps151
   go_wp2_with fail
   refine HD.out.mono ?_;rintro e w1 (⟨_,he,_⟩ | ⟨rfl,_,hs2,st1⟩)
   · cases he
   · have hs3:=vma_close (v:=v) (s:= { s with pool:=s.pool.did n (-1) }) (ab:=ab) (mark:=mark) (was:=was) (x:=x) (wv:=wv) (ws:=ws) ⟨HOK.out.1.on,HOK.out.1.acts,HOK.out.1.f0,HOK.out.1.fb⟩ HOK.out.2 (OwnL.of1 hs2)
     have FR:=hQ (free_any v { s with pool:=s.pool.did n (-1) } ab mark was n hnb HL.out _ w1 hs3.pull1);clear hs2 hs3 HD c1;go_wp2_with fail
     refine FR.out.mono ?_;rintro e w2 ⟨rfl,hs4,st2⟩;have HS4:=hQ (OwnL.of1 hs4);clear hs4 FR;go_wp2;go_ret;refine⟨st1.trans st2,by rw [HR.out];rfl,?_⟩;rw [HR.out];have h5:=HS4.out.end2 (A1:=VMA v { s with pool:=s.pool.did n (-1),on:=fun m=>if m=n∧(s.pool.did n (-1)).state n=1 then none else s.on m } ab mark (if(s.pool.did n (-1)).state n=1 then was++ [(n,s.on n)] else was)) (A2:=F)
     have e2:(if(s.pool.did n (-1)).state n=1 then was++ [(n,s.on n)] else was)=was++(if(s.pool.did n (-1)).state n=1 then [(n,s.on n)] else []):=by split<;>simp
     rw [e2] at h5;exact h5
 · obtain⟨g,hg⟩:∃g,(s.on n).getD ⟨0,0,[],[],0⟩=g:=⟨_,rfl⟩
   have e1:leaveR s n=((incsP (s.pool.did n (-1)) (kidsOf g)).1,{ s with pool:=(incsP (s.pool.did n (-1)) (kidsOf g)).2 },[]):=by unfold leaveR;rw [if_neg h1,hg]
   obtain⟨R,hR⟩:∃R,R=leaveR s n:=⟨_,rfl⟩;rw [← hR];have HR:=hQ (hR.trans e1);have hpg:=look_page ok.on n;rw [hg] at hpg hfit;obtain⟨vi,vd,epv,hi,hdd⟩:=id hpg;obtain⟨ai,ci,evi,_,_⟩:=items_rd hi;obtain⟨ad,cd,evd⟩:=bytes_shape hdd;rw [epv,evi,evd] at hpg
   have HFN:=hQ (show (x.f n).getD zeroPage=pageV g.kind g.level (.slice ai g.items.length ci) (.slice ad g.data.length cd) g.next from by rw [epv,evi,evd]);have hkl0:(kidsOf g).length≤65536:=by have:=kidsOf_len g;omega
   have HPG:=hQ hpg;have hgt:1<s.pool.count n:=by have:=(count_bd okp n).1;omega
   have hne0:(s.pool.count n-1 == 0)=false:=by rw [beq_eq_false_iff_ne];omega
   have HGL:=hQ hfit;have HM:=hQ hm;clear hF hs0 hs1 ok hws h0 hcr hfit hth okp e1 hl hm hg hR hpg hi hdd epv evi evd;go_enter Tryz.func151,Tryz.ntmps151
   go_wp2_with fail
   refine HD.out.mono ?_;rintro e w1 (⟨_,he,_⟩ | ⟨rfl,_,hs2,st1⟩)
   · exact absurd he HH0.out
   · have hs3:=OwnL.of1 hs2
     clear c1;have c1:=hs3.facts;simp only [CellsAt,Nat.reduceAdd,and_true] at c1;have HK:=hQ (kids_any x.h _ g HPG.out (by have:=HGL.out;omega) _ w1 (hs3.pull1 (A1:=Pr.own x.h)));have HMAP:=hQ (hs3.pull1 (A1:=MapV x));clear hs2 hs3 HD
     go_wp2_with (first | (at_lookup;refine wpList_look rfl _ _ _ false rfl Tryz.underlying3 Tryz.underlying67 zeroPage (zero_page _) n hnb rfl rfl HMAP.out ?_;rw [HFN.out]))
     refine HK.out.mono ?_;rintro e w2 ⟨kv,rfl,hs4,st2⟩;obtain⟨kl,hkl⟩:∃kl,kidsOf g=kl:=⟨_,rfl⟩;rw [hkl] at hs4 hkl0;have HKL:=hQ hkl;obtain⟨ak,ck,rfl⟩:=Row.shape hs4;have hs5:=vma_close (v:=v) (s:= { s with pool:=s.pool.did n (-1) }) (ab:=ab) (mark:=mark) (was:=was) (x:=x) (wv:=wv) (ws:=ws) ⟨HOK.out.1.on,HOK.out.1.acts,HOK.out.1.f0,HOK.out.1.fb⟩ HOK.out.2 (OwnL.of2 hs4);have HS5:=hQ hs5
     have HST2:=hQ (st1.trans st2);have hkb:(kl.length:Int)≤65536:=by omega
     have hpm:(s.pool.did n (-1)).floor+(s.pool.did n (-1)).acts.length=s.pool.floor+s.pool.acts.length+1:=by
      show s.pool.floor+((s.pool.acts++ [(n,(-1:Int))]).length:Nat)=_
      rw [List.length_append];simp only [List.length_singleton];omega
     have HPM:=hQ hpm;clear hs4 hs5 st1 st2 HK HMAP hkl hpm c1;go_wp2
     go_loopw [40] (fun i wr=> ∃(k:Nat) (t:PoolS),k≤kl.length∧i= .int .i64 k∧Stays w wr∧Hid (incsP (s.pool.did n (-1)) (kl.take k)=(0,t))∧Hid (CR t)∧Hid (t.floor+t.acts.length=s.pool.floor+s.pool.acts.length+1+k)∧
      OwnL [VMA v { s with pool:=t } ab mark was,IntsRow (.slice ak kl.length ck) kl,F] wr) (fun i _=>kl.length-(intOf i).toNat)
     case atStart=>exact⟨0,s.pool.did n (-1),Nat.zero_le _,rfl,HST2.out,hQ rfl,HCR,hQ (by rw [HPM.out];simp),HS5.out.to⟩
     case round=>
      obtain⟨k,t,hk,rfl,hst,hin,hcr,hpm,hs⟩:=hrel;clear HS5 HST2;rcases Nat.lt_or_ge k kl.length with hlt | hge
      · obtain⟨bk,u,rfl,hu,kc,_,kz⟩:=Row.at1 (hs.row (.slice ak kl.length ck)) k hlt
        rw [List.getElem?_map,List.getElem?_eq_getElem hlt] at hu;simp only [Option.map_some,Option.some.injEq] at hu;subst hu;obtain⟨x,wv,ws,ok,hws,hs1⟩:=vma_open (v:=v) (s:= { s with pool:=t }) (ab:=ab) (mark:=mark) (was:=was) hs;have c1:=hs1.facts;simp only [CellsAt,Nat.reduceAdd,and_true] at c1
        have IN:=hQ (inc_A x.p t kl[k] _ wr (hs1.pull1 (A1:=PoolA x.p t)) (by have:=hpm.out;have:=HM.out;omega) (hcr.out _));have HTK:=hQ (show kl.take (k+1)=kl.take k++ [kl[k]] from List.take_succ_eq_append_getElem hlt)
        have HDK:=hQ (show kl=kl.take k++kl[k] :: kl.drop (k+1) from by
         rw [← List.drop_eq_getElem_cons hlt,List.take_append_drop])
        have HOK2:=hQ (And.intro ok hws);have HST3:=hQ hst;clear hs hs1 ok hws hst;generalize kl[k]=kn at*;go_wp2_with fail
        refine IN.out.mono ?_;rintro e w3 ⟨rfl,st3,hrel⟩;by_cases hi0:incE t kn=0
        · rcases hrel with⟨hne,_⟩ | ⟨_,hs2⟩
          · exact absurd hi0 hne
          · have hs3:=vma_close (v:=v) (s:= { s with pool:=t.did kn 1 }) (ab:=ab) (mark:=mark) (was:=was) (x:=x) (wv:=wv) (ws:=ws) ⟨HOK2.out.1.on,HOK2.out.1.acts,HOK2.out.1.f0,HOK2.out.1.fb⟩ HOK2.out.2 (OwnL.of1 hs2)
            have HS3:=hQ hs3;have HI0:=hQ hi0;rw [hi0];clear hs2 hs3 IN c1 hi0;go_wp2;go_roundw
            case rel=>
             refine⟨k+1,t.did kn 1,by omega,congrArg (Value.int .i64) (by omega),HST3.out.trans st3,hQ ?_,hQ (hcr.out.did HI0.out).1,hQ ?_,HS3.out.to⟩
             · rw [HTK.out,incsP_app hin.out,incsP_one,if_pos HI0.out]
               rfl
             · show t.floor+((t.acts++ [(kn,(1:Int))]).length:Nat)=_
               rw [List.length_append];have:=hpm.out
               simp only [List.length_singleton];omega
            case measure=>simp [intOf];omega
        · rcases hrel with⟨_,hs2⟩ | ⟨h0,_⟩
          · have hs3:=vma_close (v:=v) (s:= { s with pool:=t }) (ab:=ab) (mark:=mark) (was:=was) (x:=x) (wv:=wv) (ws:=ws) HOK2.out.1 HOK2.out.2 (OwnL.of1 hs2)
            have HS3:=hQ hs3;have HI0:=hQ hi0;have hib:(incE t kn != 0)=true:=by rw [bne_iff_ne];exact hi0
            clear hs2 hs3 IN c1 hi0;generalize hEE:incE t kn=EE at*;have HEE:=hQ hEE;clear hEE;go_wp2;go_ret
            have e3:incsP (s.pool.did n (-1)) (kidsOf g)=(EE,t):=by
             rw [HKL.out,HDK.out,incsP_app hin.out,incsP_one,HEE.out,if_neg HI0.out]
            refine⟨HST3.out.trans st3,by rw [HR.out,e3];rfl,?_⟩;rw [HR.out,e3,List.append_nil];exact HS3.out.end2
          · exact absurd h0 hi0
      · have hkk:k=kl.length:=by omega
        subst hkk;have HS:=hQ hs;clear hs;go_wp2;go_ret;have hin2:=hin.out;rw [List.take_length] at hin2;refine⟨hst,by rw [HR.out,HKL.out,hin2];rfl,?_⟩;rw [HR.out,HKL.out,hin2,List.append_nil];exact HS.out.end2
end Go.Proofs.YtkfjilnmnbeokaaGreat.M7
