/- The law's right; the conditions stand as hypotheses. -/
import Derived.Test.YtpfafhklppondaaGreatVaultCountsM45
import Derived.Test.YtpfafhklppondaaGreatVaultCountsM22
import Derived.Lib.SmallJoins
import Derived.Test.YtpfafhklppondaaGreatVaultCountsM01
set_option maxRecDepth 100000
set_option maxHeartbeats 16000000
namespace Go.Proofs.YtpfafhklppondaaGreat.Cx
open ChangeShapes WideShapes ChangeAt RowKit Sl Cop M2 P3 X3 G4 Q2 X2 J4 L4 P4 Q6 X6 G5 F7 Sy K4 E5 Bz Vy Wy Zy Yy F6 Z6 Sz Yz B7
theorem mk_ints(n:Nat)(hn:n≤65600):∀wx:World,(Instr.makeSlice 29 (.int .i64 ((n:Int)+1)) (.int .i64 ((n:Int)+1))).run Tryz.prog wx= .ok (.slice (some ⟨wx.heap.size,0,none⟩) (n+1) (n+1)) (wx.alloc (.cells (madeCells #[.int .i64 0] (n+1)) 3)):=fun wx=>by
 have:=run_make_row' (P:=Tryz.prog) 29 3 (.int .i64 0) 8 Tryz.underlying29 infoInt rfl .i64 .i64 (n+1) (by omega) (by omega) wx
 simpa using this
theorem inL_made {N:Nat}{F:Pr}{w:World}(hn:N≤65600)(h:Sat F w):Sat ((IntsRow (.slice (some ⟨w.heap.size,0,none⟩) (N+1) (N+1)) (inL N fun _=>0)).star F) (w.alloc (.cells (madeCells #[.int .i64 0] (N+1)) 3)):=by
 have h1:=row_made 3 (.int .i64 0) (N+1) (by simp only [maxLen];omega) h;rw [← inL_zero];show Sat ((Row 3 1 (.slice (some ⟨w.heap.size,0,none⟩) (N+1) (N+1)) (List.replicate (N+1) (0:Int)).length ((List.replicate (N+1) (0:Int)).map (Value.int .i64))).star F) _
 rw [List.length_replicate,List.map_replicate];exact h1
theorem in_at {b c N:Nat}{f:Int→Int}{F:Pr}{w:World}{j:Nat}(h:Sat ((IntsRow (.slice (some ⟨b,0,none⟩) (N+1) c) (inL N f)).star F) w)(hj:j≤N):w.cell? ⟨b,j,none⟩=some (.int .i64 (f j))∧w.frozen? ⟨b,j,none⟩=false:=by
 rw [← inL_len N f] at h;have h1:=ints_cell h (j:=j) (by rw [inL_len];omega);rw [inL_get] at h1;exact h1
theorem in_set {b c N:Nat}{f:Int→Int}{F:Pr}{w:World}{j:Nat}(h:Sat ((IntsRow (.slice (some ⟨b,0,none⟩) (N+1) c) (inL N f)).star F) w)(hj:j≤N):Sat ((IntsRow (.slice (some ⟨b,0,none⟩) (N+1) c) (inL N fun i=>f i+if i=j then 1 else 0)).star F) (w.setCell ⟨b,j,none⟩ (.int .i64 (f j+1))):=by
 rw [← inL_set, ← inL_len N f];rw [← inL_len N f] at h;have h1:=irow_set h (j:=j) (by rw [inL_len];omega) (f j+1);rw [inL_len] at h1 ⊢;exact h1
theorem right_any(x v k:Nat)(rv lv:Value)(s:VaultS)(roots:List Int)(ls:List NumV)(ok:PlOK s roots ls k)(F:Pr)(w:World)(hF:OwnL (plL x v rv lv s roots ls [F]) w):
 Calls Tryz.prog 9 #[.pointer (some ⟨x,0,none⟩)] w fun e w'=>e= .returned (.bool true)∧Stays w w'∧OwnL (plL x v rv lv s roots ls [F]) w':=by
 obtain⟨ar,cr,rfl⟩:=Row.shape (hF.pull1 (A1:=IntsRow rv roots));have okp:=(vault_ok (hF.pull1 (A1:=VaultA v s))).1;have hrl:roots.length≤120:=by have:=ok.rl;omega
 obtain⟨N,hN⟩:∃N:Nat,s.pool.counts.length=N:=⟨_,rfl⟩;have hN2:N≤200:=by rw [← hN];exact ok.inv.n2
 have hmk:=mk_ints N (by omega);obtain⟨xx,okx,hs1⟩:=vault_open (v:=v) (s:=s) hF;have c1:=hs1.facts;simp only [CellsAt,Nat.reduceAdd,and_true] at c1;have LN:=hQ (len_A xx.p s.pool _ _ (hs1.pull1 (A1:=PoolA xx.p s.pool)));rw [hN] at LN;have hs2:=OwnL.of1 (inL_made (N:=N) (by omega) hF.sat);have HS2:=hQ hs2;have HST:=hQ ((Stays.refl w).alloc (.cells (madeCells #[.int .i64 0] (N+1)) 3))
 have HOK:=hQ (And.intro ok (And.intro okp hN));have HLS:=hQ okx
 have HRT:=hQ (show ∀r∈roots,1≤r∧r≤(N:Int) from fun r hr=>by
  have:=ok.inv.xr r (by have:=List.count_pos_iff.2 hr;omega)
  rw [← hN]
  exact this)
 clear hF ok okp hs1 hs2 okx hN;go_enter Tryz.func9,Tryz.ntmps9
 go_wp2_with fail
 refine LN.out.mono ?_;rintro e w1 ⟨rfl,rfl⟩;clear LN;go_wp2;generalize w.alloc (.cells (madeCells #[.int .i64 0] (N+1)) 3)=w0 at*;generalize w.heap.size=BI at*;clear hmk c1;have hs3:=HS2.out.to (M:= [IntsRow (.slice (some ⟨BI,0,none⟩) (N+1) (N+1)) (inL N fun _=>0),VaultA v s,Pr.pts x (placesC v (.slice ar roots.length cr) lv),IntsRow (.slice ar roots.length cr) roots,NumsRow lv ls,F])
 clear HS2 HLS;obtain⟨xx,okx,hs4⟩:=vault_open (v:=v) (s:=s) hs3;have HTL:=hQ (fun q:Nat=>tallySum_bd HOK.out.2.1 q);have TA:=fun q:Nat=>hQ (tally_all xx.p s.pool ((q:Int)+1) _ _ (hs4.pull1 (A1:=PoolA xx.p s.pool)))
 have LN:=hQ (len_A xx.p s.pool _ _ (hs4.pull1 (A1:=PoolA xx.p s.pool)));rw [HOK.out.2.2] at LN;have HS3:=hQ hs3;have c1:=hs4.facts;simp only [CellsAt,Nat.reduceAdd,and_true] at c1;clear hs3 hs4 okx;go_loopw [4,5] (fun t i wr=> ∃q:Nat,q≤4∧t= .int .i64 (tallySum s.pool q)∧i= .int .i64 ((q:Int)+1)∧wr=w0) (fun _ i _=>5-(intOf i).toNat)
 case atStart=>exact⟨0,Nat.zero_le _,rfl,rfl,rfl⟩
 case round=>
  obtain⟨q,hq,rfl,rfl,rfl⟩:=hrel;rcases Nat.lt_or_ge q 4 with hlt | hge
  · have T1:=TA q
    have hb:=HTL.out q;have hb2:=HTL.out (q+1);rw [HOK.out.2.2] at hb hb2;have hsum:tallySum s.pool (q+1)=tallySum s.pool q+s.pool.tally ((q:Int)+1):=rfl;have HSUM:=hQ hsum;have hm1:(q:Int)*(N:Int)≤4*200:=Int.mul_le_mul (by omega) (by omega) (by omega) (by omega);have hm2:((q+1:Nat):Int)*(N:Int)≤4*200:=Int.mul_le_mul (by omega) (by omega) (by omega) (by omega);rw [hsum] at hb2;clear TA HTL LN hsum
    generalize tallySum s.pool q=tq at*;generalize s.pool.tally ((q:Int)+1)=t1 at*;have hb3:0≤tq∧tq≤800∧ -800≤t1∧t1≤800:=by omega
    clear hb hb2 hm1 hm2;go_wp2_with fail
    refine T1.out.mono ?_;rintro e w1 ⟨rfl,rfl⟩;go_wp2;go_roundw
    case rel=>exact⟨q+1,by omega,congrArg (Value.int .i64) HSUM.out.symm,congrArg (Value.int .i64) (by omega),trivial⟩
    case measure=>simp [intOf];omega
  · have hq4:q=4:=by omega
    subst hq4;have h4:tallySum s.pool 4=(N:Int):=by rw [tallySum_four HOK.out.2.1,HOK.out.2.2]
    rw [h4];clear TA HTL h4;go_wp2_with fail
    refine LN.out.mono ?_;rintro e w1 ⟨rfl,rfl⟩;clear LN;go_wp2;clear c1
    go_loopw [6] (fun i wr=> ∃q:Nat,q≤roots.length∧i= .int .i64 q∧Stays w wr∧OwnL [IntsRow (.slice (some ⟨BI,0,none⟩) (N+1) (N+1)) (inL N (fun n=>(((roots.take q).count n:Nat):Int))),VaultA v s,Pr.pts x (placesC v (.slice ar roots.length cr) lv),IntsRow (.slice ar roots.length cr) roots,NumsRow lv ls,F] wr) (fun i _=>roots.length-(intOf i).toNat)
    case atStart=>exact⟨0,Nat.zero_le _,rfl,HST.out,HS3.out⟩
    case round=>
     obtain⟨q,hq,rfl,hst,hs⟩:=hrel;clear HS3 HST;have HST:=hQ hst;have HS:=hQ hs;have c1:=hs.facts;simp only [CellsAt,Nat.reduceAdd,and_true] at c1;rcases Nat.lt_or_ge q roots.length with hlt | hge
     · obtain⟨br,rfl,k1,_⟩:=irow_at (hs.pull1 (A1:=IntsRow (.slice ar roots.length cr) roots)) hlt
       have z1:=World.block_lt_of_cell? _ _ k1;obtain⟨hr1,hr2⟩:=HRT.out roots[q] (List.getElem_mem hlt);have htk:=List.take_succ_eq_append_getElem hlt;obtain⟨r,hr⟩:∃r:Nat,roots[q]=(r:Int):=⟨roots[q].toNat,by omega⟩;rw [hr] at k1 hr1 hr2 htk;obtain⟨k2,kf2⟩:=in_at (hs.pull1 (A1:=IntsRow (.slice (some ⟨BI,0,none⟩) (N+1) (N+1)) (inL N fun n=>(((roots.take q).count n:Nat):Int)))) (j:=r) (by omega)
       have z2:=World.block_lt_of_cell? _ _ k2;have hrN:r≤N:=by omega
       have hcb:(((roots.take q).count (r:Int):Nat):Int)≤120:=by
        have h1:=List.count_le_length (a:=(r:Int)) (l:=roots.take q);rw [List.length_take] at h1;omega
       have hcb0:0≤(((roots.take q).count (r:Int):Nat):Int):=by omega
       have HSET:=hQ (OwnL.of1 (in_set (hs.pull1 (A1:=IntsRow (.slice (some ⟨BI,0,none⟩) (N+1) (N+1)) (inL N fun n=>(((roots.take q).count n:Nat):Int)))) (j:=r) (by omega)));have HTK:=hQ htk;clear hs hst hr htk;generalize (((roots.take q).count (r:Int):Nat):Int)=cq at*;go_wp2;go_roundw
       case rel=>
        refine⟨q+1,by omega,congrArg (Value.int .i64) (by omega),HST.out.setCell _ _,?_⟩
        have e1:(inL N fun n=>(((roots.take (q+1)).count n:Nat):Int))=inL N fun i=>(((roots.take q).count i:Nat):Int)+if i=(r:Int) then 1 else 0:=by
         refine inL_ext fun n _ _=> ?_
         rw [HTK.out,List.count_append,count_one];split<;>simp
        rw [e1];exact HSET.out.to
       case measure=>simp [intOf];omega
     · have hqe:q=roots.length:=by omega
       subst hqe;rw [List.take_length] at HS;clear hs hst hq hge HRT;go_wp2;clear c1
       go_loopw [7,8] (fun t i wr=> ∃q:Nat,q≤N∧t= .int .i64 q∧i= .int .i64 ((q:Int)+1)∧Stays w wr∧OwnL [IntsRow (.slice (some ⟨BI,0,none⟩) (N+1) (N+1)) (inL N (fun n=>((roots.count n:Nat):Int)+((inSum s.get s.pool.counts n q:Nat):Int))),VaultA v s,Pr.pts x (placesC v (.slice ar roots.length cr) lv),IntsRow (.slice ar roots.length cr) roots,NumsRow lv ls,F] wr) (fun _ i _=>N+1-(intOf i).toNat)
       case atStart=>exact⟨0,Nat.zero_le _,rfl,rfl,HST.out,by
        have e1:(inL N fun n=>((roots.count n:Nat):Int)+((inSum s.get s.pool.counts n 0:Nat):Int))=inL N fun n=>((roots.count n:Nat):Int):=inL_ext fun n _ _=>by show _+((0:Nat):Int)=_;omega
        rw [e1]
        exact HS.out⟩
       case round=>
        obtain⟨q,hq,rfl,rfl,hst,hs⟩:=hrel;clear HS HST;rcases Nat.lt_or_ge q N with hlt | hge
        · have HST:=hQ hst
          have c1:=hs.facts;simp only [CellsAt,Nat.reduceAdd,and_true] at c1;obtain⟨xx0,_,hs0⟩:=vault_open (v:=v) (s:=s) hs;have c0:=hs0.facts;simp only [CellsAt,Nat.reduceAdd,and_true] at c0;have RD:=hQ (pl_read v s _ ls k HOK.out.1.inv ((q:Int)+1) _ wr (hs.pull1 (A1:=VaultA v s)))
          have HKB:=hQ (show (kidsOf (if s.pool.count ((q:Int)+1)=0 then zeroP else s.get ((q:Int)+1))).length≤2∧∀z∈kidsOf (if s.pool.count ((q:Int)+1)=0 then zeroP else s.get ((q:Int)+1)),1≤z∧z≤(N:Int) from by
           by_cases hc:s.pool.count ((q:Int)+1)=0
           · rw [if_pos hc,kids_zero];exact⟨by simp,fun z hz=>by cases hz⟩
           · rw [if_neg hc]
             have hsh:=HOK.out.1.inv.sh _ hc
             rw [HOK.out.2.2] at hsh
             exact⟨hsh.two,hsh.kids⟩)
          have HKP:=hQ (fun m:Int=>kids_part (s:=s) ((q:Int)+1) m)
          have HFT:=hQ (show (if s.pool.count ((q:Int)+1)=0 then zeroP else s.get ((q:Int)+1)).items.length≤65536 from by
           by_cases hc:s.pool.count ((q:Int)+1)=0
           · rw [if_pos hc];exact Nat.zero_le _
           · rw [if_neg hc]
             exact Nat.le_trans (HOK.out.1.inv.fit _ _ (HOK.out.1.inv.on HOK.out.2.1 hc)).n (by omega))
          obtain⟨cn,hcn⟩:∃cn,s.pool.count ((q:Int)+1)=cn:=⟨_,rfl⟩;have hcp:0≤cn:=by rw [← hcn];exact count_pos HOK.out.2.1 _
          rw [hcn] at RD HKB HKP HFT
          have her:((if cn=0 then(15:Int) else 0) == 0)=decide (0<cn):=by
           by_cases hc:cn=0
           · subst hc;rfl
           · rw [if_neg hc]
             have:0<cn:=by omega
             simp [this]
          have HCN:=hQ hcn;clear hs hs0 hst hcn;generalize (if cn=0 then(15:Int) else 0)=er at*;generalize (if cn=0 then zeroP else s.get ((q:Int)+1))=g at*;go_wp2_with fail
          refine RD.out.mono ?_;rintro e w1 ⟨st1,pv,hp,rfl,hpg,hs1⟩;obtain⟨tai,tad,tci,tcd,rfl⟩:=page_shape hpg;dsimp only [pageV];have hs2:=(OwnL.of2 hs1).alloc (pageC g.kind g.level (.slice tai g.items.length tci) (.slice tad g.data.length tcd) g.next);have HST1:=hQ ((HST.out.trans st1).alloc (pageC g.kind g.level (.slice tai g.items.length tci) (.slice tad g.data.length tcd) g.next))
          have KD:=hQ (rkids_any hp _ g hpg HFT.out _ _ (hs2.pull1 (A1:=Pr.own hp)));obtain⟨xx,okx,hs3⟩:=vault_open (v:=v) (s:=s) hs2;have CA:=hQ (count_A xx.p s.pool ((q:Int)+1) _ _ (hs3.pull1 (A1:=PoolA xx.p s.pool)));rw [HCN.out] at CA;have c2:=(OwnL.of2 hs1).facts;simp only [CellsAt,Nat.reduceAdd,and_true] at c2;clear c1 c0;have c1:=hs3.facts;simp only [CellsAt,Nat.reduceAdd,and_true] at c1
          clear hs1 hs2 hs3 okx RD hpg st1 HST;go_wp2_with fail
          refine CA.out.mono ?_;rintro e w2 ⟨rfl,rfl⟩;go_wp2_with fail
          refine KD.out.mono ?_;rintro e w3 ⟨kv,rfl,hs5,st3⟩;obtain⟨ak,ck,rfl⟩:=Row.shape hs5;have hs6:=OwnL.of2 hs5;have HS6:=hQ hs6;have HST6:=hQ (HST1.out.trans st3);clear c1 c2 hs5 hs6 st3 KD CA HST1 her;generalize kidsOf g=kl at*;go_wp2
          go_loopw [12] (fun i wz=> ∃r:Nat,r≤kl.length∧i= .int .i64 r∧Stays w wz∧OwnL [IntsRow (.slice (some ⟨BI,0,none⟩) (N+1) (N+1)) (inL N (fun n=>((roots.count n:Nat):Int)+((inSum s.get s.pool.counts n q:Nat):Int)+(((kl.take r).count n:Nat):Int))),IntsRow (.slice ak kl.length ck) kl,VaultA v s,Pr.pts x (placesC v (.slice ar roots.length cr) lv),IntsRow (.slice ar roots.length cr) roots,NumsRow lv ls,F] wz) (fun i _=>kl.length-(intOf i).toNat)
          case atStart=>exact⟨0,Nat.zero_le _,rfl,HST6.out,by
           have h9:=HS6.out.to (M:= [IntsRow (.slice (some ⟨BI,0,none⟩) (N+1) (N+1)) (inL N (fun n=>((roots.count n:Nat):Int)+((inSum s.get s.pool.counts n q:Nat):Int))),IntsRow (.slice ak kl.length ck) kl,VaultA v s,Pr.pts x (placesC v (.slice ar roots.length cr) lv),IntsRow (.slice ar roots.length cr) roots,NumsRow lv ls,F])
           have e1:(inL N fun n=>((roots.count n:Nat):Int)+((inSum s.get s.pool.counts n q:Nat):Int)+(((kl.take 0).count n:Nat):Int))=inL N fun n=>((roots.count n:Nat):Int)+((inSum s.get s.pool.counts n q:Nat):Int):=inL_ext fun n _ _=>by simp
           rw [e1]
           exact h9⟩
          case round=>
           obtain⟨r,hr,rfl,hst,hs⟩:=hrel;clear HS6 HST6;have HST:=hQ hst;have HS:=hQ hs;have c1:=hs.facts;simp only [CellsAt,Nat.reduceAdd,and_true] at c1;rcases Nat.lt_or_ge r kl.length with hlr | hgr
           · obtain⟨bk,rfl,k1,_⟩:=irow_at (hs.pull1 (A1:=IntsRow (.slice ak kl.length ck) kl)) hlr
             have z1:=World.block_lt_of_cell? _ _ k1;obtain⟨hr1,hr2⟩:=HKB.out.2 kl[r] (List.getElem_mem hlr);have htk:=List.take_succ_eq_append_getElem hlr;obtain⟨z,hz⟩:∃z:Nat,kl[r]=(z:Int):=⟨kl[r].toNat,by omega⟩;rw [hz] at k1 hr1 hr2 htk
             obtain⟨k2,kf2⟩:=in_at (hs.pull1 (A1:=IntsRow (.slice (some ⟨BI,0,none⟩) (N+1) (N+1)) (inL N (fun n=>((roots.count n:Nat):Int)+((inSum s.get s.pool.counts n q:Nat):Int)+(((kl.take r).count n:Nat):Int))))) (j:=z) (by omega);have z2:=World.block_lt_of_cell? _ _ k2;have hzN:z≤N:=by omega
             have hcb:0≤((roots.count (z:Int):Nat):Int)+((inSum s.get s.pool.counts (z:Int) q:Nat):Int)+(((kl.take r).count (z:Int):Nat):Int)∧((roots.count (z:Int):Nat):Int)+((inSum s.get s.pool.counts (z:Int) q:Nat):Int)+(((kl.take r).count (z:Int):Nat):Int)≤1000:=by
              have h1:=List.count_le_length (a:=(z:Int)) (l:=kl.take r);rw [List.length_take] at h1;have h2:=HKB.out.1;have h3:=inSum_le HOK.out.1.inv.sh (z:Int) q;have h4:=List.count_le_length (a:=(z:Int)) (l:=roots);omega
             have HSET:=hQ (OwnL.of1 (in_set (hs.pull1 (A1:=IntsRow (.slice (some ⟨BI,0,none⟩) (N+1) (N+1)) (inL N (fun n=>((roots.count n:Nat):Int)+((inSum s.get s.pool.counts n q:Nat):Int)+(((kl.take r).count n:Nat):Int))))) (j:=z) (by omega)));have HTK:=hQ htk;have hkl2:(kl.length:Int)≤2:=by have:=HKB.out.1;omega
             clear hs hst hz htk;generalize ((roots.count (z:Int):Nat):Int)+((inSum s.get s.pool.counts (z:Int) q:Nat):Int)+(((kl.take r).count (z:Int):Nat):Int)=cq at*;go_wp2;go_roundw
             case rel=>
              refine⟨r+1,by omega,congrArg (Value.int .i64) (by omega),HST.out.setCell _ _,?_⟩
              have e1:(inL N fun n=>((roots.count n:Nat):Int)+((inSum s.get s.pool.counts n q:Nat):Int)+(((kl.take (r+1)).count n:Nat):Int))=inL N fun i=>((roots.count i:Nat):Int)+((inSum s.get s.pool.counts i q:Nat):Int)+(((kl.take r).count i:Nat):Int)+if i=(z:Int) then 1 else 0:=by
               refine inL_ext fun n _ _=> ?_
               rw [HTK.out,List.count_append,count_one];split<;>simp
               omega
              rw [e1];exact HSET.out.to
             case measure=>simp [intOf];omega
           · have hre:r=kl.length:=by omega
             subst hre;have hkl2:(kl.length:Int)≤2:=by have:=HKB.out.1;omega
             clear hs hst hr hgr;go_wp2;go_roundw
             case rel=>
              refine⟨q+1,by omega,congrArg (Value.int .i64) (by omega),congrArg (Value.int .i64) (by omega),HST.out,?_⟩
              have e1:(inL N fun n=>((roots.count n:Nat):Int)+((inSum s.get s.pool.counts n (q+1):Nat):Int))=inL N fun n=>((roots.count n:Nat):Int)+((inSum s.get s.pool.counts n q:Nat):Int)+(((kl.take kl.length).count n:Nat):Int):=by
               refine inL_ext fun n _ _=> ?_
               rw [List.take_length,HKP.out n];show _+((inSum s.get s.pool.counts n q+partD s.get s.pool.counts n ((q:Int)+1):Nat):Int)=_
               omega
              rw [e1];exact HS.out.to
             case measure=>simp [intOf];omega
        · have hqe:q=N:=by omega
          subst hqe;have HST:=hQ hst;have HS:=hQ hs;have c1:=hs.facts;simp only [CellsAt,Nat.reduceAdd,and_true] at c1;clear hs hst hq hge;go_wp2;clear c1
          go_loopw [13] (fun i wr=> ∃m:Nat,m≤q∧i= .int .i64 ((m:Int)+1)∧Stays w wr∧OwnL [IntsRow (.slice (some ⟨BI,0,none⟩) (q+1) (q+1)) (inL q (fun n=>((roots.count n:Nat):Int)+((inSum s.get s.pool.counts n q:Nat):Int))),VaultA v s,Pr.pts x (placesC v (.slice ar roots.length cr) lv),IntsRow (.slice ar roots.length cr) roots,NumsRow lv ls,F] wr) (fun i _=>q+1-(intOf i).toNat)
          case atStart=>exact⟨0,Nat.zero_le _,rfl,HST.out,HS.out⟩
          case round=>
           obtain⟨m,hm,rfl,hst,hs⟩:=hrel;clear HS HST;have HST:=hQ hst;have HS:=hQ hs;rcases Nat.lt_or_ge m q with hlt | hge
           · obtain⟨k2,_⟩:=in_at (hs.pull1 (A1:=IntsRow (.slice (some ⟨BI,0,none⟩) (q+1) (q+1)) (inL q fun n=>((roots.count n:Nat):Int)+((inSum s.get s.pool.counts n q:Nat):Int)))) (j:=m+1) (by omega)
             have z2:=World.block_lt_of_cell? _ _ k2;have hdg:=HOK.out.1.inv.deg ((m:Int)+1) (by omega) (by rw [HOK.out.2.2];omega);unfold indeg at hdg;rw [HOK.out.2.2] at hdg;rw [show ((m+1:Nat):Int)=(m:Int)+1 by omega, ← hdg] at k2;obtain⟨xx,okx,hs3⟩:=vault_open (v:=v) (s:=s) hs;have CA:=hQ (count_A xx.p s.pool ((m:Int)+1) _ _ (hs3.drew.pull1 (A1:=PoolA xx.p s.pool)));have c1:=hs3.facts
             simp only [CellsAt,Nat.reduceAdd,and_true] at c1;clear hs hst hs3 okx hdg;generalize s.pool.count ((m:Int)+1)=cm at*;have hmi:((m:Int)+1).toNat=m+1:=by omega
             go_wp2_with fail
             refine wS 185 [0,1,2,3,4,5,6,7,8,9,10,11] [(12,[13],[0,1,2,3,4,5,6,7,8,9])] ?_;refine wpQ_all _ rfl rfl ?_;simp only [pick,pQ];iterate 12 (go_big_quiet_step (fail))
             refine wpQuiet_nil ?_;refine wpRest_act rfl ?_;go_wp2_with fail
             refine CA.out.mono ?_;rintro e w3 ⟨rfl,rfl⟩;go_wp2;refine onN_mk ?_;refine wpQ_all _ rfl rfl ?_;simp only [pick,pQ];iterate 1 (go_big_quiet_step (fail))
             refine wpQuiet_nil ⟨?_,?_⟩
             · exact cQ
             refine wpRest_nil ?_;go_wp2;go_roundw
             case rel=>exact⟨m+1,by omega,congrArg (Value.int .i64) (by omega),HST.out.drew,HS.out.drew⟩
             case measure=>simp [intOf];omega
           · have hme:m=q:=by omega
             subst hme;have hs4:=hs.to (M:= [VaultA v s,Pr.pts x (placesC v (.slice ar roots.length cr) lv),IntsRow (.slice ar roots.length cr) roots,NumsRow lv ls,F]);have SD:=hQ (stands_any x v k (.slice ar roots.length cr) lv s roots ls HOK.out.1 F _ hs4);clear hs hst hs4 hm hge;go_wp2_with fail
             refine SD.out.mono ?_;rintro e w4 ⟨rfl,st4,hs5⟩;have HS5:=hQ hs5;have HST5:=hQ (HST.out.trans st4);obtain⟨xx,okx,hs6⟩:=vault_open (v:=v) (s:=s) hs5;have LN:=hQ (len_A xx.p s.pool _ _ (hs6.pull1 (A1:=PoolA xx.p s.pool)));rw [HOK.out.2.2] at LN;have c1:=hs6.facts;simp only [CellsAt,Nat.reduceAdd,and_true] at c1;clear hs5 hs6 okx st4 SD HS HST;go_wp2_with fail
             refine LN.out.mono ?_;rintro e w5 ⟨rfl,rfl⟩;go_wp2;go_ret;exact⟨rfl,HST5.out,HS5.out⟩
end Go.Proofs.YtpfafhklppondaaGreat.Cx
