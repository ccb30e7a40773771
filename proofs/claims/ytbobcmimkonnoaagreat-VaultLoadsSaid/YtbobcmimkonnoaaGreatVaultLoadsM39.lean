/- Plain laws: both vaults with all that can be undone, alike state by state. No program in sight. -/
import Derived.Test.YtbobcmimkonnoaaGreatVaultLoadsM38
import Derived.Test.YtbobcmimkonnoaaGreatVaultLoadsM36
import Derived.Test.YtbobcmimkonnoaaGreatVaultLoadsM32
import Derived.Test.YtbobcmimkonnoaaGreatVaultLoadsM27
import Derived.Test.YtbobcmimkonnoaaGreatVaultLoadsM37
import Derived.Test.YtbobcmimkonnoaaGreatVaultLoadsM34
import Derived.Test.YtbobcmimkonnoaaGreatVaultLoadsM20
import Derived.Test.YtbobcmimkonnoaaGreatVaultLoadsM28
set_option maxRecDepth 100000
set_option maxHeartbeats 16000000
namespace Go.Cop
open Go.Proofs.YtbobcmimkonnoaaGreat.U3 Go.Proofs.YtbobcmimkonnoaaGreat.D4 Go.Proofs.YtbobcmimkonnoaaGreat.Q7 Go.Proofs.YtbobcmimkonnoaaGreat.B9 Go.Proofs.YtbobcmimkonnoaaGreat.Z7 Go.Proofs.YtbobcmimkonnoaaGreat.Y3 Go.Proofs.YtbobcmimkonnoaaGreat.F9 Go.Proofs.YtbobcmimkonnoaaGreat.Q6
structure BothH(s:VaultS)(rs:PoolS)(gs:List PageV)(k:Nat):Prop where
 tw:Twin s rs gs
 pb:s.pool.floor+s.pool.acts.length+sumC s.pool.counts+32*k+131072<1099511627776
 vb:s.floor+s.acts.length+32*k<1099511627776
theorem BothH.mono {s:VaultS}{rs:PoolS}{gs:List PageV}{k:Nat}(h:BothH s rs gs (k+1)):BothH s rs gs k:=
 ⟨h.tw,by have:=h.pb;omega,by have:=h.vb;omega⟩
theorem BothH.le {s:VaultS}{rs:PoolS}{gs:List PageV}{k m:Nat}(h:BothH s rs gs k)(hm:m≤k):BothH s rs gs m:=
 ⟨h.tw,by have:=h.pb;omega,by have:=h.vb;omega⟩
def HistB(rs:PoolS)(k:Nat):List VaultS→List (List Int × List PageV)→Prop
 | [],l=>l= []
 | s :: H,l=> ∃a r,l=a :: r∧BothH s (rs.withC a.1) a.2 k∧HistB rs k H r
theorem HistB.le {rs:PoolS}{k m:Nat}(hm:m≤k):∀ {H:List VaultS} {l:List (List Int × List PageV)},HistB rs k H l→HistB rs m H l
 | [],_,h=>h
 | _ :: _,_,⟨a,r,e,h1,h2⟩=>⟨a,r,e,h1.le hm,HistB.le hm h2⟩
theorem HistB.withC {rs:PoolS}{k:Nat}(cs:List Int):∀ {H:List VaultS} {l:List (List Int × List PageV)},HistB rs k H l→HistB (rs.withC cs) k H l
 | [],_,h=>h
 | _ :: _,_,⟨a,r,e,h1,h2⟩=>⟨a,r,e,h1,HistB.withC cs h2⟩
theorem HistB.len {rs:PoolS}{k:Nat}:∀ {H:List VaultS} {l:List (List Int × List PageV)},HistB rs k H l→l.length=H.length
 | [],_,h=>by rw [show _= [] from h];rfl
 | _ :: _,_,⟨a,r,e,_,h2⟩=>by rw [e,List.length_cons,List.length_cons,HistB.len h2]
theorem HistB.drop {rs:PoolS}{k:Nat}{s1:VaultS}{r1:List VaultS}:∀ {H:List VaultS} {l:List (List Int × List PageV)} (j:Nat),HistB rs k H l→H.drop j=s1 :: r1→
 ∃a r,l.drop j=a :: r∧BothH s1 (rs.withC a.1) a.2 k∧HistB rs k r1 r
 | [],_,j,_,e=>by rw [List.drop_nil] at e;cases e
 | s :: H,_,0,⟨a,r,e,h1,h2⟩,e2=>by
   rw [List.drop_zero] at e2;cases e2;exact⟨a,r,e,h1,h2⟩
 | s :: H,_,j+1,⟨a,r,e,h1,h2⟩,e2=>by
   rw [e,List.drop_succ_cons];exact HistB.drop j h2 (by rwa [List.drop_succ_cons] at e2)
structure Join(s:VaultS)(H:List VaultS)(rs:PoolS)(gs:List PageV)(fl:Int)(l:List (List Int × List PageV))(k:Nat):Prop where
 now:BothH s rs gs k
 hv:HistV H s
 hb:HistB rs k H l.reverse
 fe:fl=s.floor
theorem Join.len {s:VaultS}{H:List VaultS}{rs:PoolS}{gs:List PageV}{fl:Int}{l:List (List Int × List PageV)}{k:Nat}(h:Join s H rs gs fl l k):l.length=H.length∧s.acts.length=l.length:=by
 have h1:=h.hb.len;have h2:=h.hv.len;rw [List.length_reverse] at h1;exact⟨h1,by omega⟩
theorem Join.le {s:VaultS}{H:List VaultS}{rs:PoolS}{gs:List PageV}{fl:Int}{l:List (List Int × List PageV)}{k m:Nat}(h:Join s H rs gs fl l k)(hm:m≤k):Join s H rs gs fl l m:=
 ⟨h.now.le hm,h.hv,h.hb.le hm,h.fe⟩
theorem Join.act {s t:VaultS}{W:List (Int × Option PageV)}{H:List VaultS}{rs:PoolS}{gs gs':List PageV}{cs:List Int}{fl:Int}{l:List (List Int × List PageV)}{k:Nat}(h:Join s H rs gs fl l (k+1))(m:Mid s t W)
 (b:BothH (t.acted ⟨s.pool.mark,W⟩) (rs.withC cs) gs' k):Join (t.acted ⟨s.pool.mark,W⟩) (s :: H) (rs.withC cs) gs' fl (l++ [(rs.counts,gs)]) k:=
 ⟨b,⟨⟨t,W,rfl,m⟩,h.hv⟩,by
   rw [List.reverse_append]
   exact⟨(rs.counts,gs),l.reverse,rfl,h.now.mono,(h.hb.le (Nat.le_succ k)).withC cs⟩,h.fe.trans m.vf.symm⟩
theorem Join.undo {s s1:VaultS}{H r1:List VaultS}{rs:PoolS}{gs:List PageV}{fl:Int}{l:List (List Int × List PageV)}{k j:Nat}(h:Join s H rs gs fl l k)(hj:j<H.length)(hd:(s :: H).drop (j+1)=s1 :: r1)(hh:HistV r1 s1):
 ∃a,l[l.length-1-j]? =some a∧Join s1 r1 (rs.withC a.1) a.2 fl (l.take (l.length-1-j)) k:=by
 rw [List.drop_succ_cons] at hd;obtain⟨a,r,e,h1,h2⟩:=h.hb.drop j hd;have hl:=h.len.1;have hm:s1∈H:=List.mem_of_mem_drop (i:=j) (by rw [hd];simp)
 have e2:l.reverse[j]? =some a:=by
  have:=congrArg (fun x=>x[0]?) e
  simpa using this
 refine⟨a,?_,h1,hh,?_,by rw [h.fe];exact(h.hv.fl hm).symm⟩
 · rw [List.getElem?_reverse (by omega)] at e2
   exact e2
 · have e3:r=l.reverse.drop (j+1):=by
    have:=congrArg (fun x=>x.drop 1) e
    simp only [List.drop_drop,List.drop_succ_cons,List.drop_zero] at this;exact this.symm
   rw [List.reverse_take,show l.length-(l.length-1-j)=j+1 by omega, ← e3];exact h2.withC a.1
theorem BothH.settle {s:VaultS}{rs:PoolS}{gs:List PageV}{k:Nat}(h:BothH s rs gs (k+1))(ok:PoolOk s.pool):BothH s.settled { rs with last:=lastsOf rs.counts } (gsK rs gs rs.counts.length) k:=by
 refine⟨h.tw.settle ok,?_,?_⟩
 · have h3:=h.pb
   show s.pool.floor+s.pool.acts.length+((([]:List (Int × Int)).length:Nat):Int)+sumC s.pool.counts+32*k+131072< _
   simp only [List.length_nil];omega
 · have h3:=h.vb
   show s.floor+s.acts.length+((([]:List ActV).length:Nat):Int)+32*k< _
   simp only [List.length_nil];omega
theorem Join.settle {s:VaultS}{H:List VaultS}{rs:PoolS}{gs:List PageV}{fl:Int}{l:List (List Int × List PageV)}{k:Nat}(h:Join s H rs gs fl l (k+1))(ok:PoolOk s.pool):
 Join s.settled [] { rs with last:=lastsOf rs.counts } (gsK rs gs rs.counts.length) (fl+l.length) [] k:=
 ⟨h.now.settle ok,rfl,rfl,by
   show _=s.floor+s.acts.length
   rw [h.fe,h.len.2]⟩
theorem BothH.make {s:VaultS}{rs:PoolS}{gs:List PageV}{k j:Nat}(h:BothH s rs gs (k+1))(ok:PoolOk s.pool)(hm:s.pool.state ((j:Int)+1)=1){g:PageV}(hg:Fit g)(a:ActV):
 BothH ((s.made ((j:Int)+1) g).acted a) (rs.withC (rs.counts.set j 1)) (gs.set j g) k:=by
 have h1:=h.tw.make ok hm hg;rw [show ((j:Int)+1).toNat-1=j by omega] at h1;have ht:=there_of_state (by omega:s.pool.state ((j:Int)+1)≠0);have h0:=count_of_free ok hm;refine⟨h1.move rfl rfl rfl rfl,?_,?_⟩
 · have h2:=sum_addC (cs:=s.pool.counts) (n:=(j:Int)+1) (b:=1) ht (by rw [← count_cnt];omega) (by rw [← count_cnt];omega)
   have h3:=h.pb;show s.pool.floor+((s.pool.acts++ [((j:Int)+1,(1:Int))]).length:Nat)+(sumC (s.pool.did ((j:Int)+1) 1).counts:Nat)+32*k+131072< _
   rw [did_counts,List.length_append];simp only [List.length_singleton];omega
 · have h4:=h.vb
   show s.floor+((s.acts++ [a]).length:Nat)+32*k< _
   rw [List.length_append];simp only [List.length_singleton];omega
theorem own_state {p:PoolS}{n:Int}(h:ownP p n=true):p.state n=3∧p.count n=1:=by
 unfold ownP at h;simpa using h
theorem BothH.write {s:VaultS}{rs:PoolS}{gs:List PageV}{k j:Nat}(h:BothH s rs gs (k+1))(ho:ownP s.pool ((j:Int)+1)=true){g:PageV}(hg:Fit g)(a:ActV):
 BothH ((wrS s ((j:Int)+1) g).acted a) rs (gs.set j g) k:=by
 obtain⟨h3,_⟩:=own_state ho;have ht:=there_of_state (by omega:s.pool.state ((j:Int)+1)≠0);refine⟨⟨h.tw.cs,h.tw.ls,h.tw.rf,by rw [List.length_set];exact h.tw.gl,fun m hm=> ?_,fun m hm hth=> ?_,fun m g2 hm=> ?_,h.tw.cr⟩,by have:=h.pb;show s.pool.floor+s.pool.acts.length+sumC s.pool.counts+32*k+131072< _;omega,?_⟩
 · have hm2:s.pool.state m=1:=hm
   show (if m=(j:Int)+1 then some g else s.on m)=none
   rw [if_neg (fun e=>by rw [e,h3] at hm2;omega)];exact h.tw.bare m hm2
 · show (if m=(j:Int)+1 then some g else s.on m)=_
   have e:=pgAt_set (gs:=gs) (n:=(j:Int)+1) (m:=m) ⟨ht.1,by rw [h.tw.gl];exact ht.2⟩ ⟨hth.1,by rw [h.tw.gl];exact hth.2⟩ g;rw [show ((j:Int)+1).toNat-1=j by omega] at e;rw [e];split
   · rfl
   · exact h.tw.pg m hm hth
 · have hm2:(if m=(j:Int)+1 then some g else s.on m)=some g2:=hm
   split at hm2
   · cases hm2;exact hg
   · exact h.tw.fit m g2 hm2
 · have h4:=h.vb
   show s.floor+((s.acts++ [a]).length:Nat)+32*k< _
   rw [List.length_append];simp only [List.length_singleton];omega
theorem BothH.keep {s:VaultS}{rs:PoolS}{gs:List PageV}{k:Nat}(h:BothH s rs gs (k+1))(ok:PoolOk s.pool){n:Int}(he:incE s.pool n=0)(a:ActV):BothH ({ s with pool:=s.pool.did n 1 }.acted a) (rs.withC (addC rs.counts n 1)) gs k:=by
 have h0:s.pool.count n≠0:=fun e=>by unfold incE at he;rw [if_pos e] at he;cases he
 have ht:=there_of_count h0;have hb:=(count_bd ok n).1;refine⟨h.tw.keep ok he a,?_,?_⟩
 · have h2:=sum_addC (cs:=s.pool.counts) (n:=n) (b:=1) ht (by rw [← count_cnt];exact hb) (by rw [← count_cnt];omega)
   have h3:=h.pb;show s.pool.floor+((s.pool.acts++ [(n,(1:Int))]).length:Nat)+(sumC (s.pool.did n 1).counts:Nat)+32*k+131072< _
   rw [did_counts,List.length_append];simp only [List.length_singleton];omega
 · have h4:=h.vb
   show s.floor+((s.acts++ [a]).length:Nat)+32*k< _
   rw [List.length_append];simp only [List.length_singleton];omega
theorem BothH.drop {s t:VaultS}{rs:PoolS}{gs:List PageV}{k:Nat}(h:BothH s rs gs (k+1))(ok:PoolOk s.pool){l:List Int}{e:Int}{W:List (Int × Option PageV)}(hd:DInv s t W)(hf:Far s t)(h1:DropR s.get l s.pool.counts e t.pool.counts)(a:ActV):BothH (t.acted a) (rs.withC t.pool.counts) gs k:=by
 refine⟨h.tw.drop ok hd h1 a,?_,?_⟩
 · have h2:=hf.acts
   have h3:=h.pb;show t.pool.floor+t.pool.acts.length+sumC t.pool.counts+32*k+131072< _
   omega
 · have h2:=hd.mid.vf
   have h3:=hd.mid.va;have h4:=h.vb;show t.floor+((t.acts++ [a]).length:Nat)+32*k< _
   rw [List.length_append,h2,h3];simp only [List.length_singleton];omega
theorem Twin.dec {s:VaultS}{rs:PoolS}{gs:List PageV}(h:Twin s rs gs)(ok:PoolOk s.pool){n:Int}(h0:s.pool.count n≠0):
 Twin { s with pool:=s.pool.did n (-1),on:=fun m=>if m=n∧(s.pool.did n (-1)).state n=1 then none else s.on m } (rs.withC (addC rs.counts n (-1))) gs:=by
 have ht:=there_of_count h0;have hst:∀m,m≠n→(s.pool.did n (-1)).state m=s.pool.state m:=fun m hm=>by rw [did_state ht,if_neg hm]
 have hn:=state_of_count ok h0;refine⟨?_,h.ls,h.rf,?_,fun m hm=> ?_,fun m hm hth=> ?_,fun m g hm=> ?_,fun c hc=> ?_⟩
 · show addC rs.counts n (-1)=(s.pool.did n (-1)).counts
   rw [did_counts,h.cs]
 · show _=(s.pool.did n (-1)).counts.length
   rw [did_counts,addC_len];exact h.gl
 · have hm2:(s.pool.did n (-1)).state m=1:=hm
   show (if m=n∧(s.pool.did n (-1)).state n=1 then none else s.on m)=none
   by_cases e:m=n
   · rw [if_pos ⟨e,by have h5:=hm2;rw [e] at h5;exact h5⟩]
   · rw [if_neg (fun x=>e x.1)]
     exact h.bare m (by rw [← hst m e];exact hm2)
 · have hm2:(s.pool.did n (-1)).state m≠1:=hm
   show (if m=n∧(s.pool.did n (-1)).state n=1 then none else s.on m)=_
   rw [if_neg (fun x=>hm2 (by rw [x.1];exact x.2))];refine h.pg m ?_ (did_there.1 hth);by_cases e:m=n
   · rw [e];exact hn
   · rw [← hst m e];exact hm2
 · have hm2:(if m=n∧(s.pool.did n (-1)).state n=1 then none else s.on m)=some g:=hm
   split at hm2
   · cases hm2
   · exact h.fit m g hm2
 · have hc2:c∈s.pool.counts.set (n.toNat-1) (s.pool.count n+ -1):=hc
   have h1:=(count_bd ok n).1;have h2:=h.crn ok n;rcases List.mem_or_eq_of_mem_set hc2 with hc | rfl
   · exact h.cr c hc
   · exact⟨by omega,by show _≤s.pool.refs;omega⟩
theorem Twin.incs {gs:List PageV}:∀(ks:List Int) {s:VaultS} {rs:PoolS},Twin s rs gs→PoolOk s.pool→s.pool.floor+s.pool.acts.length+ks.length<1099511627776→
 (incsP s.pool ks).1=(incsR rs ks).1∧((incsP s.pool ks).1=0→Twin { s with pool:=(incsP s.pool ks).2 } (incsR rs ks).2 gs∧(incsP s.pool ks).2.floor=s.pool.floor∧
   (incsP s.pool ks).2.acts.length=s.pool.acts.length+ks.length∧(sumC (incsP s.pool ks).2.counts:Int)=sumC s.pool.counts+ks.length)
 | [],s,rs,h,ok,hb=>⟨rfl,fun _=>⟨h,rfl,by simp [incsP],by simp [incsP]⟩⟩
 | k :: ks,s,rs,h,ok,hb=>by
   rw [incsP_one,incsR_one, ← incE_incL h];by_cases he:incE s.pool k=0
   · have e2:IncP rs k=rs.withC (addC rs.counts k 1):=by unfold IncP;rw [← incE_incL h,if_pos he]
     rw [if_pos he,if_pos he,e2];have h0:s.pool.count k≠0:=fun e=>by unfold incE at he;rw [if_pos e] at he;cases he
     have h1:s.pool.count k≠s.pool.refs:=fun e=>by unfold incE at he;rw [if_neg h0,if_pos e] at he;cases he
     have h2:=h.crn ok k;have hb1:=(count_bd ok k).1;have hr2:=ok.r2;have ht:=there_of_count h0;simp only [List.length_cons] at hb;have ok2:PoolOk (s.pool.did k 1):=did_ok ok (by omega) (by omega) (by omega);have h3:Twin { s with pool:=s.pool.did k 1 } (rs.withC (addC rs.counts k 1)) gs:=(h.keep ok he ⟨0,[]⟩).move rfl rfl rfl rfl
     have h4:(s.pool.did k 1).acts.length=s.pool.acts.length+1:=by
      show (s.pool.acts++ [(k,(1:Int))]).length=_
      rw [List.length_append];rfl
     have h5:=sum_addC (cs:=s.pool.counts) (n:=k) (b:=1) ht (by rw [← count_cnt];exact hb1) (by rw [← count_cnt];omega);rw [← did_counts] at h5;obtain⟨i1,i2⟩:=Twin.incs ks (s:= { s with pool:=s.pool.did k 1 }) h3 ok2 (by show s.pool.floor+((s.pool.did k 1).acts.length:Nat)+ _< _;rw [h4];omega);refine⟨i1,fun e=> ?_⟩;obtain⟨j1,j2,j3,j4⟩:=i2 e;refine⟨j1,j2,?_,?_⟩
     · rw [j3]
       show (s.pool.did k 1).acts.length+ _=_
       rw [h4,List.length_cons];omega
     · rw [j4]
       show (sumC (s.pool.did k 1).counts:Int)+ _=_
       rw [h5,List.length_cons];omega
   · rw [if_neg he,if_neg he]
     exact⟨rfl,fun e=>absurd e he⟩
theorem leaveR_far(s:VaultS)(n:Int):(leaveR s n).2.1.acts=s.acts∧(leaveR s n).2.1.floor=s.floor:=by
 unfold leaveR;split<;>exact⟨rfl,rfl⟩
theorem Twin.leave {s:VaultS}{rs:PoolS}{gs:List PageV}(h:Twin s rs gs)(ok:PoolOk s.pool){n:Int}(h0:s.pool.count n≠0)(hm:s.pool.floor+s.pool.acts.length+65540<1099511627776):
 (leaveR s n).1=(leaveRR rs (pgAt gs n) n).1∧((leaveR s n).1=0→Twin (leaveR s n).2.1 (leaveRR rs (pgAt gs n) n).2 gs∧(leaveR s n).2.1.pool.floor=s.pool.floor∧
   (leaveR s n).2.1.pool.acts.length≤s.pool.acts.length+10∧(sumC (leaveR s n).2.1.pool.counts:Int)≤sumC s.pool.counts+9):=by
 have hc:cntL rs.counts n=s.pool.count n:=by rw [h.cs, ← count_cnt]
 have hon:=h.at' ok h0;have ht:=there_of_count h0;have hb1:=(count_bd ok n);have h5:=sum_addC (cs:=s.pool.counts) (n:=n) (b:= -1) ht (by rw [← count_cnt];exact hb1.1) (by rw [← count_cnt];omega);rw [← did_counts] at h5
 have h4:(s.pool.did n (-1)).acts.length=s.pool.acts.length+1:=by
  show (s.pool.acts++ [(n,(-1:Int))]).length=_
  rw [List.length_append];rfl
 have hd:=h.dec ok h0;unfold leaveR leaveRR;rw [hc,hon];by_cases h1:s.pool.count n=1
 · rw [if_pos h1,if_pos h1]
   refine⟨rfl,fun _=>⟨hd,rfl,?_,?_⟩⟩
   · show (s.pool.did n (-1)).acts.length≤ _
     omega
   · show (sumC (s.pool.did n (-1)).counts:Int)≤ _
     omega
 · rw [if_neg h1,if_neg h1]
   have hst:(s.pool.did n (-1)).state n≠1:=fun e=>by
    rw [did_state ht,if_pos rfl] at e;unfold stateOf at e;rw [if_pos (by omega)] at e;split at e<;>omega
   have h3:Twin { s with pool:=s.pool.did n (-1) } (rs.withC (addC rs.counts n (-1))) gs:=hd.move rfl rfl rfl (funext fun m=>if_neg (fun x=>hst x.2));have hk:=kidsOf_len (pgAt gs n);have hf:=(h.fit n _ hon).n;have ok2:PoolOk (s.pool.did n (-1)):=did_ok ok (by omega) (by omega) (by omega)
   obtain⟨i1,i2⟩:=h3.incs (kidsOf (pgAt gs n)) ok2 (by show s.pool.floor+((s.pool.did n (-1)).acts.length:Nat)+ _< _;rw [h4];omega);refine⟨i1,fun e=> ?_⟩;obtain⟨j1,j2,j3,j4⟩:=i2 e;refine⟨j1,j2,?_,?_⟩
   · show (incsP (s.pool.did n (-1)) (kidsOf (pgAt gs n))).2.acts.length≤ _
     rw [j3];show (s.pool.did n (-1)).acts.length+ _≤ _
     omega
   · show (sumC (incsP (s.pool.did n (-1)) (kidsOf (pgAt gs n))).2.counts:Int)≤ _
     rw [j4];show (sumC (s.pool.did n (-1)).counts:Int)+ _≤ _
     omega
theorem BothH.take {s:VaultS}{rs:PoolS}{gs:List PageV}{k:Nat}(h:BothH s rs gs (k+1))(ok:PoolOk s.pool){n:Int}(h0:s.pool.count n≠0):
 (leaveR s n).1=(leaveRR rs (pgAt gs n) n).1∧((leaveR s n).1=0→∀a,BothH ((leaveR s n).2.1.acted a) (leaveRR rs (pgAt gs n) n).2 gs k):=by
 have hp:=h.pb;have hv:=h.vb;obtain⟨i1,i2⟩:=h.tw.leave ok h0 (by omega);refine⟨i1,fun e a=> ?_⟩;obtain⟨j1,j2,j3,j4⟩:=i2 e;obtain⟨f1,f2⟩:=leaveR_far s n;refine⟨j1.move rfl rfl rfl rfl,?_,?_⟩
 · show (leaveR s n).2.1.pool.floor+(leaveR s n).2.1.pool.acts.length+sumC (leaveR s n).2.1.pool.counts+32*k+131072< _
   omega
 · show (leaveR s n).2.1.floor+(((leaveR s n).2.1.acts++ [a]).length:Nat)+32*k< _
   rw [f1,f2,List.length_append];simp only [List.length_singleton];omega
theorem pgAt_lay2(gs:List PageV)(n:Int)(i:Nat):pgAt (gs.set i (pgAt gs n)) n=pgAt gs n:=by
 unfold pgAt;by_cases h:i=n.toNat-1
 · subst h
   by_cases hl:n.toNat-1<gs.length
   · rw [List.getD_eq_getElem?_getD,List.getElem?_set_self hl];rfl
   · rw [List.set_eq_of_length_le (by omega)]
 · rw [List.getD_eq_getElem?_getD,List.getElem?_set_ne h, ← List.getD_eq_getElem?_getD]
theorem BothH.shadow {s:VaultS}{rs:PoolS}{gs:List PageV}{k j:Nat}(h:BothH s rs gs (k+1))(ok:PoolOk s.pool){n:Int}(h0:s.pool.count n≠0)(hm:s.pool.state ((j:Int)+1)=1):
 (leaveR (s.made ((j:Int)+1) (pgAt gs n)) n).1=(leaveRR (rs.withC (rs.counts.set j 1)) (pgAt gs n) n).1∧
   ((leaveR (s.made ((j:Int)+1) (pgAt gs n)) n).1=0→∀a,BothH ((leaveR (s.made ((j:Int)+1) (pgAt gs n)) n).2.1.acted a) (leaveRR (rs.withC (rs.counts.set j 1)) (pgAt gs n) n).2 (gs.set j (pgAt gs n)) k):=by
 have hp:=h.pb;have hv:=h.vb;have hon:=h.tw.at' ok h0;have hfit:=h.tw.fit n _ hon;obtain⟨_,c2,_⟩:=made_count ok hm h0 (pgAt gs n);have ht:=there_of_state (by omega:s.pool.state ((j:Int)+1)≠0);have hz:=count_of_free ok hm;have t1:=h.tw.make ok hm hfit;rw [show ((j:Int)+1).toNat-1=j by omega] at t1
 have t2:Twin (s.made ((j:Int)+1) (pgAt gs n)) (rs.withC (rs.counts.set j 1)) (gs.set j (pgAt gs n)):=t1.move rfl rfl rfl rfl;have h5:=sum_addC (cs:=s.pool.counts) (n:=(j:Int)+1) (b:=1) ht (by rw [← count_cnt];omega) (by rw [← count_cnt];omega);rw [← did_counts] at h5
 have h4:(s.made ((j:Int)+1) (pgAt gs n)).pool.acts.length=s.pool.acts.length+1:=by
  show (s.pool.acts++ [((j:Int)+1,(1:Int))]).length=_
  rw [List.length_append];rfl
 have h6:(s.made ((j:Int)+1) (pgAt gs n)).pool.floor=s.pool.floor:=rfl;have h7:(sumC (s.made ((j:Int)+1) (pgAt gs n)).pool.counts:Int)=sumC s.pool.counts+1:=h5;have okm:PoolOk (s.made ((j:Int)+1) (pgAt gs n)).pool:=did_ok ok (by omega) (by omega) (by omega);obtain⟨i1,i2⟩:=t2.leave okm (n:=n) (by rw [c2];exact h0) (by omega);rw [pgAt_lay2] at i1 i2;refine⟨i1,fun e a=> ?_⟩;obtain⟨j1,j2,j3,j4⟩:=i2 e
 obtain⟨f1,f2⟩:=leaveR_far (s.made ((j:Int)+1) (pgAt gs n)) n;refine⟨j1.move rfl rfl rfl rfl,?_,?_⟩
 · show (leaveR (s.made ((j:Int)+1) (pgAt gs n)) n).2.1.pool.floor+(leaveR (s.made ((j:Int)+1) (pgAt gs n)) n).2.1.pool.acts.length+sumC (leaveR (s.made ((j:Int)+1) (pgAt gs n)) n).2.1.pool.counts+32*k+131072< _
   omega
 · show (leaveR (s.made ((j:Int)+1) (pgAt gs n)) n).2.1.floor+(((leaveR (s.made ((j:Int)+1) (pgAt gs n)) n).2.1.acts++ [a]).length:Nat)+32*k< _
   rw [f1,f2,List.length_append];simp only [List.length_singleton];show s.floor+((s.acts.length+1:Nat):Int)+ _< _
   omega
end Go.Cop
namespace Go.Cop
open Go.Proofs.YtbobcmimkonnoaaGreat.F6 Go.ChangeShapes Go.Sl Go.Proofs.YtbobcmimkonnoaaGreat.D2 Go.Proofs.YtbobcmimkonnoaaGreat.M3 Go.Proofs.YtbobcmimkonnoaaGreat.E4 Go.Proofs.YtbobcmimkonnoaaGreat.G4 Go.Proofs.YtbobcmimkonnoaaGreat.X4 Go.Proofs.YtbobcmimkonnoaaGreat.U3 Go.Proofs.YtbobcmimkonnoaaGreat.D4 Go.Proofs.YtbobcmimkonnoaaGreat.G7 Go.Proofs.YtbobcmimkonnoaaGreat.Y7 Go.Proofs.YtbobcmimkonnoaaGreat.X8 Go.Proofs.YtbobcmimkonnoaaGreat.Q7 Go.Proofs.YtbobcmimkonnoaaGreat.U7
theorem sumC_leJ {B:Int}:∀ {cs:List Int},(∀c∈cs,0≤c∧c≤B)→(sumC cs:Int)≤cs.length*B
 | [],_=>by simp [sumC]
 | c :: cs,h=>by
   have h1:=sumC_leJ (B:=B) (cs:=cs) fun c hc=>h c (by simp [hc])
   have h2:=h c (by simp);have e:sumC (c :: cs)=c.toNat+sumC cs:=by simp [sumC]
   rw [e,List.length_cons];have e2:((cs.length+1:Nat):Int)*B=cs.length*B+B:=by rw [Int.natCast_add,Int.add_mul];simp
   rw [e2];omega
theorem lasts_ofJ(refs:Int)(cs:List Int)(n:Int)(ht:(poolOf refs cs 0).there n):(poolOf refs cs 0).lasts n=decide (0<(poolOf refs cs 0).count n):=by
 have hi:n.toNat-1<cs.length:=by have h1:=ht.1;have h2:n≤(cs.length:Int):=ht.2;omega
 have e1:(poolOf refs cs 0).count n=cs.getD (n.toNat-1) 0:=by unfold PoolS.count;rw [if_pos ht]
 rw [e1];show (lastsOf cs).getD (n.toNat-1) false=_
 unfold lastsOf;rw [List.getD_eq_getElem?_getD,List.getD_eq_getElem?_getD,List.getElem?_map,List.getElem?_eq_getElem hi];rfl
theorem lasts_zeroJ(n:Nat):lastsOf (List.replicate n 0)=List.replicate n false:=by
 unfold lastsOf;simp
theorem bothH_load {refs:Int}{cs:List Int}{on:Int→Option PageV}(h:Right cs on)(hc:∀c∈cs,0≤c∧c≤refs)(ok:PoolOk (poolOf refs cs 0))(k:Nat)(hk:k≤1000000):BothH (loadV refs cs on) (poolOf refs cs 0) (pgsOf cs.length on) k:=by
 have hr:refs<65536:=ok.r2;have hn:cs.length≤65536:=ok.n2;have hr1:(2:Int)≤refs:=ok.r1;refine⟨⟨rfl,rfl,rfl,by simp [pgsOf],fun n hn=> ?_,fun n h1 h2=> ?_,h.ok.fit,hc⟩,?_,?_⟩
 · have h0:=count_of_free ok hn
   cases e:on n with
   | none=>exact e
   | some g=>exact absurd ((count_poolOf refs cs n).symm.trans h0) (h.ok.there n g e)
 · have ht:(poolOf refs cs 0).there n:=h2
   have h3:(poolOf refs cs 0).count n≠0:=fun e=>h1 (by
    show (poolOf refs cs 0).state n=1
    rw [state_there ht,lasts_ofJ refs cs n ht,e]
    rfl)
   obtain⟨g,hg⟩:=h.full n (fun e=>h3 ((count_poolOf refs cs n).trans e));show on n=_
   rw [hg];have b1:=ht.1;have b2:n≤(cs.length:Int):=ht.2;congr 1
   unfold pgAt pgsOf;rw [List.getD_eq_getElem?_getD,List.getElem?_map,List.getElem?_range (by show n.toNat-1<cs.length;omega)];simp only [Option.map_some,Option.getD_some];rw [show (((n.toNat-1:Nat):Int))+1=n by omega,hg];rfl
 · have h1:=sumC_leJ hc
   show (0:Int)+(([]:List (Int × Int)).length:Nat)+(sumC cs:Nat)+32*(k:Nat)+131072<1099511627776
   have h2:(cs.length:Int)*refs≤65536*65536:=Int.mul_le_mul (by omega) (by omega) (by omega) (by omega);simp only [List.length_nil];omega
 · show (0:Int)+(([]:List ActV).length:Nat)+32*(k:Nat)<1099511627776
   simp only [List.length_nil];omega
theorem join_load {refs:Int}{cs:List Int}{on:Int→Option PageV}(h:Right cs on)(hc:∀c∈cs,0≤c∧c≤refs)(ok:PoolOk (poolOf refs cs 0))(k:Nat)(hk:k≤1000000):Join (loadV refs cs on) [] (poolOf refs cs 0) (pgsOf cs.length on) 0 [] k:=
 ⟨bothH_load h hc ok k hk,rfl,rfl,rfl⟩
theorem join_new {refs:Int}{n:Nat}(h:rangeOk n refs=true)(ok:PoolOk (poolOf refs (List.replicate n 0) 0))(k:Nat)(hk:k≤1000000):Join (newV refs n) [] (poolN refs n) (List.replicate n zeroP) 0 [] k:=by
 obtain⟨n1,n2,n3,n4⟩:=rangeOk_iff.1 h;have e1:poolN refs n=poolOf refs (List.replicate n 0) 0:=by unfold poolN poolOf;rw [lasts_zeroJ]
 have e2:List.replicate n zeroP=pgsOf (List.replicate n (0:Int)).length fun _=>none:=by rw [List.length_replicate,pgsOf_none]
 rw [e1,e2];exact join_load (right_new n (by omega)) (fun c hc=>by rw [List.eq_of_mem_replicate hc];omega) ok k hk
end Go.Cop
