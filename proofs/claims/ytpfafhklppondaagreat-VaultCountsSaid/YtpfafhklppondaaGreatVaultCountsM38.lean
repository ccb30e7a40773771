/- Plain laws: both vaults with all that can be undone, alike state by state. No program in sight. -/
import Derived.Test.YtpfafhklppondaaGreatVaultCountsM35
import Derived.Test.YtpfafhklppondaaGreatVaultCountsM31
import Derived.Test.YtpfafhklppondaaGreatVaultCountsM25
import Derived.Test.YtpfafhklppondaaGreatVaultCountsM34
import Derived.Test.YtpfafhklppondaaGreatVaultCountsM29
import Derived.Test.YtpfafhklppondaaGreatVaultCountsM20
import Derived.Test.YtpfafhklppondaaGreatVaultCountsM28
import Derived.Test.YtpfafhklppondaaGreatVaultCountsM33
import Derived.BigQuiet
import Derived.Deep.QuietTactic
set_option maxRecDepth 100000
set_option maxHeartbeats 16000000
namespace Go.Cop
open Go.Proofs.YtpfafhklppondaaGreat.Y3 Go.Proofs.YtpfafhklppondaaGreat.G4 Go.Proofs.YtpfafhklppondaaGreat.Z7 Go.Proofs.YtpfafhklppondaaGreat.K9 Go.Proofs.YtpfafhklppondaaGreat.J8 Go.Proofs.YtpfafhklppondaaGreat.E4 Go.Proofs.YtpfafhklppondaaGreat.M9 Go.Proofs.YtpfafhklppondaaGreat.X6
structure BothH(s:VaultS)(rs:PoolS)(gs:List PageV)(k:Nat):Prop where
 tw:Twin s rs gs
 pb:s.pool.floor+s.pool.acts.length+sumC s.pool.counts+32*k+131072<1099511627776
 vb:s.floor+s.acts.length+32*k<1099511627776
theorem BothH.mono {s:VaultS}{rs:PoolS}{gs:List PageV}{k:Nat}(h:BothH s rs gs (k+1)):BothH s rs gs k:=
 ⟨h.tw,by have:=h.pb;omega,by have:=h.vb;omega⟩
theorem BothH.le {s:VaultS}{rs:PoolS}{gs:List PageV}{k m:Nat}(h:BothH s rs gs k)(hm:m≤k):BothH s rs gs m:=
 ⟨h.tw,by have:=h.pb;omega,by have:=h.vb;omega⟩
def HistB(rs:PoolS)(k:Nat):List VaultS→List (List Int × List PageV)→Prop
 | [],l=>l= []
 | s :: H,l=> ∃a r,l=a :: r∧BothH s (rs.withC a.1) a.2 k∧HistB rs k H r
theorem HistB.le {rs:PoolS}{k m:Nat}(hm:m≤k):∀ {H:List VaultS} {l:List (List Int × List PageV)},HistB rs k H l→HistB rs m H l
 | [],_,h=>h
 | _ :: _,_,⟨a,r,e,h1,h2⟩=>⟨a,r,e,h1.le hm,HistB.le hm h2⟩
theorem HistB.withC {rs:PoolS}{k:Nat}(cs:List Int):∀ {H:List VaultS} {l:List (List Int × List PageV)},HistB rs k H l→HistB (rs.withC cs) k H l
 | [],_,h=>h
 | _ :: _,_,⟨a,r,e,h1,h2⟩=>⟨a,r,e,h1,HistB.withC cs h2⟩
theorem HistB.len {rs:PoolS}{k:Nat}:∀ {H:List VaultS} {l:List (List Int × List PageV)},HistB rs k H l→l.length=H.length
 | [],_,h=>by rw [show _= [] from h];rfl
 | _ :: _,_,⟨a,r,e,_,h2⟩=>by rw [e,List.length_cons,List.length_cons,HistB.len h2]
theorem HistB.drop {rs:PoolS}{k:Nat}{s1:VaultS}{r1:List VaultS}:∀ {H:List VaultS} {l:List (List Int × List PageV)} (j:Nat),HistB rs k H l→H.drop j=s1 :: r1→
 ∃a r,l.drop j=a :: r∧BothH s1 (rs.withC a.1) a.2 k∧HistB rs k r1 r
 | [],_,j,_,e=>by rw [List.drop_nil] at e;cases e
 | s :: H,_,0,⟨a,r,e,h1,h2⟩,e2=>by
   rw [List.drop_zero] at e2;cases e2;exact⟨a,r,e,h1,h2⟩
 | s :: H,_,j+1,⟨a,r,e,h1,h2⟩,e2=>by
   rw [e,List.drop_succ_cons];exact HistB.drop j h2 (by rwa [List.drop_succ_cons] at e2)
structure Join(s:VaultS)(H:List VaultS)(rs:PoolS)(gs:List PageV)(fl:Int)(l:List (List Int × List PageV))(k:Nat):Prop where
 now:BothH s rs gs k
 hv:HistV H s
 hb:HistB rs k H l.reverse
 fe:fl=s.floor
theorem Join.len {s:VaultS}{H:List VaultS}{rs:PoolS}{gs:List PageV}{fl:Int}{l:List (List Int × List PageV)}{k:Nat}(h:Join s H rs gs fl l k):l.length=H.length∧s.acts.length=l.length:=by
 have h1:=h.hb.len;have h2:=h.hv.len;rw [List.length_reverse] at h1;exact⟨h1,by omega⟩
theorem Join.le {s:VaultS}{H:List VaultS}{rs:PoolS}{gs:List PageV}{fl:Int}{l:List (List Int × List PageV)}{k m:Nat}(h:Join s H rs gs fl l k)(hm:m≤k):Join s H rs gs fl l m:=
 ⟨h.now.le hm,h.hv,h.hb.le hm,h.fe⟩
theorem Join.act {s t:VaultS}{W:List (Int × Option PageV)}{H:List VaultS}{rs:PoolS}{gs gs':List PageV}{cs:List Int}{fl:Int}{l:List (List Int × List PageV)}{k:Nat}(h:Join s H rs gs fl l (k+1))(m:Mid s t W)
 (b:BothH (t.acted ⟨s.pool.mark,W⟩) (rs.withC cs) gs' k):Join (t.acted ⟨s.pool.mark,W⟩) (s :: H) (rs.withC cs) gs' fl (l++ [(rs.counts,gs)]) k:=
 ⟨b,⟨⟨t,W,rfl,m⟩,h.hv⟩,by
   rw [List.reverse_append]
   exact⟨(rs.counts,gs),l.reverse,rfl,h.now.mono,(h.hb.le (Nat.le_succ k)).withC cs⟩,h.fe.trans m.vf.symm⟩
theorem BothH.settle {s:VaultS}{rs:PoolS}{gs:List PageV}{k:Nat}(h:BothH s rs gs (k+1))(ok:PoolOk s.pool):BothH s.settled { rs with last:=lastsOf rs.counts } (gsK rs gs rs.counts.length) k:=by
 refine⟨h.tw.settle ok,?_,?_⟩
 · have h3:=h.pb
   show s.pool.floor+s.pool.acts.length+((([]:List (Int × Int)).length:Nat):Int)+sumC s.pool.counts+32*k+131072< _
   simp only [List.length_nil];omega
 · have h3:=h.vb
   show s.floor+s.acts.length+((([]:List ActV).length:Nat):Int)+32*k< _
   simp only [List.length_nil];omega
theorem Join.settle {s:VaultS}{H:List VaultS}{rs:PoolS}{gs:List PageV}{fl:Int}{l:List (List Int × List PageV)}{k:Nat}(h:Join s H rs gs fl l (k+1))(ok:PoolOk s.pool):
 Join s.settled [] { rs with last:=lastsOf rs.counts } (gsK rs gs rs.counts.length) (fl+l.length) [] k:=
 ⟨h.now.settle ok,rfl,rfl,by
   show _=s.floor+s.acts.length
   rw [h.fe,h.len.2]⟩
theorem BothH.make {s:VaultS}{rs:PoolS}{gs:List PageV}{k j:Nat}(h:BothH s rs gs (k+1))(ok:PoolOk s.pool)(hm:s.pool.state ((j:Int)+1)=1){g:PageV}(hg:Fit g)(a:ActV):
 BothH ((s.made ((j:Int)+1) g).acted a) (rs.withC (rs.counts.set j 1)) (gs.set j g) k:=by
 have h1:=h.tw.make ok hm hg;rw [show ((j:Int)+1).toNat-1=j by omega] at h1;have ht:=there_of_state (by omega:s.pool.state ((j:Int)+1)≠0);have h0:=count_of_free ok hm;refine⟨h1.move rfl rfl rfl rfl,?_,?_⟩
 · have h2:=sum_addC (cs:=s.pool.counts) (n:=(j:Int)+1) (b:=1) ht (by rw [← count_cnt];omega) (by rw [← count_cnt];omega)
   have h3:=h.pb;show s.pool.floor+((s.pool.acts++ [((j:Int)+1,(1:Int))]).length:Nat)+(sumC (s.pool.did ((j:Int)+1) 1).counts:Nat)+32*k+131072< _
   rw [did_counts,List.length_append];simp only [List.length_singleton];omega
 · have h4:=h.vb
   show s.floor+((s.acts++ [a]).length:Nat)+32*k< _
   rw [List.length_append];simp only [List.length_singleton];omega
theorem own_state {p:PoolS}{n:Int}(h:ownP p n=true):p.state n=3∧p.count n=1:=by
 unfold ownP at h;simpa using h
theorem BothH.write {s:VaultS}{rs:PoolS}{gs:List PageV}{k j:Nat}(h:BothH s rs gs (k+1))(ho:ownP s.pool ((j:Int)+1)=true){g:PageV}(hg:Fit g)(a:ActV):
 BothH ((wrS s ((j:Int)+1) g).acted a) rs (gs.set j g) k:=by
 obtain⟨h3,_⟩:=own_state ho;have ht:=there_of_state (by omega:s.pool.state ((j:Int)+1)≠0);refine⟨⟨h.tw.cs,h.tw.ls,h.tw.rf,by rw [List.length_set];exact h.tw.gl,fun m hm=> ?_,fun m hm hth=> ?_,fun m g2 hm=> ?_,h.tw.cr⟩,by have:=h.pb;show s.pool.floor+s.pool.acts.length+sumC s.pool.counts+32*k+131072< _;omega,?_⟩
 · have hm2:s.pool.state m=1:=hm
   show (if m=(j:Int)+1 then some g else s.on m)=none
   rw [if_neg (fun e=>by rw [e,h3] at hm2;omega)];exact h.tw.bare m hm2
 · show (if m=(j:Int)+1 then some g else s.on m)=_
   have e:=pgAt_set (gs:=gs) (n:=(j:Int)+1) (m:=m) ⟨ht.1,by rw [h.tw.gl];exact ht.2⟩ ⟨hth.1,by rw [h.tw.gl];exact hth.2⟩ g;rw [show ((j:Int)+1).toNat-1=j by omega] at e;rw [e];split
   · rfl
   · exact h.tw.pg m hm hth
 · have hm2:(if m=(j:Int)+1 then some g else s.on m)=some g2:=hm
   split at hm2
   · cases hm2;exact hg
   · exact h.tw.fit m g2 hm2
 · have h4:=h.vb
   show s.floor+((s.acts++ [a]).length:Nat)+32*k< _
   rw [List.length_append];simp only [List.length_singleton];omega
theorem BothH.keep {s:VaultS}{rs:PoolS}{gs:List PageV}{k:Nat}(h:BothH s rs gs (k+1))(ok:PoolOk s.pool){n:Int}(he:incE s.pool n=0)(a:ActV):BothH ({ s with pool:=s.pool.did n 1 }.acted a) (rs.withC (addC rs.counts n 1)) gs k:=by
 have h0:s.pool.count n≠0:=fun e=>by unfold incE at he;rw [if_pos e] at he;cases he
 have ht:=there_of_count h0;have hb:=(count_bd ok n).1;refine⟨h.tw.keep ok he a,?_,?_⟩
 · have h2:=sum_addC (cs:=s.pool.counts) (n:=n) (b:=1) ht (by rw [← count_cnt];exact hb) (by rw [← count_cnt];omega)
   have h3:=h.pb;show s.pool.floor+((s.pool.acts++ [(n,(1:Int))]).length:Nat)+(sumC (s.pool.did n 1).counts:Nat)+32*k+131072< _
   rw [did_counts,List.length_append];simp only [List.length_singleton];omega
 · have h4:=h.vb
   show s.floor+((s.acts++ [a]).length:Nat)+32*k< _
   rw [List.length_append];simp only [List.length_singleton];omega
theorem BothH.drop {s t:VaultS}{rs:PoolS}{gs:List PageV}{k:Nat}(h:BothH s rs gs (k+1))(ok:PoolOk s.pool){l:List Int}{e:Int}{W:List (Int × Option PageV)}(hd:DInv s t W)(hf:Far s t)(h1:DropR s.get l s.pool.counts e t.pool.counts)(a:ActV):BothH (t.acted a) (rs.withC t.pool.counts) gs k:=by
 refine⟨h.tw.drop ok hd h1 a,?_,?_⟩
 · have h2:=hf.acts
   have h3:=h.pb;show t.pool.floor+t.pool.acts.length+sumC t.pool.counts+32*k+131072< _
   omega
 · have h2:=hd.mid.vf
   have h3:=hd.mid.va;have h4:=h.vb;show t.floor+((t.acts++ [a]).length:Nat)+32*k< _
   rw [List.length_append,h2,h3];simp only [List.length_singleton];omega
theorem Twin.dec {s:VaultS}{rs:PoolS}{gs:List PageV}(h:Twin s rs gs)(ok:PoolOk s.pool){n:Int}(h0:s.pool.count n≠0):
 Twin { s with pool:=s.pool.did n (-1),on:=fun m=>if m=n∧(s.pool.did n (-1)).state n=1 then none else s.on m } (rs.withC (addC rs.counts n (-1))) gs:=by
 have ht:=there_of_count h0;have hst:∀m,m≠n→(s.pool.did n (-1)).state m=s.pool.state m:=fun m hm=>by rw [did_state ht,if_neg hm]
 have hn:=state_of_count ok h0;refine⟨?_,h.ls,h.rf,?_,fun m hm=> ?_,fun m hm hth=> ?_,fun m g hm=> ?_,fun c hc=> ?_⟩
 · show addC rs.counts n (-1)=(s.pool.did n (-1)).counts
   rw [did_counts,h.cs]
 · show _=(s.pool.did n (-1)).counts.length
   rw [did_counts,addC_len];exact h.gl
 · have hm2:(s.pool.did n (-1)).state m=1:=hm
   show (if m=n∧(s.pool.did n (-1)).state n=1 then none else s.on m)=none
   by_cases e:m=n
   · rw [if_pos ⟨e,by have h5:=hm2;rw [e] at h5;exact h5⟩]
   · rw [if_neg (fun x=>e x.1)]
     exact h.bare m (by rw [← hst m e];exact hm2)
 · have hm2:(s.pool.did n (-1)).state m≠1:=hm
   show (if m=n∧(s.pool.did n (-1)).state n=1 then none else s.on m)=_
   rw [if_neg (fun x=>hm2 (by rw [x.1];exact x.2))];refine h.pg m ?_ (did_there.1 hth);by_cases e:m=n
   · rw [e];exact hn
   · rw [← hst m e];exact hm2
 · have hm2:(if m=n∧(s.pool.did n (-1)).state n=1 then none else s.on m)=some g:=hm
   split at hm2
   · cases hm2
   · exact h.fit m g hm2
 · have hc2:c∈s.pool.counts.set (n.toNat-1) (s.pool.count n+ -1):=hc
   have h1:=(count_bd ok n).1;have h2:=h.crn ok n;rcases List.mem_or_eq_of_mem_set hc2 with hc | rfl
   · exact h.cr c hc
   · exact⟨by omega,by show _≤s.pool.refs;omega⟩
theorem Twin.incs {gs:List PageV}:∀(ks:List Int) {s:VaultS} {rs:PoolS},Twin s rs gs→PoolOk s.pool→s.pool.floor+s.pool.acts.length+ks.length<1099511627776→
 (incsP s.pool ks).1=(incsR rs ks).1∧((incsP s.pool ks).1=0→Twin { s with pool:=(incsP s.pool ks).2 } (incsR rs ks).2 gs∧(incsP s.pool ks).2.floor=s.pool.floor∧
   (incsP s.pool ks).2.acts.length=s.pool.acts.length+ks.length∧(sumC (incsP s.pool ks).2.counts:Int)=sumC s.pool.counts+ks.length)
 | [],s,rs,h,ok,hb=>⟨rfl,fun _=>⟨h,rfl,by simp [incsP],by simp [incsP]⟩⟩
 | k :: ks,s,rs,h,ok,hb=>by
   rw [incsP_one,incsR_one, ← incE_incL h];by_cases he:incE s.pool k=0
   · have e2:IncP rs k=rs.withC (addC rs.counts k 1):=by unfold IncP;rw [← incE_incL h,if_pos he]
     rw [if_pos he,if_pos he,e2];have h0:s.pool.count k≠0:=fun e=>by unfold incE at he;rw [if_pos e] at he;cases he
     have h1:s.pool.count k≠s.pool.refs:=fun e=>by unfold incE at he;rw [if_neg h0,if_pos e] at he;cases he
     have h2:=h.crn ok k;have hb1:=(count_bd ok k).1;have hr2:=ok.r2;have ht:=there_of_count h0;simp only [List.length_cons] at hb;have ok2:PoolOk (s.pool.did k 1):=did_ok ok (by omega) (by omega) (by omega);have h3:Twin { s with pool:=s.pool.did k 1 } (rs.withC (addC rs.counts k 1)) gs:=(h.keep ok he ⟨0,[]⟩).move rfl rfl rfl rfl
     have h4:(s.pool.did k 1).acts.length=s.pool.acts.length+1:=by
      show (s.pool.acts++ [(k,(1:Int))]).length=_
      rw [List.length_append];rfl
     have h5:=sum_addC (cs:=s.pool.counts) (n:=k) (b:=1) ht (by rw [← count_cnt];exact hb1) (by rw [← count_cnt];omega);rw [← did_counts] at h5;obtain⟨i1,i2⟩:=Twin.incs ks (s:= { s with pool:=s.pool.did k 1 }) h3 ok2 (by show s.pool.floor+((s.pool.did k 1).acts.length:Nat)+ _< _;rw [h4];omega);refine⟨i1,fun e=> ?_⟩;obtain⟨j1,j2,j3,j4⟩:=i2 e;refine⟨j1,j2,?_,?_⟩
     · rw [j3]
       show (s.pool.did k 1).acts.length+ _=_
       rw [h4,List.length_cons];omega
     · rw [j4]
       show (sumC (s.pool.did k 1).counts:Int)+ _=_
       rw [h5,List.length_cons];omega
   · rw [if_neg he,if_neg he]
     exact⟨rfl,fun e=>absurd e he⟩
theorem leaveR_far(s:VaultS)(n:Int):(leaveR s n).2.1.acts=s.acts∧(leaveR s n).2.1.floor=s.floor:=by
 unfold leaveR;split<;>exact⟨rfl,rfl⟩
theorem Twin.leave {s:VaultS}{rs:PoolS}{gs:List PageV}(h:Twin s rs gs)(ok:PoolOk s.pool){n:Int}(h0:s.pool.count n≠0)(hm:s.pool.floor+s.pool.acts.length+65540<1099511627776):
 (leaveR s n).1=(leaveRR rs (pgAt gs n) n).1∧((leaveR s n).1=0→Twin (leaveR s n).2.1 (leaveRR rs (pgAt gs n) n).2 gs∧(leaveR s n).2.1.pool.floor=s.pool.floor∧
   (leaveR s n).2.1.pool.acts.length≤s.pool.acts.length+10∧(sumC (leaveR s n).2.1.pool.counts:Int)≤sumC s.pool.counts+9):=by
 have hc:cntL rs.counts n=s.pool.count n:=by rw [h.cs, ← count_cnt]
 have hon:=h.at' ok h0;have ht:=there_of_count h0;have hb1:=(count_bd ok n);have h5:=sum_addC (cs:=s.pool.counts) (n:=n) (b:= -1) ht (by rw [← count_cnt];exact hb1.1) (by rw [← count_cnt];omega);rw [← did_counts] at h5
 have h4:(s.pool.did n (-1)).acts.length=s.pool.acts.length+1:=by
  show (s.pool.acts++ [(n,(-1:Int))]).length=_
  rw [List.length_append];rfl
 have hd:=h.dec ok h0;unfold leaveR leaveRR;rw [hc,hon];by_cases h1:s.pool.count n=1
 · rw [if_pos h1,if_pos h1]
   refine⟨rfl,fun _=>⟨hd,rfl,?_,?_⟩⟩
   · show (s.pool.did n (-1)).acts.length≤ _
     omega
   · show (sumC (s.pool.did n (-1)).counts:Int)≤ _
     omega
 · rw [if_neg h1,if_neg h1]
   have hst:(s.pool.did n (-1)).state n≠1:=fun e=>by
    rw [did_state ht,if_pos rfl] at e;unfold stateOf at e;rw [if_pos (by omega)] at e;split at e<;>omega
   have h3:Twin { s with pool:=s.pool.did n (-1) } (rs.withC (addC rs.counts n (-1))) gs:=hd.move rfl rfl rfl (funext fun m=>if_neg (fun x=>hst x.2));have hk:=kidsOf_len (pgAt gs n);have hf:=(h.fit n _ hon).n;have ok2:PoolOk (s.pool.did n (-1)):=did_ok ok (by omega) (by omega) (by omega)
   obtain⟨i1,i2⟩:=h3.incs (kidsOf (pgAt gs n)) ok2 (by show s.pool.floor+((s.pool.did n (-1)).acts.length:Nat)+ _< _;rw [h4];omega);refine⟨i1,fun e=> ?_⟩;obtain⟨j1,j2,j3,j4⟩:=i2 e;refine⟨j1,j2,?_,?_⟩
   · show (incsP (s.pool.did n (-1)) (kidsOf (pgAt gs n))).2.acts.length≤ _
     rw [j3];show (s.pool.did n (-1)).acts.length+ _≤ _
     omega
   · show (sumC (incsP (s.pool.did n (-1)) (kidsOf (pgAt gs n))).2.counts:Int)≤ _
     rw [j4];show (sumC (s.pool.did n (-1)).counts:Int)+ _≤ _
     omega
theorem BothH.take {s:VaultS}{rs:PoolS}{gs:List PageV}{k:Nat}(h:BothH s rs gs (k+1))(ok:PoolOk s.pool){n:Int}(h0:s.pool.count n≠0):
 (leaveR s n).1=(leaveRR rs (pgAt gs n) n).1∧((leaveR s n).1=0→∀a,BothH ((leaveR s n).2.1.acted a) (leaveRR rs (pgAt gs n) n).2 gs k):=by
 have hp:=h.pb;have hv:=h.vb;obtain⟨i1,i2⟩:=h.tw.leave ok h0 (by omega);refine⟨i1,fun e a=> ?_⟩;obtain⟨j1,j2,j3,j4⟩:=i2 e;obtain⟨f1,f2⟩:=leaveR_far s n;refine⟨j1.move rfl rfl rfl rfl,?_,?_⟩
 · show (leaveR s n).2.1.pool.floor+(leaveR s n).2.1.pool.acts.length+sumC (leaveR s n).2.1.pool.counts+32*k+131072< _
   omega
 · show (leaveR s n).2.1.floor+(((leaveR s n).2.1.acts++ [a]).length:Nat)+32*k< _
   rw [f1,f2,List.length_append];simp only [List.length_singleton];omega
theorem pgAt_lay2(gs:List PageV)(n:Int)(i:Nat):pgAt (gs.set i (pgAt gs n)) n=pgAt gs n:=by
 unfold pgAt;by_cases h:i=n.toNat-1
 · subst h
   by_cases hl:n.toNat-1<gs.length
   · rw [List.getD_eq_getElem?_getD,List.getElem?_set_self hl];rfl
   · rw [List.set_eq_of_length_le (by omega)]
 · rw [List.getD_eq_getElem?_getD,List.getElem?_set_ne h, ← List.getD_eq_getElem?_getD]
theorem BothH.shadow {s:VaultS}{rs:PoolS}{gs:List PageV}{k j:Nat}(h:BothH s rs gs (k+1))(ok:PoolOk s.pool){n:Int}(h0:s.pool.count n≠0)(hm:s.pool.state ((j:Int)+1)=1):
 (leaveR (s.made ((j:Int)+1) (pgAt gs n)) n).1=(leaveRR (rs.withC (rs.counts.set j 1)) (pgAt gs n) n).1∧
   ((leaveR (s.made ((j:Int)+1) (pgAt gs n)) n).1=0→∀a,BothH ((leaveR (s.made ((j:Int)+1) (pgAt gs n)) n).2.1.acted a) (leaveRR (rs.withC (rs.counts.set j 1)) (pgAt gs n) n).2 (gs.set j (pgAt gs n)) k):=by
 have hp:=h.pb;have hv:=h.vb;have hon:=h.tw.at' ok h0;have hfit:=h.tw.fit n _ hon;obtain⟨_,c2,_⟩:=made_count ok hm h0 (pgAt gs n);have ht:=there_of_state (by omega:s.pool.state ((j:Int)+1)≠0);have hz:=count_of_free ok hm;have t1:=h.tw.make ok hm hfit;rw [show ((j:Int)+1).toNat-1=j by omega] at t1
 have t2:Twin (s.made ((j:Int)+1) (pgAt gs n)) (rs.withC (rs.counts.set j 1)) (gs.set j (pgAt gs n)):=t1.move rfl rfl rfl rfl;have h5:=sum_addC (cs:=s.pool.counts) (n:=(j:Int)+1) (b:=1) ht (by rw [← count_cnt];omega) (by rw [← count_cnt];omega);rw [← did_counts] at h5
 have h4:(s.made ((j:Int)+1) (pgAt gs n)).pool.acts.length=s.pool.acts.length+1:=by
  show (s.pool.acts++ [((j:Int)+1,(1:Int))]).length=_
  rw [List.length_append];rfl
 have h6:(s.made ((j:Int)+1) (pgAt gs n)).pool.floor=s.pool.floor:=rfl;have h7:(sumC (s.made ((j:Int)+1) (pgAt gs n)).pool.counts:Int)=sumC s.pool.counts+1:=h5;have okm:PoolOk (s.made ((j:Int)+1) (pgAt gs n)).pool:=did_ok ok (by omega) (by omega) (by omega);obtain⟨i1,i2⟩:=t2.leave okm (n:=n) (by rw [c2];exact h0) (by omega);rw [pgAt_lay2] at i1 i2;refine⟨i1,fun e a=> ?_⟩;obtain⟨j1,j2,j3,j4⟩:=i2 e
 obtain⟨f1,f2⟩:=leaveR_far (s.made ((j:Int)+1) (pgAt gs n)) n;refine⟨j1.move rfl rfl rfl rfl,?_,?_⟩
 · show (leaveR (s.made ((j:Int)+1) (pgAt gs n)) n).2.1.pool.floor+(leaveR (s.made ((j:Int)+1) (pgAt gs n)) n).2.1.pool.acts.length+sumC (leaveR (s.made ((j:Int)+1) (pgAt gs n)) n).2.1.pool.counts+32*k+131072< _
   omega
 · show (leaveR (s.made ((j:Int)+1) (pgAt gs n)) n).2.1.floor+(((leaveR (s.made ((j:Int)+1) (pgAt gs n)) n).2.1.acts++ [a]).length:Nat)+32*k< _
   rw [f1,f2,List.length_append];simp only [List.length_singleton];show s.floor+((s.acts.length+1:Nat):Int)+ _< _
   omega
end Go.Cop
namespace Go.Cop
open Go.Proofs.YtpfafhklppondaaGreat.X6 Go.Proofs.YtpfafhklppondaaGreat.E9 Go.Proofs.YtpfafhklppondaaGreat.Y7 Go.Proofs.YtpfafhklppondaaGreat.M2 Go.Proofs.YtpfafhklppondaaGreat.X3 Go.Proofs.YtpfafhklppondaaGreat.W7 Go.Proofs.YtpfafhklppondaaGreat.E4 Go.Proofs.YtpfafhklppondaaGreat.F7
def lastsTo(p:PoolS)(m:Nat):List Int:=((List.range m).filter fun i:Nat=>p.lasts ((i:Int)+1)).map fun i:Nat=>(i:Int)+1
abbrev lastsIn(p:PoolS):List Int:=lastsTo p p.counts.length
theorem lasts_mem {p:PoolS}{n:Int}(h:n∈lastsIn p):p.there n∧p.lasts n=true:=by
 obtain⟨i,hi,rfl⟩:=List.mem_map.1 h;obtain⟨h1,h2⟩:=List.mem_filter.1 hi;have:=List.mem_range.1 h1
 exact⟨⟨by omega,by omega⟩,h2⟩
theorem nums_lasts {s t:VaultS}(hl:t.pool.last=s.pool.last)(hc:t.pool.counts.length=s.pool.counts.length)(ho:∀n,s.pool.there n→s.pool.lasts n=true→t.on n=s.on n):numsOf t (lastsIn t.pool)=numsOf s (lastsIn s.pool):=by
 have e:lastsIn t.pool=lastsIn s.pool:=by
  unfold lastsIn lastsTo PoolS.lasts;rw [hl,hc]
 rw [e];unfold numsOf;refine List.map_congr_left fun n hn=> ?_
 obtain⟨h1,h2⟩:=lasts_mem hn;rw [ho n h1 h2]
structure PInv(s:VaultS)(X:Int→Int)(ls:List NumV)(k:Nat):Prop where
 bh:∃rs gs,BothH s rs gs k
 rf:s.pool.refs=65535
 n2:s.pool.counts.length≤200
 xb:∀n,0≤X n∧X n≤1000
 xr:∀n,X n≠0→s.pool.there n
 deg:Deg s X
 sh:ShapedV s
 ls:ls=numsOf s (lastsIn s.pool)
section
variable {s:VaultS}{X X':Int→Int}{ls:List NumV}{k:Nat}
theorem PInv.le(h:PInv s X ls k){m:Nat}(hm:m≤k):PInv s X ls m:=by
 obtain⟨rs,gs,b⟩:=h.bh;exact⟨⟨rs,gs,b.le hm⟩,h.rf,h.n2,h.xb,h.xr,h.deg,h.sh,h.ls⟩
theorem PInv.root(h:PInv s X ls k){n:Int}(hn:X n≠0):s.pool.count n≠0:=by
 have ht:=h.xr n hn;have e:=h.deg n ht.1 ht.2;have:=(h.xb n).1
 omega
theorem PInv.cnt(h:PInv s X ls k)(n:Int):s.pool.count n+10<s.pool.refs:=by
 have h1:=h.deg.le h.sh n (h.xb n).1;have h2:=(h.xb n).2;have h3:=h.n2;rw [h.rf];omega
theorem PInv.inc(h:PInv s X ls k){n:Int}(hn:s.pool.count n≠0):incE s.pool n=0:=by
 have:=h.cnt n
 unfold incE;rw [if_neg hn,if_neg (by omega)]
theorem PInv.fit(h:PInv s X ls k):∀n g,s.on n=some g→Fit g:=by
 obtain⟨rs,gs,b⟩:=h.bh;exact b.tw.fit
theorem PInv.bare(h:PInv s X ls k):Bare s:=by
 obtain⟨rs,gs,b⟩:=h.bh;exact b.tw.bare
theorem PInv.cr(h:PInv s X ls k):CR s.pool:=fun n=>by have:=h.cnt n;omega
theorem PInv.on(h:PInv s X ls k)(ok:PoolOk s.pool){n:Int}(hn:s.pool.count n≠0):s.on n=some (s.get n):=by
 obtain⟨rs,gs,b⟩:=h.bh;have:=b.tw.at' ok hn
 unfold VaultS.get;rw [this];rfl
theorem PInv.hm(h:PInv s X ls k):s.pool.floor+s.pool.acts.length+sumC s.pool.counts+131072<1099511627776∧s.floor+s.acts.length+32*k<1099511627776:=by
 obtain⟨rs,gs,b⟩:=h.bh;have h1:=b.pb;have h2:=b.vb;exact⟨by omega,by omega⟩
theorem PInv.kid(h:PInv s X ls k){n m:Int}(hn:s.pool.count n≠0)(hm:m∈kidsOf (s.get n)):s.pool.count m≠0:=h.deg.kid h.sh (h.xb m).1 hn hm
theorem made_len(n:Int)(g:PageV):(s.made n g).pool.counts.length=s.pool.counts.length:=by show (s.pool.did n 1).counts.length=_;rw [did_counts,addC_len]
theorem free_lastI {n:Int}(hn:s.pool.state n=1):s.pool.lasts n=false:=by
 have ht:=there_of_state (by omega:s.pool.state n≠0);rw [state_there ht] at hn;unfold stateOf at hn;cases hl:s.pool.lasts n with
 | false=>rfl
 | true=>rw [hl] at hn;simp at hn;split at hn<;>omega
theorem PInv.make(h:PInv s X ls (k+1))(ok:PoolOk s.pool){n:Int}(hn:s.pool.state n=1){g:PageV}(hg:Shape s.pool.counts.length g)(fit:Fit g)(hX:∀m,X' m+(((kidsOf g).count m:Nat):Int)=X m+if m=n then 1 else 0)(hx:∀m,0≤X' m∧X' m≤1000)(a:ActV):
 PInv ((s.made n g).acted a) X' ls k:=by
 obtain⟨rs,gs,b⟩:=h.bh;have ht:=there_of_state (by omega:s.pool.state n≠0);obtain⟨j,rfl⟩:∃j:Nat,n=(j:Int)+1:=⟨(n-1).toNat,by have:=ht.1;omega⟩;refine⟨⟨_,_,b.make ok hn fit a⟩,h.rf,?_,hx,fun m hm=> ?_,deg_make h.deg ok hn g hX,shaped_make h.sh ht hg,?_⟩
 · rw [show ((s.made ((j:Int)+1) g).acted a).pool.counts.length=s.pool.counts.length from made_len _ g]
   exact h.n2
 · have hm2:s.pool.there m:=by
    by_cases e:m=(j:Int)+1
    · rw [e];exact ht
    · have:=hX m
      rw [if_neg e] at this;exact h.xr m (by have:=(hx m).1;omega)
   exact⟨hm2.1,by rw [show ((s.made ((j:Int)+1) g).acted a).pool.counts.length=s.pool.counts.length from made_len _ g];exact hm2.2⟩
 · rw [h.ls]
   refine(nums_lasts (s:=s) (t:=(s.made ((j:Int)+1) g).acted a) rfl (made_len _ g) fun m _ hl=> ?_).symm;show (if m=(j:Int)+1 then some g else s.on m)=_
   rw [if_neg];intro e;subst e;rw [free_lastI hn] at hl;cases hl
theorem PInv.keep(h:PInv s X ls (k+1))(ok:PoolOk s.pool){n:Int}(hn:s.pool.count n≠0)(hx:X n<1000)(a:ActV):
 PInv ({ s with pool:=s.pool.did n 1 }.acted a) (fun m=>X m+if m=n then 1 else 0) ls k:=by
 obtain⟨rs,gs,b⟩:=h.bh;have ht:=there_of_count hn;have hl:(s.pool.did n 1).counts.length=s.pool.counts.length:=by rw [did_counts,addC_len]
 refine⟨⟨_,_,b.keep ok (h.inc hn) a⟩,h.rf,by show (s.pool.did n 1).counts.length≤200;rw [hl];exact h.n2,fun m=> ?_,fun m hm=> ?_,deg_keep h.deg ok hn,?_,?_⟩
 · have:=h.xb m
   show 0≤X m+(if m=n then 1 else 0)∧X m+(if m=n then 1 else 0)≤1000
   split
   · rename_i e;subst e;omega
   · omega
 · refine did_there.2 ?_
   by_cases e:m=n
   · rw [e];exact ht
   · exact h.xr m (fun e2=>hm (by rw [e2,if_neg e];rfl))
 · intro m hm
   show Shape (s.pool.did n 1).counts.length (s.get m)
   rw [hl];refine h.sh m (fun e=>hm ?_);show (s.pool.did n 1).count m=0
   rw [did_count ht,if_neg (fun e2:m=n=>hn (e2 ▸ e)),e]
 · rw [h.ls]
   exact(nums_lasts (s:=s) (t:=({ s with pool:=s.pool.did n 1 }:VaultS).acted a) rfl hl fun m _ _=>rfl).symm
theorem PInv.drop(h:PInv s X ls (k+1))(ok:PoolOk s.pool){t:VaultS}{n:Int}{e:Int}{W:List (Int × Option PageV)}(hn:X n≠0)(hd:DropR s.get [n] s.pool.counts e t.pool.counts)(di:DInv s t W)(hf:Far s t)(a:ActV):
 e=0∧PInv (t.acted a) (fun m=>X m-if m=n then 1 else 0) ls k:=by
 obtain⟨rs,gs,b⟩:=h.bh
 have hx0:∀m,0≤X m-(if m=n then 1 else 0):=fun m=>by
  have:=(h.xb m).1
  split
  · rename_i e;subst e;omega
  · omega
 obtain⟨h1,h2,h3⟩:=deg_drop (X':=fun m=>X m-if m=n then 1 else 0) h.deg h.sh (fun m=>by rw [count_cnt];exact((hd.le fun x hx=>(ok.cs x hx).1).2 m).1) (h.xr n hn) hd di (fun m=>by omega) hx0;refine⟨h1,⟨_,_,b.drop ok di hf hd a⟩,di.mid.refs.trans h.rf,by show t.pool.counts.length≤200;rw [di.len];exact h.n2,fun m=>⟨hx0 m,?_⟩,fun m hm=> ?_,h2,h3,?_⟩
 · have:=(h.xb m).2
   show X m-(if m=n then 1 else 0)≤1000
   split<;>omega
 · have:=h.xr m (fun e=>hm (by
    have:=hx0 m
    rw [e] at this ⊢
    split at this<;>rename_i e2
    · omega
    · rw [if_neg e2];rfl))
   exact⟨this.1,by show m≤t.pool.counts.length;rw [di.len];exact this.2⟩
 · rw [h.ls]
   refine(nums_lasts (s:=s) (t:=t.acted a) di.mid.last di.len fun m hm hl=> ?_).symm;show t.on m=_
   rw [di.on];show (if t.pool.state m=1 then none else s.on m)=_
   rw [if_neg];intro e;have:=free_lastI e
   unfold PoolS.lasts at this hl;rw [di.mid.last,hl] at this;cases this
theorem PInv.take(h:PInv s X ls (k+1))(ok:PoolOk s.pool){n:Int}(hn:X n≠0)(hx:∀m,X m≤990)(a:ActV):
 (leaveR s n).1=0∧PInv ((leaveR s n).2.1.acted a) (fun m=>X m-(if m=n then 1 else 0)+(((kidsOf (s.get n)).count m:Nat):Int)) ls k∧
   (∀m,s.pool.state m=1→(leaveR s n).2.1.pool.state m=1)∧(leaveR s n).2.1.pool.counts.length=s.pool.counts.length:=by
 obtain⟨rs,gs,b⟩:=h.bh;have hc:=h.root hn;have ht:=h.xr n hn;have hk2:=(h.sh n hc).two;obtain⟨h1,h2,h3,h4,h5,h6,h7,h8,h9⟩:=deg_leave (X':=fun m=>X m-(if m=n then 1 else 0)+(((kidsOf (s.get n)).count m:Nat):Int)) h.deg h.sh ok hc (fun m=>by have:=h.cnt m;omega) (fun m hm=>h.kid hc hm) (fun m=>by omega);have hcl:∀m,(kidsOf (s.get n)).count m≤2:=fun m=>Nat.le_trans List.count_le_length hk2
 refine⟨h1,⟨⟨_,_,(b.take ok hc).2 h1 a⟩,h9.trans h.rf,by show (leaveR s n).2.1.pool.counts.length≤200;rw [h4];exact h.n2,fun m=> ?_,fun m hm=> ?_,h2,h3,?_⟩,fun m hm=> ?_,h4⟩
 · have g1:=(h.xb m).1
   have g2:=hx m;have g3:=hcl m;show 0≤X m-(if m=n then 1 else 0)+(((kidsOf (s.get n)).count m:Nat):Int)∧X m-(if m=n then 1 else 0)+(((kidsOf (s.get n)).count m:Nat):Int)≤1000
   split
   · rename_i e;subst e;omega
   · omega
 · have:s.pool.there m:=by
    by_cases e:m=n
    · rw [e];exact ht
    · by_cases e2:m∈kidsOf (s.get n)
      · exact(h.sh n hc).kids m e2
      · refine h.xr m (fun e3=>hm ?_)
        show X m-(if m=n then 1 else 0)+(((kidsOf (s.get n)).count m:Nat):Int)=0
        rw [e3,if_neg e,List.count_eq_zero_of_not_mem e2];rfl
   exact⟨this.1,by show m≤(leaveR s n).2.1.pool.counts.length;rw [h4];exact this.2⟩
 · rw [h.ls]
   refine(nums_lasts (s:=s) (t:=(leaveR s n).2.1.acted a) h5 h4 fun m hm hl=> ?_).symm;show (leaveR s n).2.1.on m=_
   rw [h6];show (if m=n∧s.pool.count n=1∧(s.pool.did n (-1)).state n=1 then none else s.on m)=_
   rw [if_neg];rintro⟨rfl,_,e⟩;have e2:=did_state (s:=s.pool) (n:=m) (b:= -1) (m:=m) ht;rw [if_pos rfl,hl,e] at e2;unfold stateOf at e2;simp only [if_true] at e2;split at e2<;>omega
 · have hm0:=count_of_free ok hm
   have htm:=there_of_state (by omega:s.pool.state m≠0);rw [state_there (show (leaveR s n).2.1.pool.there m from⟨htm.1,by rw [h4];exact htm.2⟩),h7 m hm0]
   have:(leaveR s n).2.1.pool.lasts m=false:=by
    have:=free_lastI hm
    unfold PoolS.lasts at this ⊢;rw [h5];exact this
   rw [this];rfl
end
end Go.Cop
namespace Go.Cop
open Go.Proofs.YtpfafhklppondaaGreat.M6 Go.ChangeShapes Go.Sl Go.Proofs.YtpfafhklppondaaGreat.M2 Go.Proofs.YtpfafhklppondaaGreat.P3 Go.Proofs.YtpfafhklppondaaGreat.J4 Go.Proofs.YtpfafhklppondaaGreat.L4 Go.Proofs.YtpfafhklppondaaGreat.D5 Go.Proofs.YtpfafhklppondaaGreat.Y3 Go.Proofs.YtpfafhklppondaaGreat.G4 Go.Proofs.YtpfafhklppondaaGreat.Q7 Go.Proofs.YtpfafhklppondaaGreat.G8 Go.Proofs.YtpfafhklppondaaGreat.F9 Go.Proofs.YtpfafhklppondaaGreat.Z7 Go.Proofs.YtpfafhklppondaaGreat.C8
theorem sumC_leJ {B:Int}:∀ {cs:List Int},(∀c∈cs,0≤c∧c≤B)→(sumC cs:Int)≤cs.length*B
 | [],_=>by simp [sumC]
 | c :: cs,h=>by
   have h1:=sumC_leJ (B:=B) (cs:=cs) fun c hc=>h c (by simp [hc])
   have h2:=h c (by simp);have e:sumC (c :: cs)=c.toNat+sumC cs:=by simp [sumC]
   rw [e,List.length_cons];have e2:((cs.length+1:Nat):Int)*B=cs.length*B+B:=by rw [Int.natCast_add,Int.add_mul];simp
   rw [e2];omega
theorem lasts_ofJ(refs:Int)(cs:List Int)(n:Int)(ht:(poolOf refs cs 0).there n):(poolOf refs cs 0).lasts n=decide (0<(poolOf refs cs 0).count n):=by
 have hi:n.toNat-1<cs.length:=by have h1:=ht.1;have h2:n≤(cs.length:Int):=ht.2;omega
 have e1:(poolOf refs cs 0).count n=cs.getD (n.toNat-1) 0:=by unfold PoolS.count;rw [if_pos ht]
 rw [e1];show (lastsOf cs).getD (n.toNat-1) false=_
 unfold lastsOf;rw [List.getD_eq_getElem?_getD,List.getD_eq_getElem?_getD,List.getElem?_map,List.getElem?_eq_getElem hi];rfl
theorem lasts_zeroJ(n:Nat):lastsOf (List.replicate n 0)=List.replicate n false:=by
 unfold lastsOf;simp
theorem bothH_load {refs:Int}{cs:List Int}{on:Int→Option PageV}(h:Right cs on)(hc:∀c∈cs,0≤c∧c≤refs)(ok:PoolOk (poolOf refs cs 0))(k:Nat)(hk:k≤1000000):BothH (loadV refs cs on) (poolOf refs cs 0) (pgsOf cs.length on) k:=by
 have hr:refs<65536:=ok.r2;have hn:cs.length≤65536:=ok.n2;have hr1:(2:Int)≤refs:=ok.r1;refine⟨⟨rfl,rfl,rfl,by simp [pgsOf],fun n hn=> ?_,fun n h1 h2=> ?_,h.ok.fit,hc⟩,?_,?_⟩
 · have h0:=count_of_free ok hn
   cases e:on n with
   | none=>exact e
   | some g=>exact absurd ((count_poolOf refs cs n).symm.trans h0) (h.ok.there n g e)
 · have ht:(poolOf refs cs 0).there n:=h2
   have h3:(poolOf refs cs 0).count n≠0:=fun e=>h1 (by
    show (poolOf refs cs 0).state n=1
    rw [state_there ht,lasts_ofJ refs cs n ht,e]
    rfl)
   obtain⟨g,hg⟩:=h.full n (fun e=>h3 ((count_poolOf refs cs n).trans e));show on n=_
   rw [hg];have b1:=ht.1;have b2:n≤(cs.length:Int):=ht.2;congr 1
   unfold pgAt pgsOf;rw [List.getD_eq_getElem?_getD,List.getElem?_map,List.getElem?_range (by show n.toNat-1<cs.length;omega)];simp only [Option.map_some,Option.getD_some];rw [show (((n.toNat-1:Nat):Int))+1=n by omega,hg];rfl
 · have h1:=sumC_leJ hc
   show (0:Int)+(([]:List (Int × Int)).length:Nat)+(sumC cs:Nat)+32*(k:Nat)+131072<1099511627776
   have h2:(cs.length:Int)*refs≤65536*65536:=Int.mul_le_mul (by omega) (by omega) (by omega) (by omega);simp only [List.length_nil];omega
 · show (0:Int)+(([]:List ActV).length:Nat)+32*(k:Nat)<1099511627776
   simp only [List.length_nil];omega
theorem join_load {refs:Int}{cs:List Int}{on:Int→Option PageV}(h:Right cs on)(hc:∀c∈cs,0≤c∧c≤refs)(ok:PoolOk (poolOf refs cs 0))(k:Nat)(hk:k≤1000000):Join (loadV refs cs on) [] (poolOf refs cs 0) (pgsOf cs.length on) 0 [] k:=
 ⟨bothH_load h hc ok k hk,rfl,rfl,rfl⟩
theorem join_new {refs:Int}{n:Nat}(h:rangeOk n refs=true)(ok:PoolOk (poolOf refs (List.replicate n 0) 0))(k:Nat)(hk:k≤1000000):Join (newV refs n) [] (poolN refs n) (List.replicate n zeroP) 0 [] k:=by
 obtain⟨n1,n2,n3,n4⟩:=rangeOk_iff.1 h;have e1:poolN refs n=poolOf refs (List.replicate n 0) 0:=by unfold poolN poolOf;rw [lasts_zeroJ]
 have e2:List.replicate n zeroP=pgsOf (List.replicate n (0:Int)).length fun _=>none:=by rw [List.length_replicate,pgsOf_none]
 rw [e1,e2];exact join_load (right_new n (by omega)) (fun c hc=>by rw [List.eq_of_mem_replicate hc];omega) ok k hk
end Go.Cop
namespace Go.Cop
open Go.Proofs.YtpfafhklppondaaGreat.Z7 Go.Proofs.YtpfafhklppondaaGreat.X6 Go.Proofs.YtpfafhklppondaaGreat.E9 Go.Proofs.YtpfafhklppondaaGreat.Y7 Go.Proofs.YtpfafhklppondaaGreat.M2 Go.Proofs.YtpfafhklppondaaGreat.X3 Go.Proofs.YtpfafhklppondaaGreat.W7 Go.Proofs.YtpfafhklppondaaGreat.E4 Go.Proofs.YtpfafhklppondaaGreat.F7 Go.Proofs.YtpfafhklppondaaGreat.X4
section
variable {s:VaultS}{X X':Int→Int}{ls:List NumV}{k:Nat}
theorem leaveR_one {n:Int}(h:s.pool.count n=1):(leaveR s n).2.1.pool=s.pool.did n (-1):=by
 unfold leaveR;rw [if_pos h]
theorem PInv.shadow(h:PInv s X ls (k+1))(ok:PoolOk s.pool){n m:Int}(hn:X n≠0)(hm:s.pool.state m=1)(hx:∀x,X x≤990)(a:ActV):
 (leaveR (s.made m (s.get n)) n).1=0∧PInv ((leaveR (s.made m (s.get n)) n).2.1.acted a) (fun x=>X x-(if x=n then 1 else 0)+if x=m then 1 else 0) ls k∧
   (leaveR (s.made m (s.get n)) n).2.1.pool.state m=3∧(leaveR (s.made m (s.get n)) n).2.1.pool.count m=1∧(leaveR (s.made m (s.get n)) n).2.1.on m=some (s.get n)∧
   ((leaveR (s.made m (s.get n)) n).2.1.pool.count n≠0→(leaveR (s.made m (s.get n)) n).2.1.on n=some (s.get n)):=by
 obtain⟨rs,gs,b⟩:=h.bh;have hc:=h.root hn;have ht:=h.xr n hn;have hm0:=count_of_free ok hm;have htm:=there_of_state (by omega:s.pool.state m≠0);have hmn:m≠n:=fun e=>hc (e ▸ hm0)
 have hg:s.on n=some (s.get n):=h.on ok hc
 have hpg:pgAt gs n=s.get n:=by
  have:=b.tw.at' ok hc
  rw [hg] at this;exact(Option.some.inj this).symm
 obtain⟨j,rfl⟩:∃j:Nat,m=(j:Int)+1:=⟨(m-1).toNat,by have:=htm.1;omega⟩;have hB:=b.shadow ok hc hm;rw [hpg] at hB;have okm:PoolOk (s.made ((j:Int)+1) (s.get n)).pool:=did_ok ok (by omega) (by omega) (by have:=b.pb;omega);have mc:∀x,(s.made ((j:Int)+1) (s.get n)).pool.count x=if x=(j:Int)+1 then s.pool.count ((j:Int)+1)+1 else s.pool.count x:=fun x=>did_count htm
 have mg:(s.made ((j:Int)+1) (s.get n)).get n=s.get n:=by rw [get_made,if_neg (fun e=>hmn e.symm)]
 have mn:(s.made ((j:Int)+1) (s.get n)).pool.count n=s.pool.count n:=by rw [mc,if_neg (fun e=>hmn e.symm)]
 have hkm:(j:Int)+1 ∉ kidsOf (s.get n):=fun e=>h.kid hc e hm0
 obtain⟨h1,h2,h3,h4,h5,h6,h7,h8,h9⟩:=deg_leave (s:=s.made ((j:Int)+1) (s.get n)) (n:=n) (X:=fun x=>X x+(if x=(j:Int)+1 then 1 else 0)-(((kidsOf (s.get n)).count x:Nat):Int)) (X':=fun x=>X x-(if x=n then 1 else 0)+if x=(j:Int)+1 then 1 else 0)
  (deg_make h.deg ok hm (s.get n) fun x=>by omega) (shaped_make h.sh htm (h.sh n hc)) okm (by rw [mn];exact hc) (fun x=>by
    have g1:=h.cnt x
    have g2:=h.cnt ((j:Int)+1)
    rw [mc]
    show _<s.pool.refs
    split<;>omega) (fun x hx=>by
    rw [mg] at hx
    have:=h.kid hc hx
    rw [mc]
    split
    · rename_i e;subst e;exact absurd hx hkm
    · exact this) (fun x=>by rw [mg];omega)
 rw [mg] at h8;have lm:(leaveR (s.made ((j:Int)+1) (s.get n)) n).2.1.pool.last=s.pool.last:=h5;have ln:(leaveR (s.made ((j:Int)+1) (s.get n)) n).2.1.pool.counts.length=s.pool.counts.length:=h4.trans (made_len _ _)
 have c1:(leaveR (s.made ((j:Int)+1) (s.get n)) n).2.1.pool.count ((j:Int)+1)=1:=by
  rw [h8 _ hmn hkm,mc,if_pos rfl,hm0];rfl
 have on':∀x,(leaveR (s.made ((j:Int)+1) (s.get n)) n).2.1.on x=if x=n∧(s.made ((j:Int)+1) (s.get n)).pool.count n=1∧((s.made ((j:Int)+1) (s.get n)).pool.did n (-1)).state n=1 then none else(s.made ((j:Int)+1) (s.get n)).on x:=fun x=>by rw [h6]
 have mon:∀x,x≠(j:Int)+1→(s.made ((j:Int)+1) (s.get n)).on x=s.on x:=fun x hx=>by
  show (if x=(j:Int)+1 then _ else _)=_
  rw [if_neg hx]
 refine⟨h1,⟨⟨_,_,hB.2 h1 a⟩,h9.trans h.rf,by show (leaveR _ n).2.1.pool.counts.length≤200;rw [ln];exact h.n2,fun x=> ?_,fun x hxx=> ?_,h2,h3,?_⟩,?_,c1,?_,fun hc2=> ?_⟩
 · have g1:=(h.xb x).1
   have g2:=hx x;show 0≤X x-(if x=n then 1 else 0)+(if x=(j:Int)+1 then 1 else 0)∧X x-(if x=n then 1 else 0)+(if x=(j:Int)+1 then 1 else 0)≤1000
   by_cases e:x=n
   · subst e
     rw [if_pos rfl,if_neg (fun e=>hmn e.symm)];omega
   · rw [if_neg e]
     split<;>omega
 · have:s.pool.there x:=by
    by_cases e:x=n
    · rw [e];exact ht
    · by_cases e2:x=(j:Int)+1
      · rw [e2];exact htm
      · refine h.xr x (fun e3=>hxx ?_)
        show X x-(if x=n then 1 else 0)+(if x=(j:Int)+1 then 1 else 0)=0
        rw [e3,if_neg e,if_neg e2];rfl
   exact⟨this.1,by show x≤(leaveR _ n).2.1.pool.counts.length;rw [ln];exact this.2⟩
 · rw [h.ls]
   refine(nums_lasts (s:=s) (t:=(leaveR (s.made ((j:Int)+1) (s.get n)) n).2.1.acted a) lm ln fun x hxt hl=> ?_).symm;show (leaveR (s.made ((j:Int)+1) (s.get n)) n).2.1.on x=_
   rw [on',if_neg]
   · refine mon x ?_
     intro e;subst e;rw [free_lastI hm] at hl;cases hl
   · rintro⟨rfl,_,e⟩
     have e2:=did_state (s:=(s.made ((j:Int)+1) (s.get x)).pool) (n:=x) (b:= -1) (m:=x) ⟨hxt.1,by rw [made_len];exact hxt.2⟩;rw [if_pos rfl,show (s.made ((j:Int)+1) (s.get x)).pool.lasts x=s.pool.lasts x from rfl,hl,e] at e2;unfold stateOf at e2;simp only [if_true] at e2;split at e2<;>omega
 · rw [state_there (show (leaveR (s.made ((j:Int)+1) (s.get n)) n).2.1.pool.there _ from⟨htm.1,by rw [ln];exact htm.2⟩),c1]
   have:(leaveR (s.made ((j:Int)+1) (s.get n)) n).2.1.pool.lasts ((j:Int)+1)=false:=by
    have:=free_lastI hm
    unfold PoolS.lasts at this ⊢;rw [lm];exact this
   rw [this];rfl
 · rw [on',if_neg (fun e=>hmn e.1)]
   show (if(j:Int)+1=(j:Int)+1 then some (s.get n) else _)=_
   rw [if_pos rfl]
 · rw [on',if_neg,mon n (fun e=>hmn e.symm),hg]
   rintro⟨_,e1,_⟩;refine hc2 ?_;rw [leaveR_one e1,did_count (show (s.made ((j:Int)+1) (s.get n)).pool.there n from⟨ht.1,by rw [made_len];exact ht.2⟩),if_pos rfl,e1];rfl
theorem lasts_held(ok:PoolOk s.pool):lastsIn s.settled.pool=pagesIn s.settled.pool 4:=by
 unfold lastsIn lastsTo pagesIn pagesTo;congr 1
 refine List.filter_congr fun i hi=> ?_
 have hr:=List.mem_range.1 hi;have ht:s.pool.there ((i:Int)+1):=⟨by omega,by have:i<s.pool.counts.length:=hr;omega⟩;rw [show s.settled.pool=s.pool.settled from rfl,settled_state ok ht]
 have e:s.pool.settled.lasts ((i:Int)+1)=decide (0<s.pool.count ((i:Int)+1)):=by
  show (lastsOf s.pool.counts).getD _ _=_
  rw [lasts_of_counts s.pool.counts ht];unfold PoolS.count;rw [if_pos ht]
 rw [e];have hp:=count_pos ok ((i:Int)+1);by_cases h0:s.pool.count ((i:Int)+1)=0
 · rw [if_pos h0,h0]
   rfl
 · rw [if_neg h0,decide_eq_true (by omega)]
   rfl
theorem PInv.settle(h:PInv s X ls (k+1))(ok:PoolOk s.pool):PInv s.settled X (numsOf s.settled (pagesIn s.settled.pool 4)) k:=by
 obtain⟨rs,gs,b⟩:=h.bh
 have hg:∀n,s.pool.count n≠0→s.settled.get n=s.get n:=fun n hn=>by
  unfold VaultS.get;show (if s.pool.state n=2 then none else s.on n).getD _=_
  rw [if_neg];intro e;have ht:=there_of_count hn;have hp:=count_pos ok n;rw [state_there ht] at e;unfold stateOf at e;rw [if_pos (by omega)] at e;split at e<;>omega
 refine⟨⟨_,_,b.settle ok⟩,h.rf,h.n2,h.xb,h.xr,fun m g1 g2=> ?_,fun m hm=> ?_,by rw [lasts_held ok]⟩
 · have e:=h.deg m g1 g2
   rw [indeg_same (s:=s) (t:=s.settled) rfl (fun _=>Iff.rfl) hg];exact e
 · rw [hg m hm]
   exact h.sh m hm
theorem many_pos {p:PoolS}(hl:p.last.length=p.counts.length){m:Int}(ht:p.there m):0<p.many (p.state m):=by
 obtain⟨h1,h2⟩:=ht;have hi:m.toNat-1<p.counts.length:=by omega
 unfold PoolS.many;refine List.length_pos_of_mem (a:=(p.counts[m.toNat-1],p.last[m.toNat-1]'(by omega))) (List.mem_filter.2 ⟨?_,?_⟩)
 · have hz:m.toNat-1<(p.counts.zip p.last).length:=by simp;omega
   have:=List.getElem_mem hz
   rwa [List.getElem_zip] at this
 · rw [state_there ⟨h1,h2⟩]
   unfold PoolS.count PoolS.lasts;rw [if_pos ⟨h1,h2⟩,List.getD_eq_getElem?_getD,List.getElem?_eq_getElem hi,List.getD_eq_getElem?_getD,List.getElem?_eq_getElem (by omega)];simp
theorem tally_free {p:PoolS}(ok:PoolOk p):p.tally 1=0↔∀m,p.state m≠1:=by
 unfold PoolS.tally;rw [if_neg (by omega)];constructor
 · intro h m hm
   have ht:=there_of_state (by omega:p.state m≠0);have:=many_pos ok.len ht
   rw [hm] at this;omega
 · intro h
   have:p.many 1=0:=Classical.byContradiction fun e=>by
    obtain⟨n,hn⟩:=free_of_many ok e;exact h n hn
   omega
theorem filter_four:∀(l:List (Int × Bool)),(l.filter fun x=>stateOf x.1 x.2 == 1).length+(l.filter fun x=>stateOf x.1 x.2 == 2).length+(l.filter fun x=>stateOf x.1 x.2 == 3).length+(l.filter fun x=>stateOf x.1 x.2 == 4).length=l.length
 | []=>rfl
 | x :: l=>by
   have:=filter_four l
   obtain⟨c,b⟩:=x;unfold stateOf at this ⊢;by_cases hc:0<c
   · cases b<;>simp only [List.filter_cons,hc,if_true]<;>simp<;>omega
   · cases b<;>simp only [List.filter_cons,hc,if_false]<;>simp<;>omega
theorem many_sum {p:PoolS}(ok:PoolOk p):p.tally 1+p.tally 2+p.tally 3+p.tally 4=p.counts.length:=by
 unfold PoolS.tally PoolS.many;have:=filter_four (p.counts.zip p.last)
 rw [List.length_zip,ok.len,Nat.min_self] at this;simp only [show ¬((1:Int)<1∨4<(1:Int)) by omega,show ¬((2:Int)<1∨4<(2:Int)) by omega,show ¬((3:Int)<1∨4<(3:Int)) by omega,show ¬((4:Int)<1∨4<(4:Int)) by omega,if_false];omega
end
end Go.Cop
namespace Go.Proofs.YtpfafhklppondaaGreat.Vy
open ChangeShapes WideShapes ChangeAt RowKit Sl Cop M2 P3 X3 G4 Q2 X2 J4 L4 P4 G5 F7 Q9 Sy
abbrev placesC(v:Nat)(rv lv:Value):Obj:= .cells #[.pointer (some ⟨v,0,none⟩),rv,lv] 32
abbrev plL(x v:Nat)(rv lv:Value)(s:VaultS)(roots:List Int)(ls:List NumV)(T:List Pr):List Pr:=VaultA v s :: Pr.pts x (placesC v rv lv) :: IntsRow rv roots :: NumsRow lv ls :: T
structure PlOK(s:VaultS)(roots:List Int)(ls:List NumV)(k:Nat):Prop where
 inv:PInv s (fun n=>((roots.count n:Nat):Int)) ls k
 rl:roots.length+k≤120
theorem PlOK.le {s:VaultS}{roots:List Int}{ls:List NumV}{k m:Nat}(h:PlOK s roots ls k)(hm:m≤k):PlOK s roots ls m:=⟨h.inv.le hm,by have:=h.rl;omega⟩
def PlDone(x v k:Nat)(F:Pr)(w:World):Prop:= ∃rv lv s roots ls,PlOK s roots ls k∧OwnL (plL x v rv lv s roots ls [F]) w
theorem root_any(x v:Nat)(rv lv:Value)(s:VaultS)(roots:List Int)(ls:List NumV)(F:Pr)(hr:roots.length≤120)(n:Int)(w:World)(hF:OwnL (plL x v rv lv s roots ls [F]) w):
 Calls Tryz.prog 32 #[.pointer (some ⟨x,0,none⟩),.int .i64 n] w fun e w'=>(∃i:Int,e= .returned (.int .i64 i)∧((i= -1∧roots= [])∨∃j:Nat,j<roots.length∧i=j))∧Only w w':=by
 obtain⟨ar,cr,rfl⟩:=Row.shape (hF.pull1 (A1:=IntsRow rv roots));have c1:=hF.facts;simp only [CellsAt,Nat.reduceAdd,and_true] at c1;clear hF;cases roots with
 | nil=>
   go_enter Tryz.func32,Tryz.ntmps32
   go_wp2;go_ret;exact⟨⟨_,rfl,.inl ⟨rfl,trivial⟩⟩,Only.refl w⟩
 | cons r roots=>
   obtain⟨L,hL⟩:∃L:Nat,L=(r :: roots).length:=⟨_,rfl⟩;rw [← hL] at c1 hr ⊢;have hL0:0<L:=by rw [hL];simp
   have hL1:(0:Int)<(L:Int):=by omega
   have hLn:((L:Int) == 0)=false:=by rw [beq_eq_false_iff_ne];omega
   have hL2:(L:Int)≤120:=by omega
   have hb1:=Int.lt_tmod_of_pos n hL1;have hb2:=Int.tmod_lt_of_pos n hL1;clear hL;go_enter Tryz.func32,Tryz.ntmps32
   go_wp2_with fail
   go_quiet (fail)
   go_wp2;go_ret;have hm1:=Int.emod_nonneg (n.tmod L+L) (show (L:Int)≠0 by omega);have hm2:=Int.emod_lt_of_pos (n.tmod L+L) hL1;exact⟨⟨_,rfl,.inr ⟨((n.tmod L+L) % L).toNat,by omega,by omega⟩⟩,⟨(Stays.refl w).drewN _,fun _ _=>rfl⟩⟩
end Go.Proofs.YtpfafhklppondaaGreat.Vy
