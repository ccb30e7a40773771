/- Plain laws: both vaults with all that can be undone, alike state by state. No program in sight. -/
import Derived.Test.YtbobcmimkonnoaaGreatVaultPlaysM27
import Derived.Test.YtbobcmimkonnoaaGreatVaultPlaysM26
import Derived.Test.YtbobcmimkonnoaaGreatVaultPlaysM24
import Derived.Test.YtbobcmimkonnoaaGreatVaultPlaysM29
import Derived.Test.YtbobcmimkonnoaaGreatVaultPlaysM16
import Derived.Test.YtbobcmimkonnoaaGreatVaultPlaysM21
import Derived.Test.YtbobcmimkonnoaaGreatVaultPlaysM01
set_option maxRecDepth 100000
set_option maxHeartbeats 16000000
namespace Go.Cop
open Go.Proofs.YtbobcmimkonnoaaGreat.P3 Go.Proofs.YtbobcmimkonnoaaGreat.Q3 Go.Proofs.YtbobcmimkonnoaaGreat.F6 Go.Proofs.YtbobcmimkonnoaaGreat.W6 Go.Proofs.YtbobcmimkonnoaaGreat.M6 Go.Proofs.YtbobcmimkonnoaaGreat.J7 Go.Proofs.YtbobcmimkonnoaaGreat.P8 Go.Proofs.YtbobcmimkonnoaaGreat.L6
structure BothH(s:VaultS)(rs:PoolS)(gs:List PageV)(k:Nat):Prop where
 tw:Twin s rs gs
 pb:s.pool.floor+s.pool.acts.length+sumC s.pool.counts+32*k+131072<1099511627776
 vb:s.floor+s.acts.length+32*k<1099511627776
theorem BothH.mono {s:VaultS}{rs:PoolS}{gs:List PageV}{k:Nat}(h:BothH s rs gs (k+1)):BothH s rs gs k:=
 ⟨h.tw,by have:=h.pb;omega,by have:=h.vb;omega⟩
theorem BothH.le {s:VaultS}{rs:PoolS}{gs:List PageV}{k m:Nat}(h:BothH s rs gs k)(hm:m≤k):BothH s rs gs m:=
 ⟨h.tw,by have:=h.pb;omega,by have:=h.vb;omega⟩
def HistB(rs:PoolS)(k:Nat):List VaultS→List (List Int × List PageV)→Prop
 | [],l=>l= []
 | s :: H,l=> ∃a r,l=a :: r∧BothH s (rs.withC a.1) a.2 k∧HistB rs k H r
theorem HistB.le {rs:PoolS}{k m:Nat}(hm:m≤k):∀ {H:List VaultS} {l:List (List Int × List PageV)},HistB rs k H l→HistB rs m H l
 | [],_,h=>h
 | _ :: _,_,⟨a,r,e,h1,h2⟩=>⟨a,r,e,h1.le hm,HistB.le hm h2⟩
theorem HistB.withC {rs:PoolS}{k:Nat}(cs:List Int):∀ {H:List VaultS} {l:List (List Int × List PageV)},HistB rs k H l→HistB (rs.withC cs) k H l
 | [],_,h=>h
 | _ :: _,_,⟨a,r,e,h1,h2⟩=>⟨a,r,e,h1,HistB.withC cs h2⟩
theorem HistB.len {rs:PoolS}{k:Nat}:∀ {H:List VaultS} {l:List (List Int × List PageV)},HistB rs k H l→l.length=H.length
 | [],_,h=>by rw [show _= [] from h];rfl
 | _ :: _,_,⟨a,r,e,_,h2⟩=>by rw [e,List.length_cons,List.length_cons,HistB.len h2]
theorem HistB.drop {rs:PoolS}{k:Nat}{s1:VaultS}{r1:List VaultS}:∀ {H:List VaultS} {l:List (List Int × List PageV)} (j:Nat),HistB rs k H l→H.drop j=s1 :: r1→
 ∃a r,l.drop j=a :: r∧BothH s1 (rs.withC a.1) a.2 k∧HistB rs k r1 r
 | [],_,j,_,e=>by rw [List.drop_nil] at e;cases e
 | s :: H,_,0,⟨a,r,e,h1,h2⟩,e2=>by
   rw [List.drop_zero] at e2
   cases e2
   exact⟨a,r,e,h1,h2⟩
 | s :: H,_,j+1,⟨a,r,e,h1,h2⟩,e2=>by
   rw [e,List.drop_succ_cons]
   exact HistB.drop j h2 (by rwa [List.drop_succ_cons] at e2)
structure Join(s:VaultS)(H:List VaultS)(rs:PoolS)(gs:List PageV)(fl:Int)(l:List (List Int × List PageV))(k:Nat):Prop where
 now:BothH s rs gs k
 hv:HistV H s
 hb:HistB rs k H l.reverse
 fe:fl=s.floor
theorem Join.len {s:VaultS}{H:List VaultS}{rs:PoolS}{gs:List PageV}{fl:Int}{l:List (List Int × List PageV)}{k:Nat}(h:Join s H rs gs fl l k):l.length=H.length∧s.acts.length=l.length:=by
 have h1:=h.hb.len
 have h2:=h.hv.len
 rw [List.length_reverse] at h1
 exact⟨h1,by omega⟩
theorem Join.le {s:VaultS}{H:List VaultS}{rs:PoolS}{gs:List PageV}{fl:Int}{l:List (List Int × List PageV)}{k m:Nat}(h:Join s H rs gs fl l k)(hm:m≤k):Join s H rs gs fl l m:=
 ⟨h.now.le hm,h.hv,h.hb.le hm,h.fe⟩
theorem Join.act {s t:VaultS}{W:List (Int × Option PageV)}{H:List VaultS}{rs:PoolS}{gs gs':List PageV}{cs:List Int}{fl:Int}{l:List (List Int × List PageV)}{k:Nat}(h:Join s H rs gs fl l (k+1))(m:Mid s t W)
 (b:BothH (t.acted ⟨s.pool.mark,W⟩) (rs.withC cs) gs' k):Join (t.acted ⟨s.pool.mark,W⟩) (s :: H) (rs.withC cs) gs' fl (l++ [(rs.counts,gs)]) k:=
 ⟨b,⟨⟨t,W,rfl,m⟩,h.hv⟩,by
   rw [List.reverse_append]
   exact⟨(rs.counts,gs),l.reverse,rfl,h.now.mono,(h.hb.le (Nat.le_succ k)).withC cs⟩,h.fe.trans m.vf.symm⟩
theorem Join.undo {s s1:VaultS}{H r1:List VaultS}{rs:PoolS}{gs:List PageV}{fl:Int}{l:List (List Int × List PageV)}{k j:Nat}(h:Join s H rs gs fl l k)(hj:j<H.length)(hd:(s :: H).drop (j+1)=s1 :: r1)(hh:HistV r1 s1):
 ∃a,l[l.length-1-j]? =some a∧Join s1 r1 (rs.withC a.1) a.2 fl (l.take (l.length-1-j)) k:=by
 rw [List.drop_succ_cons] at hd
 obtain⟨a,r,e,h1,h2⟩:=h.hb.drop j hd
 have hl:=h.len.1
 have hm:s1∈H:=List.mem_of_mem_drop (i:=j) (by rw [hd];simp)
 have e2:l.reverse[j]? =some a:=by
  have:=congrArg (fun x=>x[0]?) e
  simpa using this
 refine⟨a,?_,h1,hh,?_,by rw [h.fe];exact(h.hv.fl hm).symm⟩
 · rw [List.getElem?_reverse (by omega)] at e2
   exact e2
 · have e3:r=l.reverse.drop (j+1):=by
    have:=congrArg (fun x=>x.drop 1) e
    simp only [List.drop_drop,List.drop_succ_cons,List.drop_zero] at this
    exact this.symm
   rw [List.reverse_take,show l.length-(l.length-1-j)=j+1 by omega, ← e3]
   exact h2.withC a.1
theorem BothH.settle {s:VaultS}{rs:PoolS}{gs:List PageV}{k:Nat}(h:BothH s rs gs (k+1))(ok:PoolOk s.pool):BothH s.settled { rs with last:=lastsOf rs.counts } (gsK rs gs rs.counts.length) k:=by
 refine⟨h.tw.settle ok,?_,?_⟩
 · have h3:=h.pb
   show s.pool.floor+s.pool.acts.length+((([]:List (Int × Int)).length:Nat):Int)+sumC s.pool.counts+32*k+131072< _
   simp only [List.length_nil]
   omega
 · have h3:=h.vb
   show s.floor+s.acts.length+((([]:List ActV).length:Nat):Int)+32*k< _
   simp only [List.length_nil]
   omega
theorem Join.settle {s:VaultS}{H:List VaultS}{rs:PoolS}{gs:List PageV}{fl:Int}{l:List (List Int × List PageV)}{k:Nat}(h:Join s H rs gs fl l (k+1))(ok:PoolOk s.pool):
 Join s.settled [] { rs with last:=lastsOf rs.counts } (gsK rs gs rs.counts.length) (fl+l.length) [] k:=
 ⟨h.now.settle ok,rfl,rfl,by
   show _=s.floor+s.acts.length
   rw [h.fe,h.len.2]⟩
theorem BothH.make {s:VaultS}{rs:PoolS}{gs:List PageV}{k j:Nat}(h:BothH s rs gs (k+1))(ok:PoolOk s.pool)(hm:s.pool.state ((j:Int)+1)=1){g:PageV}(hg:Fit g)(a:ActV):
 BothH ((s.made ((j:Int)+1) g).acted a) (rs.withC (rs.counts.set j 1)) (gs.set j g) k:=by
 have h1:=h.tw.make ok hm hg
 rw [show ((j:Int)+1).toNat-1=j by omega] at h1
 have ht:=there_of_state (by omega:s.pool.state ((j:Int)+1)≠0)
 have h0:=count_of_free ok hm
 refine⟨h1.move rfl rfl rfl rfl,?_,?_⟩
 · have h2:=sum_addC (cs:=s.pool.counts) (n:=(j:Int)+1) (b:=1) ht (by rw [← count_cnt];omega) (by rw [← count_cnt];omega)
   have h3:=h.pb
   show s.pool.floor+((s.pool.acts++ [((j:Int)+1,(1:Int))]).length:Nat)+(sumC (s.pool.did ((j:Int)+1) 1).counts:Nat)+32*k+131072< _
   rw [did_counts,List.length_append]
   simp only [List.length_singleton]
   omega
 · have h4:=h.vb
   show s.floor+((s.acts++ [a]).length:Nat)+32*k< _
   rw [List.length_append]
   simp only [List.length_singleton]
   omega
theorem own_state {p:PoolS}{n:Int}(h:ownP p n=true):p.state n=3∧p.count n=1:=by
 unfold ownP at h
 simpa using h
theorem BothH.write {s:VaultS}{rs:PoolS}{gs:List PageV}{k j:Nat}(h:BothH s rs gs (k+1))(ho:ownP s.pool ((j:Int)+1)=true){g:PageV}(hg:Fit g)(a:ActV):
 BothH ((wrS s ((j:Int)+1) g).acted a) rs (gs.set j g) k:=by
 obtain⟨h3,_⟩:=own_state ho
 have ht:=there_of_state (by omega:s.pool.state ((j:Int)+1)≠0)
 refine⟨⟨h.tw.cs,h.tw.ls,h.tw.rf,by rw [List.length_set];exact h.tw.gl,fun m hm=> ?_,fun m hm hth=> ?_,fun m g2 hm=> ?_,h.tw.cr⟩,by have:=h.pb;show s.pool.floor+s.pool.acts.length+sumC s.pool.counts+32*k+131072< _;omega,?_⟩
 · have hm2:s.pool.state m=1:=hm
   show (if m=(j:Int)+1 then some g else s.on m)=none
   rw [if_neg (fun e=>by rw [e,h3] at hm2;omega)]
   exact h.tw.bare m hm2
 · show (if m=(j:Int)+1 then some g else s.on m)=_
   have e:=pgAt_set (gs:=gs) (n:=(j:Int)+1) (m:=m) ⟨ht.1,by rw [h.tw.gl];exact ht.2⟩ ⟨hth.1,by rw [h.tw.gl];exact hth.2⟩ g
   rw [show ((j:Int)+1).toNat-1=j by omega] at e
   rw [e]
   split
   · rfl
   · exact h.tw.pg m hm hth
 · have hm2:(if m=(j:Int)+1 then some g else s.on m)=some g2:=hm
   split at hm2
   · cases hm2;exact hg
   · exact h.tw.fit m g2 hm2
 · have h4:=h.vb
   show s.floor+((s.acts++ [a]).length:Nat)+32*k< _
   rw [List.length_append]
   simp only [List.length_singleton]
   omega
theorem BothH.keep {s:VaultS}{rs:PoolS}{gs:List PageV}{k:Nat}(h:BothH s rs gs (k+1))(ok:PoolOk s.pool){n:Int}(he:incE s.pool n=0)(a:ActV):BothH ({ s with pool:=s.pool.did n 1 }.acted a) (rs.withC (addC rs.counts n 1)) gs k:=by
 have h0:s.pool.count n≠0:=fun e=>by unfold incE at he;rw [if_pos e] at he;cases he
 have ht:=there_of_count h0
 have hb:=(count_bd ok n).1
 refine⟨h.tw.keep ok he a,?_,?_⟩
 · have h2:=sum_addC (cs:=s.pool.counts) (n:=n) (b:=1) ht (by rw [← count_cnt];exact hb) (by rw [← count_cnt];omega)
   have h3:=h.pb
   show s.pool.floor+((s.pool.acts++ [(n,(1:Int))]).length:Nat)+(sumC (s.pool.did n 1).counts:Nat)+32*k+131072< _
   rw [did_counts,List.length_append]
   simp only [List.length_singleton]
   omega
 · have h4:=h.vb
   show s.floor+((s.acts++ [a]).length:Nat)+32*k< _
   rw [List.length_append]
   simp only [List.length_singleton]
   omega
theorem BothH.drop {s t:VaultS}{rs:PoolS}{gs:List PageV}{k:Nat}(h:BothH s rs gs (k+1))(ok:PoolOk s.pool){l:List Int}{e:Int}{W:List (Int × Option PageV)}(hd:DInv s t W)(hf:Far s t)(h1:DropR s.get l s.pool.counts e t.pool.counts)(a:ActV):BothH (t.acted a) (rs.withC t.pool.counts) gs k:=by
 refine⟨h.tw.drop ok hd h1 a,?_,?_⟩
 · have h2:=hf.acts
   have h3:=h.pb
   show t.pool.floor+t.pool.acts.length+sumC t.pool.counts+32*k+131072< _
   omega
 · have h2:=hd.mid.vf
   have h3:=hd.mid.va
   have h4:=h.vb
   show t.floor+((t.acts++ [a]).length:Nat)+32*k< _
   rw [List.length_append,h2,h3]
   simp only [List.length_singleton]
   omega
theorem Twin.dec {s:VaultS}{rs:PoolS}{gs:List PageV}(h:Twin s rs gs)(ok:PoolOk s.pool){n:Int}(h0:s.pool.count n≠0):
 Twin { s with pool:=s.pool.did n (-1),on:=fun m=>if m=n∧(s.pool.did n (-1)).state n=1 then none else s.on m } (rs.withC (addC rs.counts n (-1))) gs:=by
 have ht:=there_of_count h0
 have hst:∀m,m≠n→(s.pool.did n (-1)).state m=s.pool.state m:=fun m hm=>by rw [did_state ht,if_neg hm]
 have hn:=state_of_count ok h0
 refine⟨?_,h.ls,h.rf,?_,fun m hm=> ?_,fun m hm hth=> ?_,fun m g hm=> ?_,fun c hc=> ?_⟩
 · show addC rs.counts n (-1)=(s.pool.did n (-1)).counts
   rw [did_counts,h.cs]
 · show _=(s.pool.did n (-1)).counts.length
   rw [did_counts,addC_len]
   exact h.gl
 · have hm2:(s.pool.did n (-1)).state m=1:=hm
   show (if m=n∧(s.pool.did n (-1)).state n=1 then none else s.on m)=none
   by_cases e:m=n
   · rw [if_pos ⟨e,by have h5:=hm2;rw [e] at h5;exact h5⟩]
   · rw [if_neg (fun x=>e x.1)]
     exact h.bare m (by rw [← hst m e];exact hm2)
 · have hm2:(s.pool.did n (-1)).state m≠1:=hm
   show (if m=n∧(s.pool.did n (-1)).state n=1 then none else s.on m)=_
   rw [if_neg (fun x=>hm2 (by rw [x.1];exact x.2))]
   refine h.pg m ?_ (did_there.1 hth)
   by_cases e:m=n
   · rw [e];exact hn
   · rw [← hst m e];exact hm2
 · have hm2:(if m=n∧(s.pool.did n (-1)).state n=1 then none else s.on m)=some g:=hm
   split at hm2
   · cases hm2
   · exact h.fit m g hm2
 · have hc2:c∈s.pool.counts.set (n.toNat-1) (s.pool.count n+ -1):=hc
   have h1:=(count_bd ok n).1
   have h2:=h.crn ok n
   rcases List.mem_or_eq_of_mem_set hc2 with hc | rfl
   · exact h.cr c hc
   · exact⟨by omega,by show _≤s.pool.refs;omega⟩
theorem Twin.incs {gs:List PageV}:∀(ks:List Int) {s:VaultS} {rs:PoolS},Twin s rs gs→PoolOk s.pool→s.pool.floor+s.pool.acts.length+ks.length<1099511627776→
 (incsP s.pool ks).1=(incsR rs ks).1∧((incsP s.pool ks).1=0→Twin { s with pool:=(incsP s.pool ks).2 } (incsR rs ks).2 gs∧(incsP s.pool ks).2.floor=s.pool.floor∧
   (incsP s.pool ks).2.acts.length=s.pool.acts.length+ks.length∧(sumC (incsP s.pool ks).2.counts:Int)=sumC s.pool.counts+ks.length)
 | [],s,rs,h,ok,hb=>⟨rfl,fun _=>⟨h,rfl,by simp [incsP],by simp [incsP]⟩⟩
 | k :: ks,s,rs,h,ok,hb=>by
   rw [incsP_one,incsR_one, ← incE_incL h]
   by_cases he:incE s.pool k=0
   · have e2:IncP rs k=rs.withC (addC rs.counts k 1):=by unfold IncP;rw [← incE_incL h,if_pos he]
     rw [if_pos he,if_pos he,e2]
     have h0:s.pool.count k≠0:=fun e=>by unfold incE at he;rw [if_pos e] at he;cases he
     have h1:s.pool.count k≠s.pool.refs:=fun e=>by unfold incE at he;rw [if_neg h0,if_pos e] at he;cases he
     have h2:=h.crn ok k
     have hb1:=(count_bd ok k).1
     have hr2:=ok.r2
     have ht:=there_of_count h0
     simp only [List.length_cons] at hb
     have ok2:PoolOk (s.pool.did k 1):=did_ok ok (by omega) (by omega) (by omega)
     have h3:Twin { s with pool:=s.pool.did k 1 } (rs.withC (addC rs.counts k 1)) gs:=(h.keep ok he ⟨0,[]⟩).move rfl rfl rfl rfl
     have h4:(s.pool.did k 1).acts.length=s.pool.acts.length+1:=by
      show (s.pool.acts++ [(k,(1:Int))]).length=_
      rw [List.length_append];rfl
     have h5:=sum_addC (cs:=s.pool.counts) (n:=k) (b:=1) ht (by rw [← count_cnt];exact hb1) (by rw [← count_cnt];omega)
     rw [← did_counts] at h5
     obtain⟨i1,i2⟩:=Twin.incs ks (s:= { s with pool:=s.pool.did k 1 }) h3 ok2 (by show s.pool.floor+((s.pool.did k 1).acts.length:Nat)+ _< _;rw [h4];omega)
     refine⟨i1,fun e=> ?_⟩
     obtain⟨j1,j2,j3,j4⟩:=i2 e
     refine⟨j1,j2,?_,?_⟩
     · rw [j3]
       show (s.pool.did k 1).acts.length+ _=_
       rw [h4,List.length_cons]
       omega
     · rw [j4]
       show (sumC (s.pool.did k 1).counts:Int)+ _=_
       rw [h5,List.length_cons]
       omega
   · rw [if_neg he,if_neg he]
     exact⟨rfl,fun e=>absurd e he⟩
theorem leaveR_far(s:VaultS)(n:Int):(leaveR s n).2.1.acts=s.acts∧(leaveR s n).2.1.floor=s.floor:=by
 unfold leaveR
 split<;>exact⟨rfl,rfl⟩
theorem Twin.leave {s:VaultS}{rs:PoolS}{gs:List PageV}(h:Twin s rs gs)(ok:PoolOk s.pool){n:Int}(h0:s.pool.count n≠0)(hm:s.pool.floor+s.pool.acts.length+65540<1099511627776):
 (leaveR s n).1=(leaveRR rs (pgAt gs n) n).1∧((leaveR s n).1=0→Twin (leaveR s n).2.1 (leaveRR rs (pgAt gs n) n).2 gs∧(leaveR s n).2.1.pool.floor=s.pool.floor∧
   (leaveR s n).2.1.pool.acts.length≤s.pool.acts.length+10∧(sumC (leaveR s n).2.1.pool.counts:Int)≤sumC s.pool.counts+9):=by
 have hc:cntL rs.counts n=s.pool.count n:=by rw [h.cs, ← count_cnt]
 have hon:=h.at' ok h0
 have ht:=there_of_count h0
 have hb1:=(count_bd ok n)
 have h5:=sum_addC (cs:=s.pool.counts) (n:=n) (b:= -1) ht (by rw [← count_cnt];exact hb1.1) (by rw [← count_cnt];omega)
 rw [← did_counts] at h5
 have h4:(s.pool.did n (-1)).acts.length=s.pool.acts.length+1:=by
  show (s.pool.acts++ [(n,(-1:Int))]).length=_
  rw [List.length_append];rfl
 have hd:=h.dec ok h0
 unfold leaveR leaveRR
 rw [hc,hon]
 by_cases h1:s.pool.count n=1
 · rw [if_pos h1,if_pos h1]
   refine⟨rfl,fun _=>⟨hd,rfl,?_,?_⟩⟩
   · show (s.pool.did n (-1)).acts.length≤ _
     omega
   · show (sumC (s.pool.did n (-1)).counts:Int)≤ _
     omega
 · rw [if_neg h1,if_neg h1]
   have hst:(s.pool.did n (-1)).state n≠1:=fun e=>by
    rw [did_state ht,if_pos rfl] at e
    unfold stateOf at e
    rw [if_pos (by omega)] at e
    split at e<;>omega
   have h3:Twin { s with pool:=s.pool.did n (-1) } (rs.withC (addC rs.counts n (-1))) gs:=hd.move rfl rfl rfl (funext fun m=>if_neg (fun x=>hst x.2))
   have hk:=kidsOf_len (pgAt gs n)
   have hf:=(h.fit n _ hon).n
   have ok2:PoolOk (s.pool.did n (-1)):=did_ok ok (by omega) (by omega) (by omega)
   obtain⟨i1,i2⟩:=h3.incs (kidsOf (pgAt gs n)) ok2 (by show s.pool.floor+((s.pool.did n (-1)).acts.length:Nat)+ _< _;rw [h4];omega)
   refine⟨i1,fun e=> ?_⟩
   obtain⟨j1,j2,j3,j4⟩:=i2 e
   refine⟨j1,j2,?_,?_⟩
   · show (incsP (s.pool.did n (-1)) (kidsOf (pgAt gs n))).2.acts.length≤ _
     rw [j3]
     show (s.pool.did n (-1)).acts.length+ _≤ _
     omega
   · show (sumC (incsP (s.pool.did n (-1)) (kidsOf (pgAt gs n))).2.counts:Int)≤ _
     rw [j4]
     show (sumC (s.pool.did n (-1)).counts:Int)+ _≤ _
     omega
theorem BothH.take {s:VaultS}{rs:PoolS}{gs:List PageV}{k:Nat}(h:BothH s rs gs (k+1))(ok:PoolOk s.pool){n:Int}(h0:s.pool.count n≠0):
 (leaveR s n).1=(leaveRR rs (pgAt gs n) n).1∧((leaveR s n).1=0→∀a,BothH ((leaveR s n).2.1.acted a) (leaveRR rs (pgAt gs n) n).2 gs k):=by
 have hp:=h.pb
 have hv:=h.vb
 obtain⟨i1,i2⟩:=h.tw.leave ok h0 (by omega)
 refine⟨i1,fun e a=> ?_⟩
 obtain⟨j1,j2,j3,j4⟩:=i2 e
 obtain⟨f1,f2⟩:=leaveR_far s n
 refine⟨j1.move rfl rfl rfl rfl,?_,?_⟩
 · show (leaveR s n).2.1.pool.floor+(leaveR s n).2.1.pool.acts.length+sumC (leaveR s n).2.1.pool.counts+32*k+131072< _
   omega
 · show (leaveR s n).2.1.floor+(((leaveR s n).2.1.acts++ [a]).length:Nat)+32*k< _
   rw [f1,f2,List.length_append]
   simp only [List.length_singleton]
   omega
theorem pgAt_lay2(gs:List PageV)(n:Int)(i:Nat):pgAt (gs.set i (pgAt gs n)) n=pgAt gs n:=by
 unfold pgAt
 by_cases h:i=n.toNat-1
 · subst h
   by_cases hl:n.toNat-1<gs.length
   · rw [List.getD_eq_getElem?_getD,List.getElem?_set_self hl];rfl
   · rw [List.set_eq_of_length_le (by omega)]
 · rw [List.getD_eq_getElem?_getD,List.getElem?_set_ne h, ← List.getD_eq_getElem?_getD]
theorem BothH.shadow {s:VaultS}{rs:PoolS}{gs:List PageV}{k j:Nat}(h:BothH s rs gs (k+1))(ok:PoolOk s.pool){n:Int}(h0:s.pool.count n≠0)(hm:s.pool.state ((j:Int)+1)=1):
 (leaveR (s.made ((j:Int)+1) (pgAt gs n)) n).1=(leaveRR (rs.withC (rs.counts.set j 1)) (pgAt gs n) n).1∧
   ((leaveR (s.made ((j:Int)+1) (pgAt gs n)) n).1=0→∀a,BothH ((leaveR (s.made ((j:Int)+1) (pgAt gs n)) n).2.1.acted a) (leaveRR (rs.withC (rs.counts.set j 1)) (pgAt gs n) n).2 (gs.set j (pgAt gs n)) k):=by
 have hp:=h.pb
 have hv:=h.vb
 have hon:=h.tw.at' ok h0
 have hfit:=h.tw.fit n _ hon
 obtain⟨_,c2,_⟩:=made_count ok hm h0 (pgAt gs n)
 have ht:=there_of_state (by omega:s.pool.state ((j:Int)+1)≠0)
 have hz:=count_of_free ok hm
 have t1:=h.tw.make ok hm hfit
 rw [show ((j:Int)+1).toNat-1=j by omega] at t1
 have t2:Twin (s.made ((j:Int)+1) (pgAt gs n)) (rs.withC (rs.counts.set j 1)) (gs.set j (pgAt gs n)):=t1.move rfl rfl rfl rfl
 have h5:=sum_addC (cs:=s.pool.counts) (n:=(j:Int)+1) (b:=1) ht (by rw [← count_cnt];omega) (by rw [← count_cnt];omega)
 rw [← did_counts] at h5
 have h4:(s.made ((j:Int)+1) (pgAt gs n)).pool.acts.length=s.pool.acts.length+1:=by
  show (s.pool.acts++ [((j:Int)+1,(1:Int))]).length=_
  rw [List.length_append];rfl
 have h6:(s.made ((j:Int)+1) (pgAt gs n)).pool.floor=s.pool.floor:=rfl
 have h7:(sumC (s.made ((j:Int)+1) (pgAt gs n)).pool.counts:Int)=sumC s.pool.counts+1:=h5
 have okm:PoolOk (s.made ((j:Int)+1) (pgAt gs n)).pool:=did_ok ok (by omega) (by omega) (by omega)
 obtain⟨i1,i2⟩:=t2.leave okm (n:=n) (by rw [c2];exact h0) (by omega)
 rw [pgAt_lay2] at i1 i2
 refine⟨i1,fun e a=> ?_⟩
 obtain⟨j1,j2,j3,j4⟩:=i2 e
 obtain⟨f1,f2⟩:=leaveR_far (s.made ((j:Int)+1) (pgAt gs n)) n
 refine⟨j1.move rfl rfl rfl rfl,?_,?_⟩
 · show (leaveR (s.made ((j:Int)+1) (pgAt gs n)) n).2.1.pool.floor+(leaveR (s.made ((j:Int)+1) (pgAt gs n)) n).2.1.pool.acts.length+sumC (leaveR (s.made ((j:Int)+1) (pgAt gs n)) n).2.1.pool.counts+32*k+131072< _
   omega
 · show (leaveR (s.made ((j:Int)+1) (pgAt gs n)) n).2.1.floor+(((leaveR (s.made ((j:Int)+1) (pgAt gs n)) n).2.1.acts++ [a]).length:Nat)+32*k< _
   rw [f1,f2,List.length_append]
   simp only [List.length_singleton]
   show s.floor+((s.acts.length+1:Nat):Int)+ _< _
   omega
end Go.Cop
namespace Go.Proofs.YtbobcmimkonnoaaGreat.M9
open ChangeShapes WideShapes ChangeAt RowKit Sl Cop D2 K3 N3 Q3 G2 M2 U3 Y3 L5 X3 X5 Y5
def rowsOf(p:(Value × Value) × ItemV):Pr:=(BytesRow p.1.1 p.2.key).star (BytesRow p.1.2 p.2.value)
theorem rows_step {ys:List (Value × Value)}{its:List ItemV}{k:Nat}{v1 v2:Value}(hy:k<ys.length)(hl:k<its.length):((ys.set k (v1,v2)).zip its).take (k+1)=(ys.zip its).take k++ [((v1,v2),its[k])]:=by
 have hz:k<(ys.zip its).length:=by simp;omega
 rw [← zip_set_l _ _ _ _ hl,List.take_succ_eq_append_getElem (by simpa using hz),List.getElem_set_self,List.take_set_of_le (Nat.le_refl _)]
structure Part0(xs0 xs:List (Value × Value))(l:List ItemV)(k:Nat):Prop where
 len:xs.length=l.length
 old:∀i,k≤i→xs[i]? =xs0[i]?
theorem Part0.step {xs0 xs:List (Value × Value)}{l:List ItemV}{k:Nat}(hp:Part0 xs0 xs l k)(_:k<l.length){v:Value × Value}:Part0 xs0 (xs.set k v) l (k+1):=
 ⟨by simp [hp.len],fun i hik=>by rw [List.getElem?_set_ne (by omega)];exact hp.old i (by omega)⟩
theorem copied_rows(h:Hp)(v:Value)(g:PageV)(hv:PageIn h v g)(hn:g.items.length≤65536)(hb:∀x∈g.items,x.key.length≤65536∧x.value.length≤65536)(hd:g.data.length≤65536)(F:Pr)(w:World)(hF:Sat ((Pr.own h).star F) w):
 Calls Tryz.prog 88 #[v] w fun e w'=> ∃vi vd ys,e= .returned (pageV g.kind g.level vi vd g.next)∧ys.length=g.items.length∧Sat ((ItRow vi ys g.items).star ((big rowsOf (ys.zip g.items)).star ((BytesRow vd g.data).star ((Pr.own h).star F)))) w'∧Stays w w':=by
 obtain⟨vi,vd,rfl,hi,hdd⟩:=hv
 obtain⟨k0,l0,its,dat,nx⟩:=g
 dsimp only at*
 obtain⟨xs,hxl,hrow,hbb⟩:=id hi
 have hits:ItsAt h xs its:=⟨hxl,hbb⟩
 obtain⟨ai,ci,rfl,_,_⟩:=items_rd hi
 obtain⟨ad,cd,rfl⟩:=bytes_shape hdd
 have h1:=(hF.alloc (pageC k0 l0 (.slice ai its.length ci) (.slice ad dat.length cd) nx)).alloc (pageC 0 0 (.slice none 0 0) (.slice none 0 0) 0)
 rw [show (w.alloc (pageC k0 l0 (.slice ai its.length ci) (.slice ad dat.length cd) nx)).heap.size=w.heap.size+1 by simp] at h1
 have h2:=h1.drew.perm (B:=(Pr.own h).star ((Pr.pts w.heap.size (pageC k0 l0 (.slice ai its.length ci) (.slice ad dat.length cd) nx)).star ((Pr.pts (w.heap.size+1) (pageC 0 0 (.slice none 0 0) (.slice none 0 0) 0)).star F))) (by ac_rfl)
 have CI:=hQ (clone_items h _ xs its hits hrow hn _ _ h2)
 have HD:=hQ hdd
 have HN:=hQ hd
 have HB:=hQ hb
 have HIT:=hQ hits
 have HST:=hQ (((Stays.refl w).alloc (pageC k0 l0 (.slice ai its.length ci) (.slice ad dat.length cd) nx)).alloc (pageC 0 0 (.slice none 0 0) (.slice none 0 0) 0)).drew
 clear h1 h2 hi hdd hF hd hb hits hrow hbb
 go_enter Tryz.func88,Tryz.ntmps88
 go_wp2_with fail
 refine wp_region_staged (sz:=39) (by kernel_rfl) [0,1,3,4] [(2,[6],[0,3,4]),(5,[],[0,3,6]),(7,[8],[]),(9,[],[])] rfl (by kernel_rfl) (by kernel_rfl) (by kernel_rfl) ?_
 refine wpQ_all _ rfl rfl ?_
 simp only [pick,pQ]
 iterate 4 (go_big_quiet_step (fail))
 refine wpQuiet_nil ?_
 refine wpRest_act rfl ?_
 go_wp2_with fail
 refine CI.out.mono ?_
 rintro e w1 ⟨v1,rfl,hs2,st2⟩
 obtain⟨a1,c1,e1,_,_⟩:=Row.read hs2
 subst e1
 have hs3:Sat ((Pr.own h).star ((Pr.pts w.heap.size (pageC k0 l0 (.slice ai its.length ci) (.slice ad dat.length cd) nx)).star ((Pr.pts (w.heap.size+1) (pageC 0 0 (.slice none 0 0) (.slice none 0 0) 0)).star ((ItRow (.slice a1 its.length c1) xs its).star F)))) w1:=hs2.perm (by ac_rfl)
 obtain⟨q0,q1,q2,q3,q4,_,z0⟩:=pts5 hs3.right
 have CB2:=hQ (clone_bytes h _ dat _ _ hs3 hs3.own HD.out HN.out)
 have HST2:=hQ (HST.out.trans st2)
 clear hs2 hs3 st2 CI HD
 go_wp2
 refine onN_mk ?_
 refine wpQ_all _ rfl rfl ?_
 simp only [pick,pQ]
 iterate 1 (go_big_quiet_step (fail))
 refine wpQuiet_nil ⟨?_,?_⟩
 · refine chk_all _ rfl rfl ?_
   simp only [pick,Same,pQ,and_true]
   repeat' (first | apply And.intro | (go_big_quiet_step (fail);exact wpQuiet_nil rfl))
 refine wpRest_act rfl ?_
 go_wp2_with fail
 refine CB2.out.mono ?_
 rintro e w2 ⟨v2,rfl,hs4,st4⟩
 obtain⟨a2,c2,e2,_,_⟩:=Row.read hs4
 subst e2
 have hs5:Sat ((Pr.pts w.heap.size (pageC k0 l0 (.slice ai its.length ci) (.slice ad dat.length cd) nx)).star ((Pr.pts (w.heap.size+1) (pageC 0 0 (.slice none 0 0) (.slice none 0 0) 0)).star ((BytesRow (.slice a2 dat.length c2) dat).star ((ItRow (.slice a1 its.length c1) xs its).star ((Pr.own h).star F))))) w2:=hs4.perm (by ac_rfl)
 clear q0 q1 q2 q3 q4 z0
 obtain⟨q0,q1,q2,q3,q4,⟨f0,f1,f2,f3,f4⟩,z0⟩:=pts5 hs5
 have H5:=hQ hs5
 have HST4:=hQ (HST2.out.trans st4)
 clear hs4 hs5 st4 CB2
 go_wp2
 refine onN_mk ?_
 refine wpQ_nil ⟨?_,?_⟩
 · refine chk_all _ rfl rfl ?_
   simp only [pick,Same,pQ,and_true]
   repeat' (first | apply And.intro | (go_big_quiet_step (fail);exact wpQuiet_nil rfl))
 refine wpRest_act rfl ?_
 go_wp2
 refine onN_mk ?_
 refine wpQ_all _ rfl rfl ?_
 simp only [pick,pQ]
 iterate 1 (go_big_quiet_step (fail))
 refine wpQuiet_nil ⟨?_,?_⟩
 · exact chk_nil
 refine wpRest_act rfl ?_
 go_wp2
 refine onN_mk (wpQ_nil ⟨chk_nil,wpRest_nil ?_⟩)
 have s6:=(H5.out.setCell (i:=2) (.slice a1 its.length c1)).setCell (i:=3) (.slice a2 dat.length c2)
 have s7:Sat ((Pr.pts w.heap.size (pageC k0 l0 (.slice a1 its.length c1) (.slice a2 dat.length c2) nx)).star ((Pr.pts (w.heap.size+1) (pageC 0 0 (.slice none 0 0) (.slice none 0 0) 0)).star ((BytesRow (.slice a2 dat.length c2) dat).star ((ItRow (.slice a1 its.length c1) xs its).star ((Pr.own h).star F))))) _:=s6
 have hst6:=(HST4.out.setCell ⟨w.heap.size,2,none⟩ (.slice a1 its.length c1)).setCell ⟨w.heap.size,3,none⟩ (.slice a2 dat.length c2)
 generalize (w2.setCell ⟨w.heap.size,2,none⟩ (.slice a1 its.length c1)).setCell ⟨w.heap.size,3,none⟩ (.slice a2 dat.length c2)=w5 at*
 clear q0 q1 q2 q3 q4 z0 f0 f1 f2 f3 f4 H5 HST4
 obtain⟨q0,q1,q2,q3,q4,_,z0⟩:=pts5 s7
 have H7:=hQ s7
 have HST6:=hQ hst6
 clear s6 s7 hst6
 have hn0:(its.length:Int)≤65536:=by omega
 go_wp2_with fail
 go_loopw [16] (fun i wr=> ∃(k:Nat) (ys:List (Value × Value)),k≤its.length∧i= .int .i64 k∧Stays w wr∧Hid (Part0 xs ys its k)∧
  Sat ((Pr.pts w.heap.size (pageC k0 l0 (.slice a1 its.length c1) (.slice a2 dat.length c2) nx)).star ((Pr.pts (w.heap.size+1) (pageC 0 0 (.slice none 0 0) (.slice none 0 0) 0)).star ((ItRow (.slice a1 its.length c1) ys its).star ((big rowsOf ((ys.zip its).take k)).star ((BytesRow (.slice a2 dat.length c2) dat).star ((Pr.own h).star F)))))) wr) (fun i _=>its.length-(intOf i).toNat)
 case atStart=>
  refine⟨0,xs,Nat.zero_le _,rfl,HST6.out,hQ ⟨HIT.out.len,fun _ _=>rfl⟩,?_⟩
  rw [List.take_zero,big_nil,Pr.emp_star]
  exact H7.out.perm (by ac_rfl)
 case round=>
  obtain⟨k,ys,hkl,rfl,hst,hpart,hs⟩:=hrel
  clear q0 q1 q2 q3 q4 z0
  rcases Nat.lt_or_ge k its.length with hlt | hge
  · have hylen:=hpart.out.len
    have hky:k<ys.length:=by omega
    have hkx:k<xs.length:=by have:=HIT.out.len;omega
    have eyk:ys[k]=xs[k]:=by
     have:=hpart.out.old k (Nat.le_refl _)
     rw [List.getElem?_eq_getElem hky,List.getElem?_eq_getElem hkx] at this
     exact Option.some.inj this
    obtain⟨hb1,hb2⟩:=HIT.out.at' k hkx hlt
    obtain⟨hn1,hn2⟩:=HB.out its[k] (List.getElem_mem hlt)
    rw [← eyk] at hb1 hb2
    obtain⟨ak,ck,ek⟩:=bytes_shape hb1
    obtain⟨av,cv,ev⟩:=bytes_shape hb2
    have hr0:=hs.perm (B:=(ItRow (.slice a1 its.length c1) ys its).star ((Pr.pts w.heap.size (pageC k0 l0 (.slice a1 its.length c1) (.slice a2 dat.length c2) nx)).star ((Pr.pts (w.heap.size+1) (pageC 0 0 (.slice none 0 0) (.slice none 0 0) 0)).star ((big rowsOf ((ys.zip its).take k)).star ((BytesRow (.slice a2 dat.length c2) dat).star ((Pr.own h).star F)))))) (by ac_rfl)
    have ha1:∃b,a1=some ⟨b,0,none⟩:=by
     obtain⟨_,_,e,_,hc⟩:=Row.read hr0
     cases e
     obtain⟨b,e,_⟩:=hc (by omega)
     exact⟨b,e⟩
    obtain⟨b,rfl⟩:=ha1
    obtain⟨⟨r0,r1,r2,r3⟩,_⟩:=itRow_rd hr0 hky hlt
    rw [ek] at r0 hb1
    rw [ev] at r1 hb2
    have hA0:=(hs.alloc (itemC (.slice ak its[k].key.length ck) (.slice av its[k].value.length cv) its[k].child its[k].size)).drew
    have HRST:=hQ (show Sat ((Pr.pts wr.heap.size (itemC (.slice ak its[k].key.length ck) (.slice av its[k].value.length cv) its[k].child its[k].size)).star ((Pr.pts w.heap.size (pageC k0 l0 (.slice (some ⟨b,0,none⟩) its.length c1) (.slice a2 dat.length c2) nx)).star ((Pr.own h).star ((ItRow (.slice (some ⟨b,0,none⟩) its.length c1) ys its).star ((Pr.pts (w.heap.size+1) (pageC 0 0 (.slice none 0 0) (.slice none 0 0) 0)).star ((big rowsOf ((ys.zip its).take k)).star ((BytesRow (.slice a2 dat.length c2) dat).star F))))))) _ from hA0.perm (by ac_rfl))
    obtain⟨q0,q1,q2,q3,q4,_,z0⟩:=pts5 hs
    have CK:=hQ (clone_bytes h _ its[k].key _ _ HRST.out HRST.out.right.right.own hb1 hn1)
    have HB2:=hQ hb2
    have HSTR:=hQ ((hst.alloc (itemC (.slice ak its[k].key.length ck) (.slice av its[k].value.length cv) its[k].child its[k].size)).drew)
    have z1:w.heap.size<wr.heap.size:=hs.lt
    have HPART:=hQ hpart.out
    have HEV:=hQ ev
    have HEK:=hQ ek
    clear hs hr0 hA0 hb1 hb2 hst hpart eyk ek ev
    go_wp2_with fail
    refine wp_region_staged (sz:=39) (by kernel_rfl) [0,1,2,3,4,5,6,7,9,10] [(8,[],[0,1,2,3,4,5,6,9,10]),(11,[12,13],[0,1,2,3,4,5,6,9]),(14,[15,16],[3,4,5,9,12]),(17,[],[15])] rfl (by kernel_rfl) (by kernel_rfl) (by kernel_rfl) ?_
    refine wpQ_all _ rfl rfl ?_
    simp only [pick,pQ]
    iterate 10 (go_big_quiet_step (fail))
    refine wpQuiet_nil ?_
    refine wpRest_act rfl ?_
    go_wp2_with fail
    refine CK.out.mono ?_
    rintro e w3 ⟨v3,rfl,hs3,st3⟩
    obtain⟨a3,c3,e3,_,_⟩:=Row.read hs3
    subst e3
    have H3:=hQ (show Sat ((Pr.pts wr.heap.size (itemC (.slice ak its[k].key.length ck) (.slice av its[k].value.length cv) its[k].child its[k].size)).star ((Pr.pts w.heap.size (pageC k0 l0 (.slice (some ⟨b,0,none⟩) its.length c1) (.slice a2 dat.length c2) nx)).star ((Pr.own h).star ((BytesRow (.slice a3 its[k].key.length c3) its[k].key).star ((ItRow (.slice (some ⟨b,0,none⟩) its.length c1) ys its).star ((Pr.pts (w.heap.size+1) (pageC 0 0 (.slice none 0 0) (.slice none 0 0) 0)).star ((big rowsOf ((ys.zip its).take k)).star ((BytesRow (.slice a2 dat.length c2) dat).star F)))))))) w3 from hs3.perm (by ac_rfl))
    have HST3:=hQ (HSTR.out.trans st3)
    clear q0 q1 q2 q3 q4 z0 r0 r1 r2 r3 CK hs3 st3 HRST
    obtain⟨q0,q1,q2,q3,q4,_,z0⟩:=pts5 H3.out.right
    obtain⟨i0,i1,i2,i3,_,z2⟩:=pts4 H3.out
    have CV:=hQ (clone_bytes h _ its[k].value _ _ H3.out H3.out.right.right.own HB2.out hn2)
    go_wp2
    refine onN_mk ?_
    refine wpQ_nil ⟨?_,?_⟩
    · refine chk_all _ rfl rfl ?_
      simp only [pick,Same,pQ,and_true]
      repeat' (first | apply And.intro | (go_big_quiet_step (fail);exact wpQuiet_nil rfl))
    refine wpRest_act rfl ?_
    go_wp2_with fail
    refine CV.out.mono ?_
    rintro e w4 ⟨v4,rfl,hs4,st4⟩
    obtain⟨a4,c4,e4,_,_⟩:=Row.read hs4
    subst e4
    have H4:=hQ (show Sat ((Pr.pts wr.heap.size (itemC (.slice ak its[k].key.length ck) (.slice av its[k].value.length cv) its[k].child its[k].size)).star ((Pr.pts w.heap.size (pageC k0 l0 (.slice (some ⟨b,0,none⟩) its.length c1) (.slice a2 dat.length c2) nx)).star ((Pr.own h).star ((BytesRow (.slice a3 its[k].key.length c3) its[k].key).star ((BytesRow (.slice a4 its[k].value.length c4) its[k].value).star ((ItRow (.slice (some ⟨b,0,none⟩) its.length c1) ys its).star ((Pr.pts (w.heap.size+1) (pageC 0 0 (.slice none 0 0) (.slice none 0 0) 0)).star ((big rowsOf ((ys.zip its).take k)).star ((BytesRow (.slice a2 dat.length c2) dat).star F))))))))) w4 from hs4.perm (by ac_rfl))
    have HST4:=hQ (HST3.out.trans st4)
    clear q0 q1 q2 q3 q4 z0 i0 i1 i2 i3 z2 CV hs4 st4 H3
    obtain⟨q0,q1,q2,q3,q4,_,z0⟩:=pts5 H4.out.right
    obtain⟨i0,i1,i2,i3,_,z2⟩:=pts4 H4.out
    have R4:=hQ (show Sat ((ItRow (.slice (some ⟨b,0,none⟩) its.length c1) ys its).star ((Pr.pts wr.heap.size (itemC (.slice ak its[k].key.length ck) (.slice av its[k].value.length cv) its[k].child its[k].size)).star ((Pr.pts w.heap.size (pageC k0 l0 (.slice (some ⟨b,0,none⟩) its.length c1) (.slice a2 dat.length c2) nx)).star ((BytesRow (.slice a3 its[k].key.length c3) its[k].key).star ((BytesRow (.slice a4 its[k].value.length c4) its[k].value).star ((Pr.own h).star ((Pr.pts (w.heap.size+1) (pageC 0 0 (.slice none 0 0) (.slice none 0 0) 0)).star ((big rowsOf ((ys.zip its).take k)).star ((BytesRow (.slice a2 dat.length c2) dat).star F))))))))) w4 from H4.out.perm (by ac_rfl))
    obtain⟨⟨r0,r1,r2,r3⟩,g0,g1⟩:=itRow_rd R4.out hky hlt
    go_wp2
    refine onN_mk ?_
    refine wpQ_all _ rfl rfl ?_
    simp only [pick,pQ]
    iterate 2 (go_big_quiet_step (fail))
    refine wpQuiet_nil ⟨?_,?_⟩
    · refine chk_all _ rfl rfl ?_
      simp only [pick,Same,pQ,and_true]
      repeat' (first | apply And.intro | (go_big_quiet_step (fail);exact wpQuiet_nil rfl))
    refine wpRest_act rfl ?_
    go_wp2
    have s5:=itRow_key R4.out hky hlt (.slice a3 its[k].key.length c3)
    have t5:=HST4.out.setCell ⟨b,k*4,none⟩ (.slice a3 its[k].key.length c3)
    generalize w4.setCell ⟨b,k*4,none⟩ (.slice a3 its[k].key.length c3)=w5' at*
    have hky2:k<(ys.set k (.slice a3 its[k].key.length c3,ys[k].2)).length:=by simpa using hky
    have R5:=hQ s5
    have HST5:=hQ t5
    clear q0 q1 q2 q3 q4 z0 i0 i1 i2 i3 z2 r0 r1 r2 r3 g0 g1 s5 t5 R4 H4
    obtain⟨q0,q1,q2,q3,q4,_,z0⟩:=pts5 R5.out.right.right
    obtain⟨i0,i1,i2,i3,_,z2⟩:=pts4 R5.out.right
    obtain⟨⟨r0,r1,r2,r3⟩,g0,g1⟩:=itRow_rd R5.out hky2 hlt
    refine onN_mk ?_
    refine wpQ_all _ rfl rfl ?_
    simp only [pick,pQ]
    iterate 2 (go_big_quiet_step (fail))
    refine wpQuiet_nil ⟨?_,?_⟩
    · refine chk_all _ rfl rfl ?_
      simp only [pick,Same,pQ,and_true]
      repeat' (first | apply And.intro | (go_big_quiet_step (fail);exact wpQuiet_nil rfl))
    refine wpRest_act rfl ?_
    go_wp2
    have s6:=itRow_val R5.out hky2 hlt (.slice a4 its[k].value.length c4)
    have t6:=HST5.out.setCell ⟨b,k*4+1,none⟩ (.slice a4 its[k].value.length c4)
    generalize w5'.setCell ⟨b,k*4+1,none⟩ (.slice a4 its[k].value.length c4)=w6' at*
    rw [List.set_set,List.getElem_set_self] at s6
    have R6:=hQ s6
    have HST6':=hQ t6
    clear q0 q1 q2 q3 q4 z0 i0 i1 i2 i3 z2 r0 r1 r2 r3 g0 g1 s6 t6 R5
    obtain⟨q0,q1,q2,q3,q4,_,z0⟩:=pts5 R6.out.right.right
    refine onN_mk ?_
    refine wpQ_nil ⟨?_,?_⟩
    · refine chk_all _ rfl rfl ?_
      simp only [pick,Same,pQ,and_true]
      repeat' (first | apply And.intro | (go_big_quiet_step (fail);exact wpQuiet_nil rfl))
    refine wpRest_nil ?_
    go_wp2
    go_roundw
    case rel=>
     have h8:=R6.out.perm (B:=(BytesRow (.slice a3 its[k].key.length c3) its[k].key).star ((BytesRow (.slice a4 its[k].value.length c4) its[k].value).star ((big rowsOf ((ys.zip its).take k)).star ((Pr.pts wr.heap.size (itemC (.slice ak its[k].key.length ck) (.slice av its[k].value.length cv) its[k].child its[k].size)).star ((ItRow (.slice (some ⟨b,0,none⟩) its.length c1) (ys.set k (.slice a3 its[k].key.length c3,.slice a4 its[k].value.length c4)) its).star ((Pr.pts w.heap.size (pageC k0 l0 (.slice (some ⟨b,0,none⟩) its.length c1) (.slice a2 dat.length c2) nx)).star ((Pr.own h).star ((Pr.pts (w.heap.size+1) (pageC 0 0 (.slice none 0 0) (.slice none 0 0) 0)).star ((BytesRow (.slice a2 dat.length c2) dat).star F))))))))) (by ac_rfl)
     have e9:=rows_step (v1:= .slice a3 its[k].key.length c3) (v2:= .slice a4 its[k].value.length c4) hky hlt
     have h9:=h8.perm (B:=(Pr.pts wr.heap.size (itemC (.slice ak its[k].key.length ck) (.slice av its[k].value.length cv) its[k].child its[k].size)).star ((((BytesRow (.slice a3 its[k].key.length c3) its[k].key).star (BytesRow (.slice a4 its[k].value.length c4) its[k].value)).star (big rowsOf ((ys.zip its).take k))).star ((ItRow (.slice (some ⟨b,0,none⟩) its.length c1) (ys.set k (.slice a3 its[k].key.length c3,.slice a4 its[k].value.length c4)) its).star ((Pr.pts w.heap.size (pageC k0 l0 (.slice (some ⟨b,0,none⟩) its.length c1) (.slice a2 dat.length c2) nx)).star ((Pr.pts (w.heap.size+1) (pageC 0 0 (.slice none 0 0) (.slice none 0 0) 0)).star ((BytesRow (.slice a2 dat.length c2) dat).star ((Pr.own h).star F))))))) (by ac_rfl)
     have e10:((BytesRow (.slice a3 its[k].key.length c3) its[k].key).star (BytesRow (.slice a4 its[k].value.length c4) its[k].value)).star (big rowsOf ((ys.zip its).take k))=big rowsOf (((ys.set k (.slice a3 its[k].key.length c3,.slice a4 its[k].value.length c4)).zip its).take (k+1)):=by
      rw [e9,big_snoc]
      rfl
     rw [e10] at h9
     refine⟨k+1,ys.set k (.slice a3 its[k].key.length c3,.slice a4 its[k].value.length c4),by omega,congrArg (Value.int .i64) (by omega),HST6'.out,hQ (HPART.out.step hlt),?_⟩
     exact h9.right.perm (by ac_rfl)
    case measure=>simp [intOf];omega
  · have hkl2:k=its.length:=by omega
    subst hkl2
    obtain⟨q0,q1,q2,q3,q4,_,z0⟩:=pts5 hs
    obtain⟨p0,p1,p2,p3,p4,⟨f0,f1,f2,f3,f4⟩,z1⟩:=pts5 hs.right
    have HS:=hQ hs.right
    have HSTR:=hQ hst
    clear hs hst
    go_wp2
    have s6:=((((HS.out.setCell (i:=0) (.int .i64 k0)).setCell (i:=1) (.int .i64 l0)).setCell (i:=2) (.slice a1 its.length c1)).setCell (i:=3) (.slice a2 dat.length c2)).setCell (i:=4) (.int .i64 nx)
    have s7:Sat ((Pr.pts (w.heap.size+1) (pageC k0 l0 (.slice a1 its.length c1) (.slice a2 dat.length c2) nx)).star ((ItRow (.slice a1 its.length c1) ys its).star ((big rowsOf ((ys.zip its).take its.length)).star ((BytesRow (.slice a2 dat.length c2) dat).star ((Pr.own h).star F))))) _:=s6
    refine bodyPost_ret (results_cell_row rfl _ _ (w.heap.size+1) _ _ _ _ rfl s7.pts_heap Tryz.underlying31 rfl infoPage) rfl ?_
    have hp:=hpart.out
    have e11:(ys.zip its).take its.length=ys.zip its:=List.take_of_length_le (by simp [Nat.min_le_right])
    rw [e11] at s7
    exact⟨_,_,ys,rfl,hp.len,s7.right,((((HSTR.out.setCell _ _).setCell _ _).setCell _ _).setCell _ _).setCell _ _⟩
end Go.Proofs.YtbobcmimkonnoaaGreat.M9
