/- How calls follow one another: the states ahead of each act, and room for more. Plain lemmas. -/
import Derived.Test.YtkfjilnmnbeokaaGreatPutInPlaceM35
import Derived.Test.YtkfjilnmnbeokaaGreatPutInPlaceM29
set_option maxRecDepth 100000
set_option maxHeartbeats 16000000
namespace Go.Cop
open Go.Proofs.YtkfjilnmnbeokaaGreat.D6 Go.Proofs.YtkfjilnmnbeokaaGreat.D8 Go.Proofs.YtkfjilnmnbeokaaGreat.M7 Go.Proofs.YtkfjilnmnbeokaaGreat.D2 Go.Proofs.YtkfjilnmnbeokaaGreat.J3 Go.Proofs.YtkfjilnmnbeokaaGreat.J7 Go.Proofs.YtkfjilnmnbeokaaGreat.Q3 Go.Proofs.YtkfjilnmnbeokaaGreat.P8 Go.Proofs.YtkfjilnmnbeokaaGreat.C7
inductive After (s : VaultS) : List VaultS → VaultS → Prop where
  | refl : After s [] s
  | step (q : List VaultS) (t u : VaultS) (W : List (Int × Option PageV)) : After s q t → Mid t u W → After s (t :: q) (u.acted ⟨t.pool.mark, W⟩)
theorem After.hist {s t:VaultS}{q r:List VaultS}(h:After s q t)(hr:HistV r s):HistV (q++r) t:=by
 induction h with
 | refl=>exact hr
 | step q t u W _ hm ih=>exact⟨⟨u,W,rfl,hm⟩,ih⟩
theorem After.trans {s t u:VaultS}{q p:List VaultS}(h:After s q t)(k:After t p u):After s (p++q) u:=by
 induction k with
 | refl=>exact h
 | step p t' u' W _ hm ih=>exact .step _ _ _ _ ih hm
theorem After.back {s t:VaultS}{q:List VaultS}(h:After s q t)(r:List VaultS):(t :: (q++r)).drop q.length=s :: r:=by
 induction h with
 | refl=>rfl
 | step q t u W _ hm ih=>exact ih
theorem After.len {s t:VaultS}{q:List VaultS}(h:After s q t):t.floor=s.floor∧t.acts.length=s.acts.length+q.length:=by
 induction h with
 | refl=>exact⟨rfl,rfl⟩
 | step q t u W _ hm ih=>
   refine⟨hm.vf.trans ih.1,?_⟩;show (u.acts++ [_]).length=_
   rw [List.length_append,hm.va,ih.2];rfl
structure RoomV(s:VaultS)(k:Nat):Prop where
 pb:s.pool.floor+s.pool.acts.length+sumC s.pool.counts+32*k+131072<1099511627776
 vb:s.floor+s.acts.length+32*k<1099511627776
theorem RoomV.le {s:VaultS}{k m:Nat}(h:RoomV s k)(hm:m≤k):RoomV s m:=⟨by have:=h.pb;omega,by have:=h.vb;omega⟩
theorem made_mid {s:VaultS}(okl:s.pool.counts.length≤65536)(g:PageV){n:Int}(h1:s.pool.state n=1)(h0:s.pool.count n=0):Mid s (s.made n g) [(n,s.on n)]:=by
 have ht:=there_of_state (by omega:s.pool.state n≠0);have hm:=(Mid.refl s).did (n:=n) (b:=1) ht (by omega) (by omega) (by omega);exact hm.set (n:=n) (some g) ⟨ht.1,by have:=ht.2;omega⟩ (by simp)
theorem made_sum {s:VaultS}(g:PageV){n:Int}(h1:s.pool.state n=1)(h0:s.pool.count n=0):(sumC (s.made n g).pool.counts:Int)=sumC s.pool.counts+1∧(s.made n g).pool.acts.length=s.pool.acts.length+1:=by
 have ht:=there_of_state (by omega:s.pool.state n≠0);have h5:=sum_addC (cs:=s.pool.counts) (n:=n) (b:=1) ht (by rw [← count_cnt];omega) (by rw [← count_cnt];omega);rw [← did_counts] at h5;refine⟨h5,?_⟩;show (s.pool.acts++ [(n,(1:Int))]).length=_
 rw [List.length_append];rfl
theorem steps_after {s t:VaultS}(h:Steps s t)(hl:s.pool.counts.length≤65536):∃q,After s q t∧t.pool.counts.length=s.pool.counts.length:=by
 induction h with
 | refl=>exact⟨[],.refl,rfl⟩
 | step n g h hn h0 ih=>
   obtain⟨q,h1,h2⟩:=ih;exact⟨_ :: q,.step q _ _ _ h1 (made_mid (by rw [h2];exact hl) g hn h0),(did_len _ _ _).trans h2⟩
theorem store_room {s t:VaultS}{ns:List Int}{k:Nat}(ok:PoolOk s.pool)(h:RoomV s (k+1))(ht:Taken s t ns)(hl:ns.length≤8):RoomV t k∧∃q,After s q t:=by
 have h1:=taken_sum ht (fun c hc=>(ok.cs c hc).1);have hp:=h.pb;have hv:=h.vb;refine⟨⟨?_,?_⟩,?_⟩
 · have:=ht.pf
   have:=ht.pa
   omega
 · have:=ht.vf
   have:=ht.va
   omega
 · obtain⟨q,h2,_⟩:=steps_after ht.steps ok.n2
   exact⟨q,h2⟩
theorem mk_room {s s':VaultS}{g:PageV}{n:Int}{k:Nat}(ok:PoolOk s.pool)(h:RoomV s (k+1))(hm:MkR s g n s'):RoomV s' k∧After s [s] s':=by
 obtain⟨_,hz,rfl,_⟩:=hm;have h0:=count_of_free ok hz.1;obtain⟨h1,h2⟩:=made_sum g hz.1 h0;have hp:=h.pb;have hv:=h.vb;refine⟨⟨?_,?_⟩,.step [] s _ _ .refl (mk_mid ok g hz)⟩
 · show (s.made n g).pool.floor+((s.made n g).pool.acts.length:Nat)+(sumC (s.made n g).pool.counts:Nat)+ _+ _< _
   have h3:(s.made n g).pool.floor=s.pool.floor:=rfl;omega
 · show s.floor+((s.acts++ [_]).length:Nat)+ _< _
   rw [List.length_append];simp only [List.length_singleton];omega
theorem wr_room {s s':VaultS}{g:PageV}{n:Int}{k:Nat}(ok:PoolOk s.pool)(h:RoomV s (k+1))(hm:WrR s n g s'):RoomV s' k∧After s [s] s':=by
 obtain⟨ho,_,rfl,_⟩:=hm;have hp:=h.pb;have hv:=h.vb;refine⟨⟨?_,?_⟩,.step [] s _ _ .refl ((Mid.refl s).set (some g) (own_bd ok ho) (by simp))⟩
 · show s.pool.floor+(s.pool.acts.length:Nat)+(sumC s.pool.counts:Nat)+ _+ _< _
   omega
 · show s.floor+((s.acts++ [_]).length:Nat)+ _< _
   rw [List.length_append];simp only [List.length_singleton];omega
theorem incs_sum:∀(ks:List Int) {p:PoolS},(∀c∈p.counts,0≤c)→(∀c∈(incsP p ks).2.counts,0≤c)∧(sumC (incsP p ks).2.counts:Int)≤sumC p.counts+ks.length∧(incsP p ks).2.acts.length≤p.acts.length+ks.length∧(incsP p ks).2.floor=p.floor
 | [],p,hc=>⟨hc,by simp [incsP],by simp [incsP],rfl⟩
 | k :: ks,p,hc=>by
   rw [incsP_one];by_cases he:incE p k=0
   · rw [if_pos he]
     have h0:p.count k≠0:=fun e=>by unfold incE at he;rw [if_pos e] at he;cases he
     have ht:=there_of_count h0
     have hp:0≤cntL p.counts k:=by
      rw [← count_cnt];unfold PoolS.count;rw [if_pos ht,List.getD_eq_getElem?_getD,List.getElem?_eq_getElem (by have:=ht.1;have:=ht.2;omega)];exact hc _ (List.getElem_mem _)
     have h5:=sum_addC (cs:=p.counts) (n:=k) (b:=1) ht hp (by omega);rw [← did_counts] at h5
     have hc2:∀c∈(p.did k 1).counts,0≤c:=by
      rw [did_counts];exact Go.Proofs.YtkfjilnmnbeokaaGreat.V7.addC_nn hc (by omega)
     obtain⟨i1,i2,i3,i4⟩:=incs_sum ks hc2
     have h4:(p.did k 1).acts.length=p.acts.length+1:=by
      show (p.acts++ [(k,(1:Int))]).length=_
      rw [List.length_append];rfl
     refine⟨i1,?_,?_,i4⟩
     · simp only [List.length_cons];omega
     · simp only [List.length_cons];omega
   · rw [if_neg he]
     exact⟨hc,by simp only [List.length_cons];omega,by simp only [List.length_cons];omega,rfl⟩
theorem sh_room {s s':VaultS}{n c:Int}{k:Nat}(h:VInv s)(hr:RoomV s (k+1))(hs:ShR s n c s'):RoomV s' k∧∃q,After s q s':=by
 obtain⟨hn0,(⟨_,_,rfl⟩ | ⟨_,g,hg,hz,he,rfl,ok⟩)⟩:=hs
 · exact⟨hr.le (by omega),[],.refl⟩
 · have h0:=count_of_free h.ok hz.1
   obtain⟨h1,h2⟩:=made_sum g hz.1 h0;have hp:=hr.pb;have hv:=hr.vb;have hfit:=fit_of_check (h.chk n g hg);have hnc:n≠c:=fun e=>hn0 (by rw [e];exact h0)
   obtain⟨m1,m2,m3⟩:=made_ext h (g:=g) hz.1;have okm:PoolOk (s.made c g).pool:=did_ok h.ok (by omega) (by omega) (by omega)
   have hcrm:CR (s.made c g).pool:=fun m=>by
    rw [m1,m3.refs];have:=h.cr m
    have:=h.ok.r1
    split<;>omega
   have hcn:(s.made c g).pool.count n=s.pool.count n:=by rw [m1,if_neg hnc]
   have hgn:((s.made c g).on n).getD ⟨0,0,[],[],0⟩=g:=by rw [m2,if_neg hnc,hg];rfl
   have htn:=there_of_count (s:=(s.made c g).pool) (n:=n) (by rw [hcn];exact hn0);have hb:=count_bd okm n;have h5:=sum_addC (cs:=(s.made c g).pool.counts) (n:=n) (b:= -1) htn (by rw [← count_cnt];exact hb.1) (by rw [← count_cnt,hcn];have:=(count_bd h.ok n).1;omega);rw [← did_counts] at h5
   have h6:((s.made c g).pool.did n (-1)).acts.length=(s.made c g).pool.acts.length+1:=by
    show ((s.made c g).pool.acts++ [(n,(-1:Int))]).length=_
    rw [List.length_append];rfl
   have hkl:(kidsOf g).length≤9:=by have:=kidsOf_len g;have:=hfit.n;omega
   have hmid:Mid s (shS s n g (some c)) (shW s n g (some c)):=by
    have:=leave_mid (made_mid h.ok.n2 g hz.1 h0) okm hcrm (n:=n) (by rw [hcn];exact hn0) (by rw [hgn];have:=hfit.n;omega) (by simp) (by
     have:(s.made c g).pool.floor=s.pool.floor:=rfl
     omega)
    exact this
   have hfl:(shS s n g (some c)).pool.floor=s.pool.floor:=hmid.pf
   have hsz:(sumC (shS s n g (some c)).pool.counts:Int)≤sumC s.pool.counts+9∧(shS s n g (some c)).pool.acts.length≤s.pool.acts.length+11:=by
    show (sumC (leaveR (s.made c g) n).2.1.pool.counts:Int)≤ _∧(leaveR (s.made c g) n).2.1.pool.acts.length≤ _
    unfold leaveR;by_cases h1n:(s.made c g).pool.count n=1
    · rw [if_pos h1n]
      show (sumC ((s.made c g).pool.did n (-1)).counts:Int)≤ _∧((s.made c g).pool.did n (-1)).acts.length≤ _
      omega
    · rw [if_neg h1n,hgn]
      show (sumC (incsP ((s.made c g).pool.did n (-1)) (kidsOf g)).2.counts:Int)≤ _∧(incsP ((s.made c g).pool.did n (-1)) (kidsOf g)).2.acts.length≤ _
      obtain⟨_,i2,i3,_⟩:=incs_sum (kidsOf g) (p:=(s.made c g).pool.did n (-1)) (by
       rw [did_counts]
       refine Go.Proofs.YtkfjilnmnbeokaaGreat.V7.addC_nn (fun c hc=>(okm.cs c hc).1) ?_
       rw [← count_cnt,hcn]
       have:=(count_bd h.ok n).1
       omega)
      omega
   refine⟨⟨?_,?_⟩,[s],.step [] s _ _ .refl hmid⟩
   · show (shS s n g (some c)).pool.floor+((shS s n g (some c)).pool.acts.length:Nat)+(sumC (shS s n g (some c)).pool.counts:Nat)+ _+ _< _
     omega
   · have e1:=hmid.vf
     have e2:=hmid.va;show (shS s n g (some c)).floor+(((shS s n g (some c)).acts++ [_]).length:Nat)+ _< _
     rw [List.length_append,e1,e2];simp only [List.length_singleton];omega
theorem rel_room {s s':VaultS}{x:ItemV}{k:Nat}(hr:RoomV s (k+1))(hs:RelR s x s'):RoomV s' k∧∃q,After s q s':=by
 rcases hs with⟨_,rfl⟩ | ⟨_,t,W,_,hi,hf,rfl,_⟩
 · exact⟨hr.le (by omega),[],.refl⟩
 · have hp:=hr.pb
   have hv:=hr.vb;have h1:=hf.acts;refine⟨⟨?_,?_⟩,[s],.step [] s _ _ .refl hi.mid⟩
   · show t.pool.floor+(t.pool.acts.length:Nat)+(sumC t.pool.counts:Nat)+ _+ _< _
     omega
   · have e1:=hi.mid.vf
     have e2:=hi.mid.va;show t.floor+((t.acts++ [_]).length:Nat)+ _< _
     rw [List.length_append,e1,e2];simp only [List.length_singleton];omega
end Go.Cop
