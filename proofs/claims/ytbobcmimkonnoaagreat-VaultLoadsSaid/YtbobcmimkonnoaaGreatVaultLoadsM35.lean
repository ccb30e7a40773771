/- Plain laws: both vaults are alike, and stay so. No program in sight. -/
import Derived.Test.YtbobcmimkonnoaaGreatVaultLoadsM33
import Derived.Test.YtbobcmimkonnoaaGreatVaultLoadsM24
import Derived.Test.YtbobcmimkonnoaaGreatVaultLoadsM17
import Derived.Test.YtbobcmimkonnoaaGreatVaultLoadsM34
set_option maxRecDepth 100000
set_option maxHeartbeats 16000000
namespace Go.Cop
open Go.Proofs.YtbobcmimkonnoaaGreat.U3 Go.Proofs.YtbobcmimkonnoaaGreat.D4 Go.Proofs.YtbobcmimkonnoaaGreat.Q7 Go.Proofs.YtbobcmimkonnoaaGreat.B9 Go.Proofs.YtbobcmimkonnoaaGreat.Z7 Go.Proofs.YtbobcmimkonnoaaGreat.V7 Go.Proofs.YtbobcmimkonnoaaGreat.E8 Go.Proofs.YtbobcmimkonnoaaGreat.L9 Go.Proofs.YtbobcmimkonnoaaGreat.Y4 Go.Proofs.YtbobcmimkonnoaaGreat.G7 Go.Proofs.YtbobcmimkonnoaaGreat.Y7 Go.Proofs.YtbobcmimkonnoaaGreat.X8 Go.Proofs.YtbobcmimkonnoaaGreat.Y3
structure Twin(s:VaultS)(rs:PoolS)(gs:List PageV):Prop where
 cs:rs.counts=s.pool.counts
 ls:rs.last=s.pool.last
 rf:rs.refs=s.pool.refs
 gl:gs.length=s.pool.counts.length
 bare:Bare s
 pg:∀n,s.pool.state n≠1→s.pool.there n→s.on n=some (pgAt gs n)
 fit:∀n g,s.on n=some g→Fit g
 cr:∀c∈s.pool.counts,0≤c∧c≤s.pool.refs
def lookT(s:VaultS)(n:Int):Option PageV:=if s.pool.count n=0 then none else s.on n
theorem Twin.state {s:VaultS}{rs:PoolS}{gs:List PageV}(h:Twin s rs gs)(n:Int):rs.state n=s.pool.state n:=state_eq h.cs h.ls n
theorem count_eq {s t:PoolS}(hc:s.counts=t.counts)(n:Int):s.count n=t.count n:=by
 rw [count_cnt,count_cnt,hc]
theorem Twin.count {s:VaultS}{rs:PoolS}{gs:List PageV}(h:Twin s rs gs)(n:Int):rs.count n=s.pool.count n:=count_eq h.cs n
theorem state_of_count {s:PoolS}(ok:PoolOk s){n:Int}(h:s.count n≠0):s.state n≠1:=fun e=>h (count_of_free ok e)
theorem Twin.at' {s:VaultS}{rs:PoolS}{gs:List PageV}(h:Twin s rs gs)(ok:PoolOk s.pool){n:Int}(hn:s.pool.count n≠0):s.on n=some (pgAt gs n):=h.pg n (state_of_count ok hn) (there_of_count hn)
theorem Twin.looks {s:VaultS}{rs:PoolS}{gs:List PageV}(h:Twin s rs gs)(ok:PoolOk s.pool):Looks s (lookT s):=by
 constructor
 · intro n hn
   unfold lookT at hn;by_cases hc:s.pool.count n=0
   · exact hc
   · rw [if_neg hc,h.at' ok hc] at hn
     cases hn
 · intro n g hn
   unfold lookT at hn;by_cases hc:s.pool.count n=0
   · rw [if_pos hc] at hn;cases hn
   · rw [if_neg hc] at hn
     have ht:=there_of_count hc;have:=ok.n2
     exact⟨⟨ht.1,by have:=ht.2;omega⟩,hc,hn,h.fit n g hn⟩
theorem pgAt_set {gs:List PageV}{n m:Int}(hn:1≤n∧n≤gs.length)(hm:1≤m∧m≤gs.length)(g:PageV):pgAt (gs.set (n.toNat-1) g) m=if m=n then g else pgAt gs m:=by
 unfold pgAt;rw [List.getD_eq_getElem?_getD];by_cases h:m=n
 · subst h
   rw [List.getElem?_set_self (by omega),if_pos rfl];rfl
 · rw [List.getElem?_set_ne (by omega),if_neg h, ← List.getD_eq_getElem?_getD]
theorem Twin.make {t:VaultS}{rs:PoolS}{gs:List PageV}(h:Twin t rs gs)(ok:PoolOk t.pool){n:Int}(hn:t.pool.state n=1){g:PageV}(hg:Fit g):
 Twin (t.make n g) { rs with counts:=rs.counts.set (n.toNat-1) 1 } (gs.set (n.toNat-1) g):=by
 have h0:=count_of_free ok hn;have ht:=there_of_state (by omega:t.pool.state n≠0)
 have ec:(t.make n g).pool.counts=t.pool.counts.set (n.toNat-1) 1:=by
  show t.pool.counts.set (n.toNat-1) (t.pool.count n+1)=_
  rw [h0];rfl
 have hon:∀m,(t.make n g).on m=if m=n then some g else t.on m:=fun m=>rfl
 refine⟨by rw [ec, ← h.cs],h.ls,h.rf,?_,h.bare.make hn h0 g,?_,?_,?_⟩
 · rw [ec,List.length_set,List.length_set];exact h.gl
 · intro m hm hth
   have hth2:t.pool.there m:=did_there.1 hth;have hs:(t.make n g).pool.state m=if m=n then stateOf (t.pool.count n+1) (t.pool.lasts n) else t.pool.state m:=did_state ht
   rw [hon,pgAt_set ⟨ht.1,by rw [h.gl];exact ht.2⟩ ⟨hth2.1,by rw [h.gl];exact hth2.2⟩];by_cases he:m=n
   · rw [if_pos he,if_pos he]
   · rw [if_neg he] at hs
     rw [if_neg he,if_neg he];exact h.pg m (hs ▸ hm) hth2
 · intro m g2 hm
   rw [hon] at hm;by_cases he:m=n
   · rw [if_pos he] at hm;cases hm;exact hg
   · rw [if_neg he] at hm;exact h.fit m g2 hm
 · intro c hc
   rw [ec] at hc;rcases List.mem_or_eq_of_mem_set hc with hc | rfl
   · exact h.cr c hc
   · have:=ok.r1
     exact⟨by omega,by show (1:Int)≤t.pool.refs;omega⟩
theorem low_unique {S:Int→Prop}:∀(l1 l2:List Int),l1.length=l2.length→l1.Pairwise (fun a b=>a<b)→l2.Pairwise (fun a b=>a<b)→(∀n∈l1,S n)→(∀n∈l2,S n)→(∀m,S m→m ∉ l1→∀n∈l1,n<m)→(∀m,S m→m ∉ l2→∀n∈l2,n<m)→l1=l2
 | [],[],_,_,_,_,_,_,_=>rfl
 | x :: t,y :: u,hl,p1,p2,s1,s2,b1,b2=>by
   obtain⟨q1,p1'⟩:=List.pairwise_cons.1 p1;obtain⟨q2,p2'⟩:=List.pairwise_cons.1 p2
   have hxy:x=y:=by
    have e1:x≤y:=by
     by_cases hy:y∈x :: t
     · rcases List.mem_cons.1 hy with h | h
       · omega
       · have:=q1 y h;omega
     · have:=b1 y (s2 y (by simp)) hy x (by simp);omega
    have e2:y≤x:=by
     by_cases hx:x∈y :: u
     · rcases List.mem_cons.1 hx with h | h
       · omega
       · have:=q2 x h;omega
     · have:=b2 x (s1 x (by simp)) hx y (by simp);omega
    omega
   subst hxy
   have:=low_unique (S:=fun n=>S n∧n≠x) t u (by simpa using hl) p1' p2'
    (fun n hn=>⟨s1 n (by simp [hn]),fun e=>by have:=q1 n hn;omega⟩) (fun n hn=>⟨s2 n (by simp [hn]),fun e=>by have:=q2 n hn;omega⟩)
    (fun m hm hnot n hn=>b1 m hm.1 (fun hc=>(List.mem_cons.1 hc).elim hm.2 hnot) n (by simp [hn]))
    (fun m hm hnot n hn=>b2 m hm.1 (fun hc=>(List.mem_cons.1 hc).elim hm.2 hnot) n (by simp [hn]))
   rw [this]
theorem taken_there {s s':VaultS}{ns:List Int}(h:Taken s s' ns){m:Int}(hm:s.pool.there m):s'.pool.there m:=⟨hm.1,by have:=hm.2;have:=h.len;omega⟩
theorem taken_out {s s':VaultS}{ns:List Int}(h:Taken s s' ns){m:Int}(hm:s.pool.state m=1)(hn:m ∉ ns):∀n∈ns,n<m:=by
 refine h.low m ?_;have ht:=there_of_state (by omega:s.pool.state m≠0);rw [state_there (taken_there h ht),(h.same m hn).1];have e:s'.pool.lasts m=s.pool.lasts m:=by unfold PoolS.lasts;rw [h.last]
 rw [e, ← state_there ht];exact hm
theorem taken_unique {s a b:VaultS}{ns ms:List Int}(h:Taken s a ns)(k:Taken s b ms)(hl:ns.length=ms.length):ns=ms:=by
 have:=low_unique (S:=fun n=>s.pool.state n=1) ns.reverse ms.reverse (by simpa using hl) (List.pairwise_reverse.2 h.desc) (List.pairwise_reverse.2 k.desc)
  (fun n hn=>h.free n (by simpa using hn)) (fun n hn=>k.free n (by simpa using hn))
  (fun m hm hn n hn2=>taken_out h hm (by simpa using hn) n (by simpa using hn2)) (fun m hm hn n hn2=>taken_out k hm (by simpa using hn) n (by simpa using hn2))
 have h2:=congrArg List.reverse this;simpa using h2
theorem chain_on {s t:VaultS}{V:List Int}:∀ {k j:Nat} {c d:Int} {ns:List Int},ChainAt s V k j c ns→ChainAt t V k j d ns→c=d∧∀n∈ns,s.on n=t.on n
 | 0,_,_,_,_,h,g=>⟨by rw [h.1,g.1],by rw [h.2];simp⟩
 | k+1,j,c,d,ns,h,g=>by
   obtain⟨c',ns',rfl,_,_,h4,h5⟩:=h;obtain⟨d',ms',e,_,_,g4,g5⟩:=g;obtain⟨e1,e2⟩:=List.cons.inj e;subst e1 e2;obtain⟨e3,h6⟩:=chain_on h5 g5;subst e3;refine⟨rfl,fun n hn=> ?_⟩;rcases List.mem_cons.1 hn with rfl | hn
   · rw [h4,g4]
   · exact h6 n hn
theorem counts_ext {s t:PoolS}(hl:s.counts.length=t.counts.length)(h:∀n,s.count n=t.count n):s.counts=t.counts:=by
 apply List.ext_getElem hl;intro i h1 h2;have:=h ((i:Int)+1)
 rw [count_cnt,count_cnt,cnt_idx h1,cnt_idx h2,List.getD_eq_getElem?_getD,List.getD_eq_getElem?_getD,List.getElem?_eq_getElem h1,List.getElem?_eq_getElem h2] at this;exact this
theorem Twin.move {a b:VaultS}{rs:PoolS}{gs:List PageV}(h:Twin a rs gs)(hc:a.pool.counts=b.pool.counts)(hl:a.pool.last=b.pool.last)(hr:a.pool.refs=b.pool.refs)(ho:a.on=b.on):Twin b rs gs:=by
 have hs:∀n,b.pool.state n=a.pool.state n:=fun n=>(state_eq hc hl n).symm
 have ht:∀n,b.pool.there n↔a.pool.there n:=fun n=>by unfold PoolS.there;rw [hc]
 exact⟨by rw [h.cs,hc],by rw [h.ls,hl],by rw [h.rf,hr],by rw [h.gl,hc],fun n hn=>by rw [← ho];exact h.bare n (by rw [← hs];exact hn),fun n h1 h2=>by rw [← ho];exact h.pg n (by rw [← hs];exact h1) ((ht n).1 h2),fun n g hg=>h.fit n g (by rw [ho];exact hg),by rw [← hc, ← hr];exact h.cr⟩
theorem twin_taken {s a b:VaultS}{ns ms:List Int}{V:List Int}{c d:Int}{rs:PoolS}{gs:List PageV}(h:Taken s a ns)(k:Taken s b ms)(ch:ChainAt a V (chunks V) 0 c ns)(kh:ChainAt b V (chunks V) 0 d ms)(ht:Twin b rs gs):c=d∧Twin a rs gs:=by
 have e:ns=ms:=taken_unique h k (by rw [chain_len ch,chain_len kh]);subst e;obtain⟨e1,h1⟩:=chain_on ch kh;refine⟨e1,ht.move (counts_ext (by rw [k.len,h.len]) fun n=> ?_) (by rw [k.last,h.last]) (by rw [k.refs,h.refs]) (funext fun n=> ?_)⟩
 · by_cases hn:n∈ns
   · rw [h.cnt n hn,k.cnt n hn]
   · rw [(h.same n hn).1,(k.same n hn).1]
 · by_cases hn:n∈ns
   · exact(h1 n hn).symm
   · rw [(h.same n hn).2,(k.same n hn).2]
theorem incE_incL {s:VaultS}{rs:PoolS}{gs:List PageV}(h:Twin s rs gs)(n:Int):incE s.pool n=incL rs.refs rs.counts n:=by
 have h1:cntL rs.counts n=s.pool.count n:=by rw [h.cs, ← count_cnt]
 unfold incE incL;rw [h1,h.rf];by_cases h0:s.pool.count n=0
 · rw [if_pos h0,if_pos h0]
 · rw [if_neg h0,if_neg h0]
   have hc:=h.cr _ (by
    have ht:=there_of_count h0
    show s.pool.count n∈s.pool.counts
    unfold PoolS.count
    rw [if_pos ht,List.getD_eq_getElem?_getD,List.getElem?_eq_getElem (by have:=ht.1;have:=ht.2;omega)]
    exact List.getElem_mem _)
   by_cases h2:s.pool.count n=s.pool.refs
   · rw [if_pos h2,if_pos (by omega)]
   · rw [if_neg h2,if_neg (by omega)]
theorem Twin.crn {s:VaultS}{rs:PoolS}{gs:List PageV}(h:Twin s rs gs)(ok:PoolOk s.pool)(n:Int):s.pool.count n≤s.pool.refs:=by
 unfold PoolS.count;split
 · rename_i ht
   rw [List.getD_eq_getElem?_getD,List.getElem?_eq_getElem (by have:=ht.1;have:=ht.2;omega)];exact(h.cr _ (List.getElem_mem _)).2
 · have:=ok.r1;omega
theorem Twin.keep {s:VaultS}{rs:PoolS}{gs:List PageV}(h:Twin s rs gs)(ok:PoolOk s.pool){n:Int}(he:incE s.pool n=0)(a:ActV):Twin ({ s with pool:=s.pool.did n 1 }.acted a) { rs with counts:=addC rs.counts n 1 } gs:=by
 have h0:s.pool.count n≠0:=fun e=>by unfold incE at he;rw [if_pos e] at he;cases he
 have h1:s.pool.count n≠s.pool.refs:=fun e=>by unfold incE at he;rw [if_neg h0,if_pos e] at he;cases he
 have h2:=h.crn ok n;have ht:=there_of_count h0;have h3:=(count_bd ok n).1
 have hst:∀m,(s.pool.did n 1).state m=1↔s.pool.state m=1:=fun m=>by
  rw [did_state ht];by_cases hm:m=n
  · subst hm
    rw [if_pos rfl];have e1:=state_of_count ok h0;constructor
    · intro e
      exfalso;unfold stateOf at e;rw [if_pos (by omega)] at e;split at e<;>omega
    · intro e;exact absurd e e1
  · rw [if_neg hm]
 refine⟨?_,h.ls,h.rf,?_,fun m hm=>h.bare m ((hst m).1 hm),fun m hm hth=>h.pg m (fun e=>hm ((hst m).2 e)) (did_there.1 hth),h.fit,?_⟩
 · show _=(s.pool.did n 1).counts
   rw [did_counts,h.cs]
 · show _=(s.pool.did n 1).counts.length
   rw [did_counts,addC_len];exact h.gl
 · intro c hc
   have hc2:c∈s.pool.counts.set (n.toNat-1) (s.pool.count n+1):=hc;rcases List.mem_or_eq_of_mem_set hc2 with hc | rfl
   · exact h.cr c hc
   · exact⟨by omega,by show _≤s.pool.refs;omega⟩
theorem addC_ne {cs:List Int}{n m:Int}{b:Int}(h:cntL cs n≠0)(hm:cntL (addC cs n b) m≠0):cntL cs m≠0:=by
 have hn:1≤n∧n≤cs.length:=by
  by_cases hn:1≤n∧n≤cs.length
  · exact hn
  · exact absurd (by unfold cntL;exact if_neg hn) h
 rw [addC_cnt hn] at hm;by_cases e:m=n
 · rw [e];exact h
 · rw [if_neg e] at hm;exact hm
theorem DropR.congr {get get':Int→PageV}{l cs:List Int}{e:Int}{c:List Int}(h:DropR get l cs e c):(∀n,cntL cs n≠0→get n=get' n)→DropR get' l cs e c:=by
 induction h with
 | nil cs=>intro _;exact .nil cs
 | none n t cs h0=>intro _;exact .none n t cs h0
 | more n t cs e c h1 h2 h3 ih=>intro hg;exact .more n t cs e c h1 h2 (ih fun m hm=>hg m (addC_ne h1 hm))
 | last n t cs e c h1 h2 h3 ih=>intro hg;exact .last n t cs e c h1 h2 (by rw [← hg n h1];exact ih fun m hm=>hg m (addC_ne h1 hm))
theorem DropR.le {get:Int→PageV}{l cs:List Int}{e:Int}{c:List Int}(h:DropR get l cs e c):(∀x∈cs,0≤x)→c.length=cs.length∧∀n,0≤cntL c n∧cntL c n≤cntL cs n:=by
 have nn:∀ {cs:List Int},(∀x∈cs,0≤x)→∀n,0≤cntL cs n:=fun {cs} h n=>by
  unfold cntL;split
  · rw [List.getD_eq_getElem?_getD,List.getElem?_eq_getElem (by omega)]
    exact h _ (List.getElem_mem _)
  · omega
 have st:∀ {cs:List Int} {n:Int},(∀x∈cs,0≤x)→cntL cs n≠0→(∀x∈addC cs n (-1),0≤x)∧∀m,cntL (addC cs n (-1)) m≤cntL cs m:=fun {cs n} h h0=>by
  have:=nn h n
  refine⟨addC_nn h (by omega),fun m=> ?_⟩
  have hn:1≤n∧n≤cs.length:=by
   by_cases hn:1≤n∧n≤cs.length
   · exact hn
   · exact absurd (by unfold cntL;exact if_neg hn) h0
  rw [addC_cnt hn];split
  · rename_i e;rw [e];omega
  · exact Int.le_refl _
 induction h with
 | nil cs=>intro h;exact⟨rfl,fun n=>⟨nn h n,Int.le_refl _⟩⟩
 | none n t cs h0=>intro h;exact⟨rfl,fun n=>⟨nn h n,Int.le_refl _⟩⟩
 | more n t cs e c h1 h2 h3 ih=>
   intro h;obtain⟨a,b⟩:=st h h1;obtain⟨i1,i2⟩:=ih a;exact⟨by rw [i1,addC_len],fun m=>⟨(i2 m).1,Int.le_trans (i2 m).2 (b m)⟩⟩
 | last n t cs e c h1 h2 h3 ih=>
   intro h;obtain⟨a,b⟩:=st h h1;obtain⟨i1,i2⟩:=ih a;exact⟨by rw [i1,addC_len],fun m=>⟨(i2 m).1,Int.le_trans (i2 m).2 (b m)⟩⟩
theorem Twin.drop_det {s:VaultS}{rs:PoolS}{gs:List PageV}(h:Twin s rs gs)(ok:PoolOk s.pool){l:List Int}{e e2:Int}{c c2:List Int}(h1:DropR s.get l s.pool.counts e c)(h2:DropR (pgAt gs) l rs.counts e2 c2):e=e2∧c=c2:=by
 rw [h.cs] at h2;refine DropR.det (h1.congr fun n hn=> ?_) h2;unfold VaultS.get;rw [h.at' ok (by rw [count_cnt];exact hn)];rfl
theorem Twin.drop {s t:VaultS}{rs:PoolS}{gs:List PageV}(h:Twin s rs gs)(ok:PoolOk s.pool){l:List Int}{e:Int}{W:List (Int × Option PageV)}(hd:DInv s t W)(h1:DropR s.get l s.pool.counts e t.pool.counts)(a:ActV):Twin (t.acted a) { rs with counts:=t.pool.counts } gs:=by
 have hle:=(h1.le fun x hx=>(h.cr x hx).1).2;have hth:∀m,t.pool.there m↔s.pool.there m:=fun m=>by unfold PoolS.there;rw [hd.len]
 have hla:∀m,t.pool.lasts m=s.pool.lasts m:=fun m=>by unfold PoolS.lasts;rw [hd.mid.last]
 have hfree:∀m,t.pool.state m≠1→t.pool.there m→s.pool.state m≠1:=fun m hm ht e=>hm (by
  have h0:=count_of_free ok e
  have h2:=hle m
  rw [← count_cnt, ← count_cnt,h0] at h2
  rw [state_there ht,show t.pool.count m=0 by omega,hla, ← h0, ← state_there ((hth m).1 ht)]
  exact e)
 have hon:∀m,t.on m=if t.pool.state m=1 then none else s.on m:=fun m=>by rw [hd.on]
 refine⟨rfl,?_,?_,?_,fun m hm=> ?_,fun m hm ht=> ?_,fun m g hg=> ?_,fun c hc=> ?_⟩
 · show rs.last=t.pool.last;rw [h.ls,hd.mid.last]
 · show rs.refs=t.pool.refs;rw [h.rf,hd.mid.refs]
 · show gs.length=t.pool.counts.length;rw [h.gl,hd.len]
 · have hm2:t.pool.state m=1:=hm
   show t.on m=none
   rw [hon,if_pos hm2]
 · have hm2:t.pool.state m≠1:=hm
   show t.on m=_
   rw [hon,if_neg hm2];exact h.pg m (hfree m hm2 ht) ((hth m).1 ht)
 · have hg2:t.on m=some g:=hg
   rw [hon] at hg2;split at hg2
   · cases hg2
   · exact h.fit m g hg2
 · have hc2:c∈t.pool.counts:=hc
   obtain⟨i,hi,rfl⟩:=List.getElem_of_mem hc2;have h3:=hle ((i:Int)+1);rw [cnt_idx hi,cnt_idx (by rw [← hd.len];exact hi),List.getD_eq_getElem?_getD,List.getD_eq_getElem?_getD,List.getElem?_eq_getElem hi,List.getElem?_eq_getElem (by rw [← hd.len];exact hi)] at h3;have h4:=h.cr (s.pool.counts[i]'(by rw [← hd.len];exact hi)) (List.getElem_mem _);have h5:t.pool.refs=s.pool.refs:=hd.mid.refs
   refine⟨h3.1,?_⟩;show _≤t.pool.refs
   have h6:t.pool.counts[i]≤s.pool.counts[i]'(by rw [← hd.len];exact hi):=h3.2;omega
theorem lasts_of_counts(cs:List Int){n:Int}(h:1≤n∧n≤cs.length):(lastsOf cs).getD (n.toNat-1) false=decide (0<cs.getD (n.toNat-1) 0):=by
 unfold lastsOf;rw [List.getD_eq_getElem?_getD,List.getElem?_map,List.getD_eq_getElem?_getD,List.getElem?_eq_getElem (by omega)];rfl
theorem settled_state {s:PoolS}(ok:PoolOk s){n:Int}(h:s.there n):s.settled.state n=if s.count n=0 then 1 else 4:=by
 have h1:s.settled.there n:=h;have h2:s.settled.count n=s.count n:=rfl
 have h3:s.settled.lasts n=decide (0<s.count n):=by
  show (lastsOf s.counts).getD _ _=_
  rw [lasts_of_counts s.counts h];unfold PoolS.count;rw [if_pos h]
 rw [state_there h1,h2,h3];have:=(count_bd ok n).1
 by_cases h0:s.count n=0
 · rw [if_pos h0,h0];rfl
 · rw [if_neg h0];exact stateOf_pos (by omega)
theorem Twin.settle {s:VaultS}{rs:PoolS}{gs:List PageV}(h:Twin s rs gs)(ok:PoolOk s.pool):Twin s.settled { rs with last:=lastsOf rs.counts } (gsK rs gs rs.counts.length):=by
 have hst:∀m,s.pool.there m→s.pool.count m=0→s.pool.state m=1∨s.pool.state m=2:=fun m ht h0=>by
  rw [state_there ht,h0];unfold stateOf;rw [if_neg (by omega)];split<;>simp
 have hon:∀m,s.settled.on m=if s.pool.state m=2 then none else s.on m:=fun m=>rfl
 refine⟨h.cs,?_,h.rf,?_,fun m hm=> ?_,fun m hm ht=> ?_,fun m g hg=> ?_,h.cr⟩
 · show lastsOf rs.counts=lastsOf s.pool.counts
   rw [h.cs]
 · rw [gsK_len];exact h.gl
 · have hm2:s.pool.settled.state m=1:=hm
   have ht:s.pool.there m:=there_of_state (s:=s.pool.settled) (by omega);rw [settled_state ok ht] at hm2
   have h0:s.pool.count m=0:=by
    by_cases h0:s.pool.count m=0
    · exact h0
    · rw [if_neg h0] at hm2;cases hm2
   rw [hon];rcases hst m ht h0 with e | e
   · rw [if_neg (by omega)];exact h.bare m e
   · rw [if_pos e]
 · have hm2:s.pool.settled.state m≠1:=hm
   have ht2:s.pool.there m:=ht;rw [settled_state ok ht2] at hm2;have h0:s.pool.count m≠0:=fun e=>hm2 (if_pos e)
   have h1:s.pool.state m≠2:=fun e=>by
    rw [state_there ht2] at e;unfold stateOf at e;rw [if_pos (by have:=(count_bd ok m).1;omega)] at e;split at e<;>omega
   rw [hon,if_neg h1,h.at' ok h0];congr 1
   unfold pgAt;have hj:m.toNat-1<gs.length:=by rw [h.gl];have:=ht2.1;have:=ht2.2;omega
   rw [List.getD_eq_getElem?_getD,List.getD_eq_getElem?_getD,gsK_at _ _ _ _ hj,if_neg];intro hc;apply h0;have:=hc.2
   rw [h.cs] at this;unfold PoolS.count;rw [if_pos ht2];exact this
 · rw [hon] at hg
   split at hg
   · cases hg
   · exact h.fit m g hg
end Go.Cop
namespace Go.Cop
def storeE(s:PoolS)(K V:List Int):Int:=if K.length<1∨24<K.length then 7 else if 3840<V.length then 8 else if s.many 1<pagesV V then 12 else 0
def StoreAt(s:VaultS)(c:Int)(V:List Int)(ns:List Int):Prop:=(V.length≤32∧c=0∧ns= [])∨((32<V.length∧V.length≤3840)∧ChainAt s V (chunks V) 0 c ns)
abbrev storedI(K V:List Int)(c:Int):ItemV:=⟨K,if V.length≤32 then V else [],c,V.length⟩
theorem store_len {s:VaultS}{c:Int}{V ns:List Int}(h:StoreAt s c V ns):ns.length=pagesV V∧ns.length≤8:=by
 unfold pagesV;rcases h with⟨h1,_,rfl⟩ | ⟨h1,h2⟩
 · rw [if_pos h1];simp
 · rw [if_neg (by omega),Go.Cop.chain_len h2]
   unfold chunks;omega
theorem twin_stored {s a b:VaultS}{ns ms V:List Int}{c d:Int}{rs:PoolS}{gs:List PageV}(h:Taken s a ns)(k:Taken s b ms)(ch:StoreAt a c V ns)(kh:StoreAt b d V ms)(ht:Twin b rs gs):c=d∧Twin a rs gs:=by
 rcases ch with⟨h1,rfl,rfl⟩ | ⟨h1,h2⟩
 · rcases kh with⟨_,rfl,rfl⟩ | ⟨g1,_⟩
   · exact⟨rfl,ht.move (counts_ext (by rw [k.len,h.len]) fun n=>by rw [(h.same n (by simp)).1,(k.same n (by simp)).1]) (by rw [k.last,h.last]) (by rw [k.refs,h.refs]) (funext fun n=>by rw [(h.same n (by simp)).2,(k.same n (by simp)).2])⟩
   · omega
 · rcases kh with⟨g1,_⟩ | ⟨_,g2⟩
   · omega
   · exact twin_taken h k h2 g2 ht
theorem steps_sum {s t:VaultS}(h:Steps s t):(∀c∈s.pool.counts,0≤c)→(∀c∈t.pool.counts,0≤c)∧(sumC t.pool.counts:Int)+s.pool.acts.length=sumC s.pool.counts+t.pool.acts.length:=by
 induction h with
 | refl=>intro h;exact⟨h,rfl⟩
 | step n g h hn h0 ih=>
   intro hc;obtain⟨i1,i2⟩:=ih hc;rename_i t;have ht:=there_of_state (by omega:t.pool.state n≠0);have e:(t.make n g).pool.counts=addC t.pool.counts n 1:=did_counts t.pool n 1;have h1:cntL t.pool.counts n=0:=by rw [← count_cnt];exact h0
   have h2:=sum_addC (cs:=t.pool.counts) (n:=n) (b:=1) ht (by omega) (by omega);rw [e];refine⟨Go.Proofs.YtbobcmimkonnoaaGreat.Z7.addC_nn i1 (by omega),?_⟩
   have h3:(t.make n g).pool.acts.length=t.pool.acts.length+1:=by
    show (t.pool.acts++ [(n,(1:Int))]).length=_
    simp
   rw [h2,h3];omega
theorem taken_sum {s t:VaultS}{ns:List Int}(h:Taken s t ns)(hc:∀c∈s.pool.counts,0≤c):sumC t.pool.counts=sumC s.pool.counts+ns.length:=by
 have h1:=(steps_sum h.steps hc).2;have h2:=h.pa;omega
end Go.Cop
namespace Go.Proofs.YtbobcmimkonnoaaGreat.Y9
open ChangeShapes WideShapes ChangeAt RowKit Sl Cop D2 M3 Q3 D4 M2 N2 E4 G4 J4 J5 L5 V5 J6
end Go.Proofs.YtbobcmimkonnoaaGreat.Y9
namespace Go.Cop
open Go.Proofs.YtbobcmimkonnoaaGreat.B9
end Go.Cop
namespace Go.Proofs.YtbobcmimkonnoaaGreat.Ay
open ChangeShapes WideShapes ChangeAt RowKit Sl Cop D2 M3 Q3 D4 M2 N2 E4 G4 X4 E6 J4 L6 G6 K5 L5 Y5 M7 Q7 U7 X7 B9 J9
end Go.Proofs.YtbobcmimkonnoaaGreat.Ay
namespace Go.Proofs.YtbobcmimkonnoaaGreat.Dy
open ChangeShapes WideShapes ChangeAt RowKit Sl Cop D2 M3 Q3 D4 M2 N2 E4 G4 X4 E6 J4 L6 G6 Z4 K5 L5 Y5 M7 Q7 U7 X7 B9 J9 Ay
abbrev item0:Obj:=itemC (.slice none 0 0) (.slice none 0 0) 0 0
end Go.Proofs.YtbobcmimkonnoaaGreat.Dy
