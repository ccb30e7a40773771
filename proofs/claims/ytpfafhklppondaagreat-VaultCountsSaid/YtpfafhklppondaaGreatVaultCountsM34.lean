/- Plain laws: both vaults are alike, and stay so. No program in sight. -/
import Derived.Test.YtpfafhklppondaaGreatVaultCountsM32
import Derived.Test.YtpfafhklppondaaGreatVaultCountsM25
import Derived.Test.YtpfafhklppondaaGreatVaultCountsM17
import Derived.Test.YtpfafhklppondaaGreatVaultCountsM29
import Derived.Test.YtpfafhklppondaaGreatVaultCountsM33
import Derived.Test.YtpfafhklppondaaGreatVaultCountsM22
import Derived.Test.YtpfafhklppondaaGreatVaultCountsM23
set_option maxRecDepth 100000
set_option maxHeartbeats 16000000
namespace Go.Cop
open Go.Proofs.YtpfafhklppondaaGreat.Y3 Go.Proofs.YtpfafhklppondaaGreat.G4 Go.Proofs.YtpfafhklppondaaGreat.Z7 Go.Proofs.YtpfafhklppondaaGreat.K9 Go.Proofs.YtpfafhklppondaaGreat.J8 Go.Proofs.YtpfafhklppondaaGreat.B8 Go.Proofs.YtpfafhklppondaaGreat.M8 Go.Proofs.YtpfafhklppondaaGreat.Q9 Go.Proofs.YtpfafhklppondaaGreat.G5 Go.Proofs.YtpfafhklppondaaGreat.Q7 Go.Proofs.YtpfafhklppondaaGreat.G8 Go.Proofs.YtpfafhklppondaaGreat.F9 Go.Proofs.YtpfafhklppondaaGreat.E4
structure Twin(s:VaultS)(rs:PoolS)(gs:List PageV):Prop where
 cs:rs.counts=s.pool.counts
 ls:rs.last=s.pool.last
 rf:rs.refs=s.pool.refs
 gl:gs.length=s.pool.counts.length
 bare:Bare s
 pg:∀n,s.pool.state n≠1→s.pool.there n→s.on n=some (pgAt gs n)
 fit:∀n g,s.on n=some g→Fit g
 cr:∀c∈s.pool.counts,0≤c∧c≤s.pool.refs
def lookT(s:VaultS)(n:Int):Option PageV:=if s.pool.count n=0 then none else s.on n
theorem Twin.state {s:VaultS}{rs:PoolS}{gs:List PageV}(h:Twin s rs gs)(n:Int):rs.state n=s.pool.state n:=state_eq h.cs h.ls n
theorem count_eq {s t:PoolS}(hc:s.counts=t.counts)(n:Int):s.count n=t.count n:=by
 rw [count_cnt,count_cnt,hc]
theorem Twin.count {s:VaultS}{rs:PoolS}{gs:List PageV}(h:Twin s rs gs)(n:Int):rs.count n=s.pool.count n:=count_eq h.cs n
theorem state_of_count {s:PoolS}(ok:PoolOk s){n:Int}(h:s.count n≠0):s.state n≠1:=fun e=>h (count_of_free ok e)
theorem Twin.at' {s:VaultS}{rs:PoolS}{gs:List PageV}(h:Twin s rs gs)(ok:PoolOk s.pool){n:Int}(hn:s.pool.count n≠0):s.on n=some (pgAt gs n):=h.pg n (state_of_count ok hn) (there_of_count hn)
theorem Twin.looks {s:VaultS}{rs:PoolS}{gs:List PageV}(h:Twin s rs gs)(ok:PoolOk s.pool):Looks s (lookT s):=by
 constructor
 · intro n hn
   unfold lookT at hn;by_cases hc:s.pool.count n=0
   · exact hc
   · rw [if_neg hc,h.at' ok hc] at hn
     cases hn
 · intro n g hn
   unfold lookT at hn;by_cases hc:s.pool.count n=0
   · rw [if_pos hc] at hn;cases hn
   · rw [if_neg hc] at hn
     have ht:=there_of_count hc;have:=ok.n2
     exact⟨⟨ht.1,by have:=ht.2;omega⟩,hc,hn,h.fit n g hn⟩
theorem pgAt_set {gs:List PageV}{n m:Int}(hn:1≤n∧n≤gs.length)(hm:1≤m∧m≤gs.length)(g:PageV):pgAt (gs.set (n.toNat-1) g) m=if m=n then g else pgAt gs m:=by
 unfold pgAt;rw [List.getD_eq_getElem?_getD];by_cases h:m=n
 · subst h
   rw [List.getElem?_set_self (by omega),if_pos rfl];rfl
 · rw [List.getElem?_set_ne (by omega),if_neg h, ← List.getD_eq_getElem?_getD]
theorem Twin.make {t:VaultS}{rs:PoolS}{gs:List PageV}(h:Twin t rs gs)(ok:PoolOk t.pool){n:Int}(hn:t.pool.state n=1){g:PageV}(hg:Fit g):
 Twin (t.make n g) { rs with counts:=rs.counts.set (n.toNat-1) 1 } (gs.set (n.toNat-1) g):=by
 have h0:=count_of_free ok hn;have ht:=there_of_state (by omega:t.pool.state n≠0)
 have ec:(t.make n g).pool.counts=t.pool.counts.set (n.toNat-1) 1:=by
  show t.pool.counts.set (n.toNat-1) (t.pool.count n+1)=_
  rw [h0];rfl
 have hon:∀m,(t.make n g).on m=if m=n then some g else t.on m:=fun m=>rfl
 refine⟨by rw [ec, ← h.cs],h.ls,h.rf,?_,h.bare.make hn h0 g,?_,?_,?_⟩
 · rw [ec,List.length_set,List.length_set];exact h.gl
 · intro m hm hth
   have hth2:t.pool.there m:=did_there.1 hth;have hs:(t.make n g).pool.state m=if m=n then stateOf (t.pool.count n+1) (t.pool.lasts n) else t.pool.state m:=did_state ht
   rw [hon,pgAt_set ⟨ht.1,by rw [h.gl];exact ht.2⟩ ⟨hth2.1,by rw [h.gl];exact hth2.2⟩];by_cases he:m=n
   · rw [if_pos he,if_pos he]
   · rw [if_neg he] at hs
     rw [if_neg he,if_neg he];exact h.pg m (hs ▸ hm) hth2
 · intro m g2 hm
   rw [hon] at hm;by_cases he:m=n
   · rw [if_pos he] at hm;cases hm;exact hg
   · rw [if_neg he] at hm;exact h.fit m g2 hm
 · intro c hc
   rw [ec] at hc;rcases List.mem_or_eq_of_mem_set hc with hc | rfl
   · exact h.cr c hc
   · have:=ok.r1
     exact⟨by omega,by show (1:Int)≤t.pool.refs;omega⟩
theorem low_unique {S:Int→Prop}:∀(l1 l2:List Int),l1.length=l2.length→l1.Pairwise (fun a b=>a<b)→l2.Pairwise (fun a b=>a<b)→(∀n∈l1,S n)→(∀n∈l2,S n)→(∀m,S m→m ∉ l1→∀n∈l1,n<m)→(∀m,S m→m ∉ l2→∀n∈l2,n<m)→l1=l2
 | [],[],_,_,_,_,_,_,_=>rfl
 | x :: t,y :: u,hl,p1,p2,s1,s2,b1,b2=>by
   obtain⟨q1,p1'⟩:=List.pairwise_cons.1 p1;obtain⟨q2,p2'⟩:=List.pairwise_cons.1 p2
   have hxy:x=y:=by
    have e1:x≤y:=by
     by_cases hy:y∈x :: t
     · rcases List.mem_cons.1 hy with h | h
       · omega
       · have:=q1 y h;omega
     · have:=b1 y (s2 y (by simp)) hy x (by simp);omega
    have e2:y≤x:=by
     by_cases hx:x∈y :: u
     · rcases List.mem_cons.1 hx with h | h
       · omega
       · have:=q2 x h;omega
     · have:=b2 x (s1 x (by simp)) hx y (by simp);omega
    omega
   subst hxy
   have:=low_unique (S:=fun n=>S n∧n≠x) t u (by simpa using hl) p1' p2'
    (fun n hn=>⟨s1 n (by simp [hn]),fun e=>by have:=q1 n hn;omega⟩) (fun n hn=>⟨s2 n (by simp [hn]),fun e=>by have:=q2 n hn;omega⟩)
    (fun m hm hnot n hn=>b1 m hm.1 (fun hc=>(List.mem_cons.1 hc).elim hm.2 hnot) n (by simp [hn]))
    (fun m hm hnot n hn=>b2 m hm.1 (fun hc=>(List.mem_cons.1 hc).elim hm.2 hnot) n (by simp [hn]))
   rw [this]
theorem taken_there {s s':VaultS}{ns:List Int}(h:Taken s s' ns){m:Int}(hm:s.pool.there m):s'.pool.there m:=⟨hm.1,by have:=hm.2;have:=h.len;omega⟩
theorem taken_out {s s':VaultS}{ns:List Int}(h:Taken s s' ns){m:Int}(hm:s.pool.state m=1)(hn:m ∉ ns):∀n∈ns,n<m:=by
 refine h.low m ?_;have ht:=there_of_state (by omega:s.pool.state m≠0);rw [state_there (taken_there h ht),(h.same m hn).1];have e:s'.pool.lasts m=s.pool.lasts m:=by unfold PoolS.lasts;rw [h.last]
 rw [e, ← state_there ht];exact hm
theorem taken_unique {s a b:VaultS}{ns ms:List Int}(h:Taken s a ns)(k:Taken s b ms)(hl:ns.length=ms.length):ns=ms:=by
 have:=low_unique (S:=fun n=>s.pool.state n=1) ns.reverse ms.reverse (by simpa using hl) (List.pairwise_reverse.2 h.desc) (List.pairwise_reverse.2 k.desc)
  (fun n hn=>h.free n (by simpa using hn)) (fun n hn=>k.free n (by simpa using hn))
  (fun m hm hn n hn2=>taken_out h hm (by simpa using hn) n (by simpa using hn2)) (fun m hm hn n hn2=>taken_out k hm (by simpa using hn) n (by simpa using hn2))
 have h2:=congrArg List.reverse this;simpa using h2
theorem chain_on {s t:VaultS}{V:List Int}:∀ {k j:Nat} {c d:Int} {ns:List Int},ChainAt s V k j c ns→ChainAt t V k j d ns→c=d∧∀n∈ns,s.on n=t.on n
 | 0,_,_,_,_,h,g=>⟨by rw [h.1,g.1],by rw [h.2];simp⟩
 | k+1,j,c,d,ns,h,g=>by
   obtain⟨c',ns',rfl,_,_,h4,h5⟩:=h;obtain⟨d',ms',e,_,_,g4,g5⟩:=g;obtain⟨e1,e2⟩:=List.cons.inj e;subst e1 e2;obtain⟨e3,h6⟩:=chain_on h5 g5;subst e3;refine⟨rfl,fun n hn=> ?_⟩;rcases List.mem_cons.1 hn with rfl | hn
   · rw [h4,g4]
   · exact h6 n hn
theorem counts_ext {s t:PoolS}(hl:s.counts.length=t.counts.length)(h:∀n,s.count n=t.count n):s.counts=t.counts:=by
 apply List.ext_getElem hl;intro i h1 h2;have:=h ((i:Int)+1)
 rw [count_cnt,count_cnt,cnt_idx h1,cnt_idx h2,List.getD_eq_getElem?_getD,List.getD_eq_getElem?_getD,List.getElem?_eq_getElem h1,List.getElem?_eq_getElem h2] at this;exact this
theorem Twin.move {a b:VaultS}{rs:PoolS}{gs:List PageV}(h:Twin a rs gs)(hc:a.pool.counts=b.pool.counts)(hl:a.pool.last=b.pool.last)(hr:a.pool.refs=b.pool.refs)(ho:a.on=b.on):Twin b rs gs:=by
 have hs:∀n,b.pool.state n=a.pool.state n:=fun n=>(state_eq hc hl n).symm
 have ht:∀n,b.pool.there n↔a.pool.there n:=fun n=>by unfold PoolS.there;rw [hc]
 exact⟨by rw [h.cs,hc],by rw [h.ls,hl],by rw [h.rf,hr],by rw [h.gl,hc],fun n hn=>by rw [← ho];exact h.bare n (by rw [← hs];exact hn),fun n h1 h2=>by rw [← ho];exact h.pg n (by rw [← hs];exact h1) ((ht n).1 h2),fun n g hg=>h.fit n g (by rw [ho];exact hg),by rw [← hc, ← hr];exact h.cr⟩
theorem twin_taken {s a b:VaultS}{ns ms:List Int}{V:List Int}{c d:Int}{rs:PoolS}{gs:List PageV}(h:Taken s a ns)(k:Taken s b ms)(ch:ChainAt a V (chunks V) 0 c ns)(kh:ChainAt b V (chunks V) 0 d ms)(ht:Twin b rs gs):c=d∧Twin a rs gs:=by
 have e:ns=ms:=taken_unique h k (by rw [chain_len ch,chain_len kh]);subst e;obtain⟨e1,h1⟩:=chain_on ch kh;refine⟨e1,ht.move (counts_ext (by rw [k.len,h.len]) fun n=> ?_) (by rw [k.last,h.last]) (by rw [k.refs,h.refs]) (funext fun n=> ?_)⟩
 · by_cases hn:n∈ns
   · rw [h.cnt n hn,k.cnt n hn]
   · rw [(h.same n hn).1,(k.same n hn).1]
 · by_cases hn:n∈ns
   · exact(h1 n hn).symm
   · rw [(h.same n hn).2,(k.same n hn).2]
theorem incE_incL {s:VaultS}{rs:PoolS}{gs:List PageV}(h:Twin s rs gs)(n:Int):incE s.pool n=incL rs.refs rs.counts n:=by
 have h1:cntL rs.counts n=s.pool.count n:=by rw [h.cs, ← count_cnt]
 unfold incE incL;rw [h1,h.rf];by_cases h0:s.pool.count n=0
 · rw [if_pos h0,if_pos h0]
 · rw [if_neg h0,if_neg h0]
   have hc:=h.cr _ (by
    have ht:=there_of_count h0
    show s.pool.count n∈s.pool.counts
    unfold PoolS.count
    rw [if_pos ht,List.getD_eq_getElem?_getD,List.getElem?_eq_getElem (by have:=ht.1;have:=ht.2;omega)]
    exact List.getElem_mem _)
   by_cases h2:s.pool.count n=s.pool.refs
   · rw [if_pos h2,if_pos (by omega)]
   · rw [if_neg h2,if_neg (by omega)]
theorem Twin.crn {s:VaultS}{rs:PoolS}{gs:List PageV}(h:Twin s rs gs)(ok:PoolOk s.pool)(n:Int):s.pool.count n≤s.pool.refs:=by
 unfold PoolS.count;split
 · rename_i ht
   rw [List.getD_eq_getElem?_getD,List.getElem?_eq_getElem (by have:=ht.1;have:=ht.2;omega)];exact(h.cr _ (List.getElem_mem _)).2
 · have:=ok.r1;omega
theorem Twin.keep {s:VaultS}{rs:PoolS}{gs:List PageV}(h:Twin s rs gs)(ok:PoolOk s.pool){n:Int}(he:incE s.pool n=0)(a:ActV):Twin ({ s with pool:=s.pool.did n 1 }.acted a) { rs with counts:=addC rs.counts n 1 } gs:=by
 have h0:s.pool.count n≠0:=fun e=>by unfold incE at he;rw [if_pos e] at he;cases he
 have h1:s.pool.count n≠s.pool.refs:=fun e=>by unfold incE at he;rw [if_neg h0,if_pos e] at he;cases he
 have h2:=h.crn ok n;have ht:=there_of_count h0;have h3:=(count_bd ok n).1
 have hst:∀m,(s.pool.did n 1).state m=1↔s.pool.state m=1:=fun m=>by
  rw [did_state ht];by_cases hm:m=n
  · subst hm
    rw [if_pos rfl];have e1:=state_of_count ok h0;constructor
    · intro e
      exfalso;unfold stateOf at e;rw [if_pos (by omega)] at e;split at e<;>omega
    · intro e;exact absurd e e1
  · rw [if_neg hm]
 refine⟨?_,h.ls,h.rf,?_,fun m hm=>h.bare m ((hst m).1 hm),fun m hm hth=>h.pg m (fun e=>hm ((hst m).2 e)) (did_there.1 hth),h.fit,?_⟩
 · show _=(s.pool.did n 1).counts
   rw [did_counts,h.cs]
 · show _=(s.pool.did n 1).counts.length
   rw [did_counts,addC_len];exact h.gl
 · intro c hc
   have hc2:c∈s.pool.counts.set (n.toNat-1) (s.pool.count n+1):=hc;rcases List.mem_or_eq_of_mem_set hc2 with hc | rfl
   · exact h.cr c hc
   · exact⟨by omega,by show _≤s.pool.refs;omega⟩
theorem addC_ne {cs:List Int}{n m:Int}{b:Int}(h:cntL cs n≠0)(hm:cntL (addC cs n b) m≠0):cntL cs m≠0:=by
 have hn:1≤n∧n≤cs.length:=by
  by_cases hn:1≤n∧n≤cs.length
  · exact hn
  · exact absurd (by unfold cntL;exact if_neg hn) h
 rw [addC_cnt hn] at hm;by_cases e:m=n
 · rw [e];exact h
 · rw [if_neg e] at hm;exact hm
theorem DropR.congr {get get':Int→PageV}{l cs:List Int}{e:Int}{c:List Int}(h:DropR get l cs e c):(∀n,cntL cs n≠0→get n=get' n)→DropR get' l cs e c:=by
 induction h with
 | nil cs=>intro _;exact .nil cs
 | none n t cs h0=>intro _;exact .none n t cs h0
 | more n t cs e c h1 h2 h3 ih=>intro hg;exact .more n t cs e c h1 h2 (ih fun m hm=>hg m (addC_ne h1 hm))
 | last n t cs e c h1 h2 h3 ih=>intro hg;exact .last n t cs e c h1 h2 (by rw [← hg n h1];exact ih fun m hm=>hg m (addC_ne h1 hm))
theorem DropR.le {get:Int→PageV}{l cs:List Int}{e:Int}{c:List Int}(h:DropR get l cs e c):(∀x∈cs,0≤x)→c.length=cs.length∧∀n,0≤cntL c n∧cntL c n≤cntL cs n:=by
 have nn:∀ {cs:List Int},(∀x∈cs,0≤x)→∀n,0≤cntL cs n:=fun {cs} h n=>by
  unfold cntL;split
  · rw [List.getD_eq_getElem?_getD,List.getElem?_eq_getElem (by omega)]
    exact h _ (List.getElem_mem _)
  · omega
 have st:∀ {cs:List Int} {n:Int},(∀x∈cs,0≤x)→cntL cs n≠0→(∀x∈addC cs n (-1),0≤x)∧∀m,cntL (addC cs n (-1)) m≤cntL cs m:=fun {cs n} h h0=>by
  have:=nn h n
  refine⟨addC_nn h (by omega),fun m=> ?_⟩
  have hn:1≤n∧n≤cs.length:=by
   by_cases hn:1≤n∧n≤cs.length
   · exact hn
   · exact absurd (by unfold cntL;exact if_neg hn) h0
  rw [addC_cnt hn];split
  · rename_i e;rw [e];omega
  · exact Int.le_refl _
 induction h with
 | nil cs=>intro h;exact⟨rfl,fun n=>⟨nn h n,Int.le_refl _⟩⟩
 | none n t cs h0=>intro h;exact⟨rfl,fun n=>⟨nn h n,Int.le_refl _⟩⟩
 | more n t cs e c h1 h2 h3 ih=>
   intro h;obtain⟨a,b⟩:=st h h1;obtain⟨i1,i2⟩:=ih a;exact⟨by rw [i1,addC_len],fun m=>⟨(i2 m).1,Int.le_trans (i2 m).2 (b m)⟩⟩
 | last n t cs e c h1 h2 h3 ih=>
   intro h;obtain⟨a,b⟩:=st h h1;obtain⟨i1,i2⟩:=ih a;exact⟨by rw [i1,addC_len],fun m=>⟨(i2 m).1,Int.le_trans (i2 m).2 (b m)⟩⟩
theorem Twin.drop {s t:VaultS}{rs:PoolS}{gs:List PageV}(h:Twin s rs gs)(ok:PoolOk s.pool){l:List Int}{e:Int}{W:List (Int × Option PageV)}(hd:DInv s t W)(h1:DropR s.get l s.pool.counts e t.pool.counts)(a:ActV):Twin (t.acted a) { rs with counts:=t.pool.counts } gs:=by
 have hle:=(h1.le fun x hx=>(h.cr x hx).1).2;have hth:∀m,t.pool.there m↔s.pool.there m:=fun m=>by unfold PoolS.there;rw [hd.len]
 have hla:∀m,t.pool.lasts m=s.pool.lasts m:=fun m=>by unfold PoolS.lasts;rw [hd.mid.last]
 have hfree:∀m,t.pool.state m≠1→t.pool.there m→s.pool.state m≠1:=fun m hm ht e=>hm (by
  have h0:=count_of_free ok e
  have h2:=hle m
  rw [← count_cnt, ← count_cnt,h0] at h2
  rw [state_there ht,show t.pool.count m=0 by omega,hla, ← h0, ← state_there ((hth m).1 ht)]
  exact e)
 have hon:∀m,t.on m=if t.pool.state m=1 then none else s.on m:=fun m=>by rw [hd.on]
 refine⟨rfl,?_,?_,?_,fun m hm=> ?_,fun m hm ht=> ?_,fun m g hg=> ?_,fun c hc=> ?_⟩
 · show rs.last=t.pool.last;rw [h.ls,hd.mid.last]
 · show rs.refs=t.pool.refs;rw [h.rf,hd.mid.refs]
 · show gs.length=t.pool.counts.length;rw [h.gl,hd.len]
 · have hm2:t.pool.state m=1:=hm
   show t.on m=none
   rw [hon,if_pos hm2]
 · have hm2:t.pool.state m≠1:=hm
   show t.on m=_
   rw [hon,if_neg hm2];exact h.pg m (hfree m hm2 ht) ((hth m).1 ht)
 · have hg2:t.on m=some g:=hg
   rw [hon] at hg2;split at hg2
   · cases hg2
   · exact h.fit m g hg2
 · have hc2:c∈t.pool.counts:=hc
   obtain⟨i,hi,rfl⟩:=List.getElem_of_mem hc2;have h3:=hle ((i:Int)+1);rw [cnt_idx hi,cnt_idx (by rw [← hd.len];exact hi),List.getD_eq_getElem?_getD,List.getD_eq_getElem?_getD,List.getElem?_eq_getElem hi,List.getElem?_eq_getElem (by rw [← hd.len];exact hi)] at h3;have h4:=h.cr (s.pool.counts[i]'(by rw [← hd.len];exact hi)) (List.getElem_mem _);have h5:t.pool.refs=s.pool.refs:=hd.mid.refs
   refine⟨h3.1,?_⟩;show _≤t.pool.refs
   have h6:t.pool.counts[i]≤s.pool.counts[i]'(by rw [← hd.len];exact hi):=h3.2;omega
theorem lasts_of_counts(cs:List Int){n:Int}(h:1≤n∧n≤cs.length):(lastsOf cs).getD (n.toNat-1) false=decide (0<cs.getD (n.toNat-1) 0):=by
 unfold lastsOf;rw [List.getD_eq_getElem?_getD,List.getElem?_map,List.getD_eq_getElem?_getD,List.getElem?_eq_getElem (by omega)];rfl
theorem settled_state {s:PoolS}(ok:PoolOk s){n:Int}(h:s.there n):s.settled.state n=if s.count n=0 then 1 else 4:=by
 have h1:s.settled.there n:=h;have h2:s.settled.count n=s.count n:=rfl
 have h3:s.settled.lasts n=decide (0<s.count n):=by
  show (lastsOf s.counts).getD _ _=_
  rw [lasts_of_counts s.counts h];unfold PoolS.count;rw [if_pos h]
 rw [state_there h1,h2,h3];have:=(count_bd ok n).1
 by_cases h0:s.count n=0
 · rw [if_pos h0,h0];rfl
 · rw [if_neg h0];exact stateOf_pos (by omega)
theorem Twin.settle {s:VaultS}{rs:PoolS}{gs:List PageV}(h:Twin s rs gs)(ok:PoolOk s.pool):Twin s.settled { rs with last:=lastsOf rs.counts } (gsK rs gs rs.counts.length):=by
 have hst:∀m,s.pool.there m→s.pool.count m=0→s.pool.state m=1∨s.pool.state m=2:=fun m ht h0=>by
  rw [state_there ht,h0];unfold stateOf;rw [if_neg (by omega)];split<;>simp
 have hon:∀m,s.settled.on m=if s.pool.state m=2 then none else s.on m:=fun m=>rfl
 refine⟨h.cs,?_,h.rf,?_,fun m hm=> ?_,fun m hm ht=> ?_,fun m g hg=> ?_,h.cr⟩
 · show lastsOf rs.counts=lastsOf s.pool.counts
   rw [h.cs]
 · rw [gsK_len];exact h.gl
 · have hm2:s.pool.settled.state m=1:=hm
   have ht:s.pool.there m:=there_of_state (s:=s.pool.settled) (by omega);rw [settled_state ok ht] at hm2
   have h0:s.pool.count m=0:=by
    by_cases h0:s.pool.count m=0
    · exact h0
    · rw [if_neg h0] at hm2;cases hm2
   rw [hon];rcases hst m ht h0 with e | e
   · rw [if_neg (by omega)];exact h.bare m e
   · rw [if_pos e]
 · have hm2:s.pool.settled.state m≠1:=hm
   have ht2:s.pool.there m:=ht;rw [settled_state ok ht2] at hm2;have h0:s.pool.count m≠0:=fun e=>hm2 (if_pos e)
   have h1:s.pool.state m≠2:=fun e=>by
    rw [state_there ht2] at e;unfold stateOf at e;rw [if_pos (by have:=(count_bd ok m).1;omega)] at e;split at e<;>omega
   rw [hon,if_neg h1,h.at' ok h0];congr 1
   unfold pgAt;have hj:m.toNat-1<gs.length:=by rw [h.gl];have:=ht2.1;have:=ht2.2;omega
   rw [List.getD_eq_getElem?_getD,List.getD_eq_getElem?_getD,gsK_at _ _ _ _ hj,if_neg];intro hc;apply h0;have:=hc.2
   rw [h.cs] at this;unfold PoolS.count;rw [if_pos ht2];exact this
 · rw [hon] at hg
   split at hg
   · cases hg
   · exact h.fit m g hg
end Go.Cop
namespace Go.Cop
open Go.Proofs.YtpfafhklppondaaGreat.X6 Go.Proofs.YtpfafhklppondaaGreat.E9 Go.Proofs.YtpfafhklppondaaGreat.Y7 Go.Proofs.YtpfafhklppondaaGreat.M2 Go.Proofs.YtpfafhklppondaaGreat.X3 Go.Proofs.YtpfafhklppondaaGreat.W7 Go.Proofs.YtpfafhklppondaaGreat.E4 Go.Proofs.YtpfafhklppondaaGreat.F7
def leafP(c:Int):PageV:=⟨1,0,[⟨[c,1],[],0,0⟩],[],0⟩
def blobP(c:Int):PageV:=⟨3,0,[],[c],0⟩
def indexP(l a b:Int):PageV:=⟨2,l+1,[⟨[],[],a,0⟩,⟨[109],[],b,0⟩],[],0⟩
inductive Shape (N : Nat) : PageV → Prop where
  | leaf (c : Int) : 0 ≤ c ∧ c ≤ 255 → Shape N (leafP c)
  | blob (c : Int) : 0 ≤ c ∧ c ≤ 255 → Shape N (blobP c)
  | index (l a b : Int) : 0 ≤ l → l ≤ 4 → (1 ≤ a ∧ a ≤ N) → (1 ≤ b ∧ b ≤ N) → Shape N (indexP l a b)
theorem kids_leafP(c:Int):kidsOf (leafP c)= []:=by simp [kidsOf,kidsK,kidItem,leafP]
theorem kids_blobP(c:Int):kidsOf (blobP c)= []:=by simp [kidsOf,kidsK,blobP]
theorem kids_indexP(l a b:Int):kidsOf (indexP l a b)= [a,b]:=by simp [kidsOf,kidsK,kidItem,indexP]
theorem Shape.kids {N:Nat}{g:PageV}(h:Shape N g):∀k∈kidsOf g,1≤k∧k≤N:=by
 cases h with
 | leaf c _=>rw [kids_leafP];intro k hk;cases hk
 | blob c _=>rw [kids_blobP];intro k hk;cases hk
 | index l a b _ _ ha hb=>
   rw [kids_indexP];intro k hk;simp only [List.mem_cons,List.not_mem_nil,or_false] at hk;rcases hk with rfl | rfl<;>assumption
theorem Shape.two {N:Nat}{g:PageV}(h:Shape N g):(kidsOf g).length≤2:=by
 cases h with
 | leaf c _=>rw [kids_leafP];simp
 | blob c _=>rw [kids_blobP];simp
 | index l a b _ _ _ _=>rw [kids_indexP];simp
def Deg(s:VaultS)(X:Int→Int):Prop:= ∀n:Int,1≤n→n≤s.pool.counts.length→s.pool.count n=X n+((indeg s.get s.pool.counts n:Nat):Int)
def ShapedV(s:VaultS):Prop:= ∀n,s.pool.count n≠0→Shape s.pool.counts.length (s.get n)
theorem count_pos {s:PoolS}(ok:PoolOk s)(n:Int):0≤s.count n:=(count_bd ok n).1
theorem partD_le {s:VaultS}(hs:ShapedV s)(m n:Int):partD s.get s.pool.counts m n≤2:=by
 unfold partD;split
 · omega
 · rename_i h
   rw [← count_cnt] at h;exact Nat.le_trans List.count_le_length (hs n h).two
theorem inSum_le {s:VaultS}(hs:ShapedV s)(m:Int):∀k,inSum s.get s.pool.counts m k≤2*k
 | 0=>Nat.le_refl _
 | k+1=>by
   have:=inSum_le hs m k
   have:=partD_le hs m ((k:Int)+1)
   unfold inSum;omega
theorem Deg.le {s:VaultS}{X:Int→Int}(h:Deg s X)(hs:ShapedV s)(n:Int)(hx:0≤X n):s.pool.count n≤X n+2*s.pool.counts.length:=by
 by_cases hn:s.pool.count n=0
 · rw [hn];omega
 · have ht:=there_of_count hn
   have e:=h n ht.1 ht.2;have:=inSum_le hs n s.pool.counts.length
   unfold indeg at e;omega
theorem inSum_part {get:Int→PageV}{cs:List Int}{m n:Int}:∀k:Nat,1≤n→n≤k→partD get cs m n≤inSum get cs m k
 | 0,h1,h2=>by omega
 | k+1,h1,h2=>by
   unfold inSum;by_cases hn:n=(k:Int)+1
   · subst hn;omega
   · have:=inSum_part (get:=get) (cs:=cs) (m:=m) (n:=n) k h1 (by omega)
     omega
theorem Deg.kid {s:VaultS}{X:Int→Int}(h:Deg s X)(hs:ShapedV s){n k:Int}(hx:0≤X k)(hn:s.pool.count n≠0)(hk:k∈kidsOf (s.get n)):s.pool.count k≠0:=by
 have ht:=there_of_count hn;have hr:=(hs n hn).kids k hk;have e:=h k hr.1 hr.2;have h1:=inSum_part (get:=s.get) (cs:=s.pool.counts) (m:=k) (n:=n) s.pool.counts.length ht.1 ht.2;rw [partD_some (by rw [← count_cnt];exact hn)] at h1;have h2:=List.count_pos_iff.2 hk;unfold indeg at e;omega
theorem get_made {s:VaultS}{n:Int}{g:PageV}(m:Int):(s.made n g).get m=if m=n then g else s.get m:=by
 unfold VaultS.get;show (if m=n then some g else s.on m).getD _=_
 split<;>rfl
theorem deg_make {s:VaultS}{X X':Int→Int}(h:Deg s X)(ok:PoolOk s.pool){n:Int}(hn:s.pool.state n=1)(g:PageV)(hX:∀m,X' m+(((kidsOf g).count m:Nat):Int)=X m+if m=n then 1 else 0):Deg (s.made n g) X':=by
 have h0:=count_of_free ok hn;have ht:=there_of_state (by omega:s.pool.state n≠0);intro m h1 h2;rw [show (s.made n g).pool.counts.length=s.pool.counts.length from by show (s.pool.did n 1).counts.length=_;rw [did_counts,addC_len]] at h2;have hc:(s.made n g).pool.count m=if m=n then s.pool.count n+1 else s.pool.count m:=did_count ht
 have e:=h m h1 h2;have hx:=hX m
 have hi:=inSum_at (get:=(s.made n g).get) (get':=s.get) (cs:=(s.made n g).pool.counts) (cs':=s.pool.counts) (m:=m) (p:=n) s.pool.counts.length ht.1 ht.2 fun x _ _ hxn=>by
  unfold partD
  have e1:cntL (s.made n g).pool.counts x=cntL s.pool.counts x:=by
   rw [← count_cnt, ← count_cnt];have:=did_count (s:=s.pool) (n:=n) (b:=1) (m:=x) ht
   rw [if_neg hxn] at this;exact this
  rw [e1,get_made,if_neg hxn]
 rw [partD_zero (by rw [← count_cnt];exact h0),partD_some (by rw [← count_cnt];have:=did_count (s:=s.pool) (n:=n) (b:=1) (m:=n) ht;rw [if_pos rfl,h0] at this;show (s.pool.did n 1).count n≠0;omega),get_made,if_pos rfl] at hi;unfold indeg;rw [show (s.made n g).pool.counts.length=s.pool.counts.length from by show (s.pool.did n 1).counts.length=_;rw [did_counts,addC_len]];unfold indeg at e;rw [hc]
 by_cases hm:m=n
 · subst hm
   rw [if_pos rfl] at hx ⊢;omega
 · rw [if_neg hm] at hx ⊢
   omega
theorem shaped_make {s:VaultS}(hs:ShapedV s){n:Int}(ht:s.pool.there n){g:PageV}(hg:Shape s.pool.counts.length g):ShapedV (s.made n g):=by
 intro m hm;rw [show (s.made n g).pool.counts.length=s.pool.counts.length from by show (s.pool.did n 1).counts.length=_;rw [did_counts,addC_len],get_made];split
 · exact hg
 · rename_i hmn
   have hc:(s.made n g).pool.count m=if m=n then s.pool.count n+1 else s.pool.count m:=did_count ht
   rw [hc,if_neg hmn] at hm;exact hs m hm
theorem indeg_same {s t:VaultS}(hl:t.pool.counts.length=s.pool.counts.length)(hz:∀n,t.pool.count n=0↔s.pool.count n=0)(hg:∀n,s.pool.count n≠0→t.get n=s.get n)(m:Int):indeg t.get t.pool.counts m=indeg s.get s.pool.counts m:=by
 unfold indeg;rw [hl];refine inSum_same _ fun x _ _=> ?_
 unfold partD;rw [← count_cnt, ← count_cnt];by_cases hx:s.pool.count x=0
 · rw [if_pos hx,if_pos ((hz x).2 hx)]
 · rw [if_neg hx,if_neg (fun e=>hx ((hz x).1 e)),hg x hx]
theorem deg_keep {s:VaultS}{X:Int→Int}(h:Deg s X)(ok:PoolOk s.pool){n:Int}(hn:s.pool.count n≠0):Deg { s with pool:=s.pool.did n 1 } fun m=>X m+if m=n then 1 else 0:=by
 have ht:=there_of_count hn;have hc:∀m,({ s with pool:=s.pool.did n 1 }:VaultS).pool.count m=if m=n then s.pool.count n+1 else s.pool.count m:=fun m=>did_count ht
 have hl:({ s with pool:=s.pool.did n 1 }:VaultS).pool.counts.length=s.pool.counts.length:=by show (s.pool.did n 1).counts.length=_;rw [did_counts,addC_len]
 intro m h1 h2;rw [hl] at h2;have e:=h m h1 h2;have hp:=count_pos ok n
 rw [indeg_same (s:=s) hl (fun x=>by
  rw [hc]
  split
  · rename_i hx
    subst hx
    exact⟨fun e=>by omega,fun e=>absurd e hn⟩
  · exact Iff.rfl) (fun x _=>rfl),hc]
 show _=(X m+if m=n then 1 else 0)+((indeg s.get s.pool.counts m:Nat):Int)
 by_cases hm:m=n
 · subst hm
   rw [if_pos rfl,if_pos rfl];omega
 · rw [if_neg hm,if_neg hm]
   omega
theorem deg_drop {s t:VaultS}{X X':Int→Int}(h:Deg s X)(hs:ShapedV s){n:Int}{e:Int}{W:List (Int × Option PageV)}(hnn:∀m,0≤t.pool.count m)(hn:1≤n∧n≤s.pool.counts.length)(hd:DropR s.get [n] s.pool.counts e t.pool.counts)(di:DInv s t W)(hX:∀m,X m=X' m+if m=n then 1 else 0)(hX0:∀m,0≤X' m):
 e=0∧Deg t X'∧ShapedV t:=by
 obtain⟨h1,h2,h3,h4⟩:=drop_deg hd X' hX0 (fun m g1 g2=>by
  have:=h m g1 g2
  rw [count_cnt] at this
  have hx:=hX m
  have e1:List.count m [n]=if m=n then 1 else 0:=by
   rw [List.count_cons,List.count_nil]
   by_cases hm:m=n
   · subst hm;simp
   · rw [if_neg (by simpa using fun e=>hm e.symm),if_neg hm]
  rw [e1]
  split at hx<;>rename_i hm<;>simp only [hm,if_true,if_false] at* <;>omega) (fun m hm=>by
  rw [List.mem_singleton] at hm
  subst hm
  exact hn) (fun m hm k hk=>(hs m (by rw [count_cnt];exact hm)).kids k hk)
 have hg:∀m,t.pool.count m≠0→t.get m=s.get m:=fun m hm=>by
  unfold VaultS.get;rw [di.on];show (if t.pool.state m=1 then none else s.on m).getD _=_
  rw [if_neg];intro e;have hp:=hnn m;rw [state_there (there_of_count hm)] at e;unfold stateOf at e;rw [if_pos (by omega)] at e;split at e<;>omega
 refine⟨h1,fun m g1 g2=> ?_,fun m hm=> ?_⟩
 · have:=h3 m g1 g2
   rw [count_cnt,this]
   have e2:indeg t.get t.pool.counts m=indeg s.get t.pool.counts m:=by
    unfold indeg;refine inSum_same _ fun x _ _=> ?_
    unfold partD;split
    · rfl
    · rename_i hx
      rw [hg x (by rw [count_cnt];exact hx)]
   rw [e2]
 · rw [hg m hm,h2]
   exact hs m (by rw [count_cnt];exact h4 m (by rw [← count_cnt];exact hm))
theorem incs_ok:∀(ks:List Int) (s:PoolS),(∀m,0≤s.count m)→(∀k∈ks,s.count k≠0)→(∀k,s.count k+ks.length<s.refs)→(incsP s ks).1=0∧(incsP s ks).2.counts.length=s.counts.length∧(incsP s ks).2.last=s.last∧(∀m,(incsP s ks).2.count m=s.count m+((ks.count m:Nat):Int))∧(incsP s ks).2.refs=s.refs
 | [],s,_,_,_=>⟨rfl,rfl,rfl,fun m=>by simp [incsP],rfl⟩
 | k :: ks,s,hp,h1,h2=>by
   have hk:=h1 k (by simp);have hr:=h2 k;rw [List.length_cons] at hr
   have e0:incE s k=0:=by
    unfold incE;rw [if_neg hk,if_neg (by omega)]
   have ht:=there_of_count hk;have hc:∀m,(s.did k 1).count m=if m=k then s.count k+1 else s.count m:=fun m=>did_count ht
   have hpk:=hp k;have hlen:(s.did k 1).counts.length=s.counts.length:=by rw [did_counts,addC_len]
   rw [incsP_one,if_pos e0]
   obtain⟨a1,a2,a3,a4,a5⟩:=incs_ok ks (s.did k 1) (fun m=>by
    rw [hc]
    split
    · omega
    · exact hp m) (fun x hx=>by
    rw [hc]
    split
    · omega
    · exact h1 x (by simp [hx])) (fun x=>by
    have h3:=h2 x
    rw [List.length_cons] at h3
    rw [hc]
    show _<s.refs
    split<;>omega)
   refine⟨a1,a2.trans hlen,a3,fun m=> ?_,a5⟩;rw [a4,hc,List.count_cons];by_cases hm:m=k
   · subst hm
     rw [if_pos rfl,if_pos (by simp)];omega
   · rw [if_neg hm,if_neg (by simpa using fun e=>hm e.symm)]
     omega
theorem deg_leave {s:VaultS}{X X':Int→Int}(h:Deg s X)(hs:ShapedV s)(ok:PoolOk s.pool){n:Int}(hn:s.pool.count n≠0)(hb:∀m,s.pool.count m+2<s.pool.refs)(hkc:∀k∈kidsOf (s.get n),s.pool.count k≠0)(hX:∀m,(X' m+if m=n then 1 else 0)=X m+(((kidsOf (s.get n)).count m:Nat):Int)):
 (leaveR s n).1=0∧Deg (leaveR s n).2.1 X'∧ShapedV (leaveR s n).2.1∧(leaveR s n).2.1.pool.counts.length=s.pool.counts.length∧(leaveR s n).2.1.pool.last=s.pool.last∧(leaveR s n).2.1.on=(fun m=>if m=n∧s.pool.count n=1∧(s.pool.did n (-1)).state n=1 then none else s.on m)∧
 (∀m,s.pool.count m=0→(leaveR s n).2.1.pool.count m=0)∧(∀m,m≠n→m ∉ kidsOf (s.get n)→(leaveR s n).2.1.pool.count m=s.pool.count m)∧(leaveR s n).2.1.pool.refs=s.pool.refs:=by
 have ht:=there_of_count hn;have hp:=count_pos ok n;have hc:∀m,(s.pool.did n (-1)).count m=if m=n then s.pool.count n+ -1 else s.pool.count m:=fun m=>did_count ht
 have hlen:(s.pool.did n (-1)).counts.length=s.pool.counts.length:=by rw [did_counts,addC_len]
 by_cases h1:s.pool.count n=1
 · have e:leaveR s n=(0,{ s with pool:=s.pool.did n (-1),on:=fun m=>if m=n∧(s.pool.did n (-1)).state n=1 then none else s.on m },if(s.pool.did n (-1)).state n=1 then [(n,s.on n)] else []):=by unfold leaveR;rw [if_pos h1]
   rw [e];obtain⟨t,et⟩:∃t:VaultS,t= { s with pool:=s.pool.did n (-1),on:=fun m=>if m=n∧(s.pool.did n (-1)).state n=1 then none else s.on m }:=⟨_,rfl⟩
   have tc:∀m,t.pool.count m=if m=n then 0 else s.pool.count m:=fun m=>by
    rw [et];show (s.pool.did n (-1)).count m=_
    rw [hc,h1];split<;>omega
   have tl:t.pool.counts.length=s.pool.counts.length:=by rw [et];exact hlen
   have tg:∀m,m≠n→t.get m=s.get m:=fun m hm=>by
    rw [et];unfold VaultS.get;show (if m=n∧ _ then none else s.on m).getD _=_
    rw [if_neg (fun e=>hm e.1)]
   refine⟨rfl,?_,?_,by rw [← tl,et],rfl,?_,?_,?_,rfl⟩
   · show Deg { s with pool:=s.pool.did n (-1),on:=fun m=>if m=n∧(s.pool.did n (-1)).state n=1 then none else s.on m } X'
     rw [← et];intro m g1 g2;rw [tl] at g2;have e1:=h m g1 g2;have hx:=hX m
     have hi:=inSum_at (get:=t.get) (get':=s.get) (cs:=t.pool.counts) (cs':=s.pool.counts) (m:=m) (p:=n) s.pool.counts.length ht.1 ht.2 fun x _ _ hxn=>by
      unfold partD;rw [← count_cnt, ← count_cnt,tc,if_neg hxn,tg x hxn]
     rw [partD_zero (get:=t.get) (by rw [← count_cnt,tc,if_pos rfl]),partD_some (get:=s.get) (by rw [← count_cnt];exact hn)] at hi;unfold indeg at e1 ⊢;rw [tl,tc];by_cases hm:m=n
     · subst hm
       rw [if_pos rfl] at hx ⊢;omega
     · rw [if_neg hm] at hx ⊢
       omega
   · show ShapedV { s with pool:=s.pool.did n (-1),on:=fun m=>if m=n∧(s.pool.did n (-1)).state n=1 then none else s.on m }
     rw [← et];intro m hm;rw [tc] at hm;by_cases hmn:m=n
     · rw [if_pos hmn] at hm;exact absurd rfl hm
     · rw [if_neg hmn] at hm
       rw [tl,tg m hmn];exact hs m hm
   · funext m
     show (if m=n∧ _ then none else s.on m)=_
     simp only [h1,true_and]
   · intro m hm
     show (s.pool.did n (-1)).count m=0
     rw [hc];split<;>omega
   · intro m hm _
     show (s.pool.did n (-1)).count m=_
     rw [hc,if_neg hm]
 · have e:leaveR s n=((incsP (s.pool.did n (-1)) (kidsOf (s.get n))).1,{ s with pool:=(incsP (s.pool.did n (-1)) (kidsOf (s.get n))).2 },[]):=by unfold leaveR;rw [if_neg h1];rfl
   rw [e];have h2:=(hs n hn).two
   obtain⟨a1,a2,a3,a4,a5⟩:=incs_ok (kidsOf (s.get n)) (s.pool.did n (-1)) (fun m=>by
    have:=count_pos ok m
    rw [hc]
    split<;>omega) (fun k hk=>by
    have:=hkc _ hk
    rw [hc]
    split<;>omega) (fun k=>by
    have g1:=hb k
    have g2:=hb n
    rw [hc]
    show _<s.pool.refs
    split<;>omega)
   have tc:∀m,(incsP (s.pool.did n (-1)) (kidsOf (s.get n))).2.count m=(if m=n then s.pool.count n+ -1 else s.pool.count m)+(((kidsOf (s.get n)).count m:Nat):Int):=fun m=>by rw [a4,hc]
   have tz:∀m,(incsP (s.pool.did n (-1)) (kidsOf (s.get n))).2.count m=0↔s.pool.count m=0:=fun m=>by
    have g1:=count_pos ok m;by_cases hk:m∈kidsOf (s.get n)
    · have g2:=hkc _ hk
      have g3:=List.count_pos_iff.2 hk;rw [tc];exact⟨fun e=>by split at e<;>omega,fun e=>absurd e g2⟩
    · rw [tc,List.count_eq_zero_of_not_mem hk]
      split
      · rename_i hm
        subst hm;exact⟨fun e=>by omega,fun e=>by omega⟩
      · exact⟨fun e=>by omega,fun e=>by omega⟩
   refine⟨a1,?_,?_,a2.trans hlen,a3,?_,fun m hm=>(tz m).2 hm,fun m hm hk=>by show (incsP (s.pool.did n (-1)) (kidsOf (s.get n))).2.count m=_;rw [tc,if_neg hm,List.count_eq_zero_of_not_mem hk];omega,a5⟩
   · intro m g1 g2
     rw [show ({ s with pool:=(incsP (s.pool.did n (-1)) (kidsOf (s.get n))).2 }:VaultS).pool.counts.length=s.pool.counts.length from a2.trans hlen] at g2;have e1:=h m g1 g2;have hx:=hX m;rw [indeg_same (s:=s) (t:= { s with pool:=(incsP (s.pool.did n (-1)) (kidsOf (s.get n))).2 }) (a2.trans hlen) tz (fun _ _=>rfl)];show (incsP (s.pool.did n (-1)) (kidsOf (s.get n))).2.count m=_
     rw [tc];by_cases hm:m=n
     · subst hm
       rw [if_pos rfl] at hx ⊢;omega
     · rw [if_neg hm] at hx ⊢
       omega
   · intro m hm
     rw [show ({ s with pool:=(incsP (s.pool.did n (-1)) (kidsOf (s.get n))).2 }:VaultS).pool.counts.length=s.pool.counts.length from a2.trans hlen];exact hs m (fun e=>hm ((tz m).2 e))
   · funext m
     rw [if_neg (fun e=>h1 e.2.1)]
end Go.Cop
namespace Go.Cop
def storeE(s:PoolS)(K V:List Int):Int:=if K.length<1∨24<K.length then 7 else if 3840<V.length then 8 else if s.many 1<pagesV V then 12 else 0
def StoreAt(s:VaultS)(c:Int)(V:List Int)(ns:List Int):Prop:=(V.length≤32∧c=0∧ns= [])∨((32<V.length∧V.length≤3840)∧ChainAt s V (chunks V) 0 c ns)
abbrev storedI(K V:List Int)(c:Int):ItemV:=⟨K,if V.length≤32 then V else [],c,V.length⟩
theorem store_len {s:VaultS}{c:Int}{V ns:List Int}(h:StoreAt s c V ns):ns.length=pagesV V∧ns.length≤8:=by
 unfold pagesV;rcases h with⟨h1,_,rfl⟩ | ⟨h1,h2⟩
 · rw [if_pos h1];simp
 · rw [if_neg (by omega),Go.Cop.chain_len h2]
   unfold chunks;omega
theorem twin_stored {s a b:VaultS}{ns ms V:List Int}{c d:Int}{rs:PoolS}{gs:List PageV}(h:Taken s a ns)(k:Taken s b ms)(ch:StoreAt a c V ns)(kh:StoreAt b d V ms)(ht:Twin b rs gs):c=d∧Twin a rs gs:=by
 rcases ch with⟨h1,rfl,rfl⟩ | ⟨h1,h2⟩
 · rcases kh with⟨_,rfl,rfl⟩ | ⟨g1,_⟩
   · exact⟨rfl,ht.move (counts_ext (by rw [k.len,h.len]) fun n=>by rw [(h.same n (by simp)).1,(k.same n (by simp)).1]) (by rw [k.last,h.last]) (by rw [k.refs,h.refs]) (funext fun n=>by rw [(h.same n (by simp)).2,(k.same n (by simp)).2])⟩
   · omega
 · rcases kh with⟨g1,_⟩ | ⟨_,g2⟩
   · omega
   · exact twin_taken h k h2 g2 ht
theorem steps_sum {s t:VaultS}(h:Steps s t):(∀c∈s.pool.counts,0≤c)→(∀c∈t.pool.counts,0≤c)∧(sumC t.pool.counts:Int)+s.pool.acts.length=sumC s.pool.counts+t.pool.acts.length:=by
 induction h with
 | refl=>intro h;exact⟨h,rfl⟩
 | step n g h hn h0 ih=>
   intro hc;obtain⟨i1,i2⟩:=ih hc;rename_i t;have ht:=there_of_state (by omega:t.pool.state n≠0);have e:(t.make n g).pool.counts=addC t.pool.counts n 1:=did_counts t.pool n 1;have h1:cntL t.pool.counts n=0:=by rw [← count_cnt];exact h0
   have h2:=sum_addC (cs:=t.pool.counts) (n:=n) (b:=1) ht (by omega) (by omega);rw [e];refine⟨Go.Proofs.YtpfafhklppondaaGreat.J8.addC_nn i1 (by omega),?_⟩
   have h3:(t.make n g).pool.acts.length=t.pool.acts.length+1:=by
    show (t.pool.acts++ [(n,(1:Int))]).length=_
    simp
   rw [h2,h3];omega
theorem taken_sum {s t:VaultS}{ns:List Int}(h:Taken s t ns)(hc:∀c∈s.pool.counts,0≤c):sumC t.pool.counts=sumC s.pool.counts+ns.length:=by
 have h1:=(steps_sum h.steps hc).2;have h2:=h.pa;omega
end Go.Cop
namespace Go.Proofs.YtpfafhklppondaaGreat.Dy
open ChangeShapes WideShapes ChangeAt RowKit Sl Cop M2 P3 X3 G4 Q2 X2 J4 L4 P4 P5 V5 Z5 N6
end Go.Proofs.YtpfafhklppondaaGreat.Dy
namespace Go.Cop
open Go.Proofs.YtpfafhklppondaaGreat.K9
end Go.Cop
namespace Go.Proofs.YtpfafhklppondaaGreat.Ey
open ChangeShapes WideShapes ChangeAt RowKit Sl Cop M2 P3 X3 G4 Q2 X2 J4 L4 D5 K6 P4 Q6 L6 Q5 V5 E6 X7 Z7 C8 F8 K9 P9
end Go.Proofs.YtpfafhklppondaaGreat.Ey
namespace Go.Cop
open Go.Proofs.YtpfafhklppondaaGreat.G3
theorem check_leafP(c:Int):checkP (leafP c)=0:=by rfl
theorem check_blobP(c:Int):checkP (blobP c)=0:=by rfl
theorem check_indexP {l a b:Int}(hl:0≤l∧l≤4)(ha:1≤a∧a≤65536)(hb:1≤b∧b≤65536):checkP (indexP l a b)=0:=by
 have h1:isPg a=true:=by unfold isPg;simp;omega
 have h2:isPg b=true:=by unfold isPg;simp;omega
 have h3:formP 2 (l+1) 2 0 0=true:=by unfold formP;simp;omega
 unfold checkP indexP;simp [kindOk,h3,itemsE,itemE,keyOk,ordOk,valOk,kidOk,h1,h2,thenE,nextOk]
 intro _;decide
theorem Shape.check {N:Nat}(hN:N≤65536){g:PageV}(h:Shape N g):checkP g=0:=by
 cases h with
 | leaf c _=>exact check_leafP c
 | blob c _=>exact check_blobP c
 | index l a b h1 h2 ha hb=>exact check_indexP ⟨h1,h2⟩ ⟨ha.1,by omega⟩ ⟨hb.1,by omega⟩
theorem Shape.u8 {N:Nat}{g:PageV}(h:Shape N g):∀x∈g.items,U8 x.key:=by
 cases h with
 | leaf c hc=>
   intro x hx z hz;simp only [leafP,List.mem_singleton] at hx;subst hx;simp at hz
   rcases hz with rfl | rfl<;>omega
 | blob c _=>intro x hx;cases hx
 | index l a b _ _ _ _=>
   intro x hx z hz;simp only [indexP,List.mem_cons,List.not_mem_nil,or_false] at hx;rcases hx with rfl | rfl
   · cases hz
   · simp at hz;omega
theorem Shape.level {N:Nat}{g:PageV}(h:Shape N g):0≤g.level∧g.level≤5∧(g.kind=1∨g.kind=2∨g.kind=3):=by
 cases h with
 | leaf c _=>exact⟨Int.le_refl _,by show (0:Int)≤5;omega,.inl rfl⟩
 | blob c _=>exact⟨Int.le_refl _,by show (0:Int)≤5;omega,.inr (.inr rfl)⟩
 | index l a b h1 h2 _ _=>exact⟨by show 0≤l+1;omega,by show l+1≤5;omega,.inr (.inl rfl)⟩
end Go.Cop
namespace Go.Proofs.YtpfafhklppondaaGreat.Hy
open ChangeShapes WideShapes ChangeAt RowKit Sl Cop M2 P3 X3 G4 Q2 X2 J4 L4 D5 K6 P4 Q6 L6 E5 Q5 V5 E6 X7 Z7 C8 F8 K9 P9 Ey
abbrev item0:Obj:=itemC (.slice none 0 0) (.slice none 0 0) 0 0
end Go.Proofs.YtpfafhklppondaaGreat.Hy
namespace Go.Proofs.YtpfafhklppondaaGreat.Jy
open ChangeShapes WideShapes ChangeAt RowKit Sl Cop M2 P3 X3 G4 Q2 X2 J4 L4 D5 K6 P4 Q6 L6 V5 X7 Z7 C8 F8 V8 P9 Ey Hy T7
end Go.Proofs.YtpfafhklppondaaGreat.Jy
namespace Go.Cop
open Go.Proofs.YtpfafhklppondaaGreat.Y3 Go.Proofs.YtpfafhklppondaaGreat.G4 Go.Proofs.YtpfafhklppondaaGreat.Z7 Go.Proofs.YtpfafhklppondaaGreat.K9 Go.Proofs.YtpfafhklppondaaGreat.J8 Go.Proofs.YtpfafhklppondaaGreat.E4
structure Both(s:VaultS)(rs:PoolS)(gs:List PageV)(k:Nat):Prop where
 tw:Twin s rs gs
 pb:s.pool.floor+s.pool.acts.length+sumC s.pool.counts+16*k<1099511627776
 vb:s.floor+s.acts.length+16*k<1099511627776
theorem Both.mono {s:VaultS}{rs:PoolS}{gs:List PageV}{k:Nat}(h:Both s rs gs (k+1)):Both s rs gs k:=
 ⟨h.tw,by have:=h.pb;omega,by have:=h.vb;omega⟩
theorem Both.drop {s t:VaultS}{rs:PoolS}{gs:List PageV}{k:Nat}(h:Both s rs gs (k+1))(ok:PoolOk s.pool){l:List Int}{e:Int}{W:List (Int × Option PageV)}(hd:DInv s t W)(hf:Far s t)(h1:DropR s.get l s.pool.counts e t.pool.counts)(a:ActV):Both (t.acted a) { rs with counts:=t.pool.counts } gs k:=by
 refine⟨h.tw.drop ok hd h1 a,?_,?_⟩
 · have h2:=hf.acts
   have h3:=h.pb;show t.pool.floor+t.pool.acts.length+sumC t.pool.counts+16*k< _
   omega
 · have h2:=hd.mid.vf
   have h3:=hd.mid.va;have h4:=h.vb;show t.floor+((t.acts++ [a]).length:Nat)+16*k< _
   rw [List.length_append,h2,h3];simp only [List.length_singleton];omega
theorem Both.keep {s:VaultS}{rs:PoolS}{gs:List PageV}{k:Nat}(h:Both s rs gs (k+1))(ok:PoolOk s.pool){n:Int}(he:incE s.pool n=0)(a:ActV):Both ({ s with pool:=s.pool.did n 1 }.acted a) { rs with counts:=addC rs.counts n 1 } gs k:=by
 have h0:s.pool.count n≠0:=fun e=>by unfold incE at he;rw [if_pos e] at he;cases he
 have ht:=there_of_count h0;have hb:=(count_bd ok n).1;refine⟨h.tw.keep ok he a,?_,?_⟩
 · have h2:=sum_addC (cs:=s.pool.counts) (n:=n) (b:=1) ht (by rw [← count_cnt];exact hb) (by rw [← count_cnt];omega)
   have h3:=h.pb;show s.pool.floor+((s.pool.acts++ [(n,(1:Int))]).length:Nat)+(sumC (s.pool.did n 1).counts:Nat)+16*k< _
   rw [did_counts,List.length_append];simp only [List.length_singleton];omega
 · have h4:=h.vb
   show s.floor+((s.acts++ [a]).length:Nat)+16*k< _
   rw [List.length_append];simp only [List.length_singleton];omega
theorem Both.settle {s:VaultS}{rs:PoolS}{gs:List PageV}{k:Nat}(h:Both s rs gs (k+1))(ok:PoolOk s.pool):Both s.settled { rs with last:=lastsOf rs.counts } (gsK rs gs rs.counts.length) k:=by
 refine⟨h.tw.settle ok,?_,?_⟩
 · have h3:=h.pb
   show s.pool.floor+s.pool.acts.length+((([]:List (Int × Int)).length:Nat):Int)+sumC s.pool.counts+16*k< _
   simp only [List.length_nil];omega
 · have h3:=h.vb
   show s.floor+s.acts.length+((([]:List ActV).length:Nat):Int)+16*k< _
   simp only [List.length_nil];omega
theorem Both.store {s a b:VaultS}{ns ms V:List Int}{c d:Int}{rs rs':PoolS}{gs gs':List PageV}{k:Nat}(h:Both s rs gs (k+1))(ok:PoolOk s.pool)(ha:Taken s a ns)(hb:Taken s b ms)(ca:StoreAt a c V ns)(cb:StoreAt b d V ms)(ht:Twin b rs' gs'):c=d∧Both a rs' gs' k:=by
 obtain⟨e,tw⟩:=twin_stored ha hb ca cb ht;have h8:=(store_len ca).2;have h1:=taken_sum ha (fun c hc=>(ok.cs c hc).1);have h2:=ha.pf;have h3:=ha.pa;have h4:=ha.vf;have h5:=ha.va;have h6:=h.pb;have h7:=h.vb;exact⟨e,tw,by omega,by omega⟩
theorem Both.fit {s:VaultS}{rs:PoolS}{gs:List PageV}{k:Nat}(h:Both s rs gs k):∀n g,s.on n=some g→g.items.length≤65535:=fun n g hg=>by
 have:=(h.tw.fit n g hg).n
 omega
theorem Both.cr {s:VaultS}{rs:PoolS}{gs:List PageV}{k:Nat}(h:Both s rs gs k)(ok:PoolOk s.pool):∀c∈rs.counts,c≤65536:=fun c hc=>by
 rw [h.tw.cs] at hc;exact(ok.cs c hc).2
end Go.Cop
