/- Put, call by call, over a vault's state: which calls it comes to, and what each leaves. Plain lemmas. -/
import Derived.Test.YtkfjilnmnbeokaaGreatPutInPlaceM33
import Derived.Test.YtkfjilnmnbeokaaGreatPutInPlaceM34
import Derived.Test.YtkfjilnmnbeokaaGreatPutInPlaceM23
import Derived.Test.YtkfjilnmnbeokaaGreatPutInPlaceM32
set_option maxRecDepth 100000
set_option maxHeartbeats 16000000
namespace Go.Cop
open Go.Proofs.YtkfjilnmnbeokaaGreat.D6 Go.Proofs.YtkfjilnmnbeokaaGreat.D8 Go.Proofs.YtkfjilnmnbeokaaGreat.M7 Go.Proofs.YtkfjilnmnbeokaaGreat.D2 Go.Proofs.YtkfjilnmnbeokaaGreat.J3 Go.Proofs.YtkfjilnmnbeokaaGreat.J7 Go.Proofs.YtkfjilnmnbeokaaGreat.Q3 Go.Proofs.YtkfjilnmnbeokaaGreat.P8 Go.Proofs.YtkfjilnmnbeokaaGreat.C7
def lookV(s:VaultS)(n:Int):Option PageV:=if s.pool.count n=0 then none else some (s.get n)
def MkR(s:VaultS)(g:PageV)(n:Int)(s':VaultS):Prop:=checkP g=0∧mkR s (some n)∧s'=(mkS s g (some n)).acted ⟨s.pool.mark,mkW s (some n)⟩∧PoolOk s'.pool
def WrR(s:VaultS)(n:Int)(g:PageV)(s':VaultS):Prop:=ownP s.pool n=true∧checkP g=0∧s'=(wrS s n g).acted ⟨s.pool.mark,[(n,s.on n)]⟩∧PoolOk s'.pool
def ShR(s:VaultS)(n c:Int)(s':VaultS):Prop:=s.pool.count n≠0∧((ownP s.pool n=true∧c=n∧s'=s)∨
 (ownP s.pool n=false∧∃g,s.on n=some g∧mkR s (some c)∧shE s n g (some c)=0∧s'=(shS s n g (some c)).acted ⟨s.pool.mark,shW s n g (some c)⟩∧PoolOk s'.pool))
def RelR(s:VaultS)(x:ItemV)(s':VaultS):Prop:=(x.size≤32∧s'=s)∨(32<x.size∧∃t W,DropR s.get [x.child] s.pool.counts 0 t.pool.counts∧DInv s t W∧Far s t∧s'=t.acted ⟨s.pool.mark,W⟩∧PoolOk s'.pool)
def HalfR(s:VaultS)(n m:Int)(sep:List Int)(s':VaultS):Prop:=
 ∃g,s.on n=some g∧((g.items.length<8∧m=0∧sep= []∧s'=s)∨(g.items.length=8∧sep=sepG g∧∃s1,MkR s (rightG g) m s1∧WrR s1 n (leftG g) s'))
def newG(g:PageV)(i:Nat)(c m:Int)(sep:List Int):PageV:=if m=0 then childG g i c else insG (childG g i c) (i+1) ⟨sep,[],m,0⟩
def DownR(s:VaultS)(n:Int)(g:PageV)(key:List Int)(s':VaultS)(d:Int):Prop:=
 ∃c m sep s1 s2,ShR s (itemAt g.items (routeK g.items key)).child c s1∧HalfR s1 c m sep s2∧WrR s2 n (newG g (routeK g.items key) c m sep) s'∧
  d=(itemAt (newG g (routeK g.items key) c m sep).items (routeK (newG g (routeK g.items key) c m sep).items key)).child
inductive LoopR (x : ItemV) : Bool → VaultS → Int → VaultS → Prop where
  | add (s : VaultS) (n : Int) (g : PageV) (s' : VaultS) : s.on n = some g → g.kind ≠ 2 → WrR s n (insG g (searchK x.key g.items).1 x) s' → LoopR x false s n s'
  | rep (s : VaultS) (n : Int) (g : PageV) (s1 s' : VaultS) : s.on n = some g → g.kind ≠ 2 → (searchK x.key g.items).1 < g.items.length → WrR s n (repG g (searchK x.key g.items).1 x) s1 → RelR s1 (itemAt g.items (searchK x.key g.items).1) s' → LoopR x true s n s'
  | down (was : Bool) (s : VaultS) (n : Int) (g : PageV) (s1 : VaultS) (d : Int) (s' : VaultS) : s.on n = some g → g.kind = 2 → DownR s n g x.key s1 d → LoopR x was s1 d s' → LoopR x was s n s'
def topG(h c:Int)(sep:List Int)(m:Int):PageV:=⟨2,h,[⟨[],[],c,0⟩,⟨sep,[],m,0⟩],[],0⟩
def RootR(s:VaultS)(root height:Int)(s':VaultS)(n h':Int):Prop:=
 ∃c s1 m sep s2,ShR s root c s1∧HalfR s1 c m sep s2∧((m=0∧s'=s2∧n=c∧h'=height)∨(m≠0∧MkR s2 (topG height c sep m) n s'∧h'=height+1))
def PutR(s:VaultS)(root height items:Int)(K V:List Int)(was:Bool)(s':VaultS)(root' height' items':Int):Prop:=
 ∃c s1 ns,Taken s s1 ns∧StoreAt s1 c V ns∧PoolOk s1.pool∧
  ((root=0∧was=false∧MkR s1 ⟨1,0,[storedI K V c],[],0⟩ root' s'∧height'=1∧items'=1)∨
   (root≠0∧∃s2,RootR s1 root height s2 root' height'∧LoopR (storedI K V c) was s2 root' s'∧items'=items+(if was then 0 else 1)))
structure VInv(s:VaultS):Prop where
 ok:PoolOk s.pool
 cr:CR s.pool
 bare:Bare s
 on:∀n,s.pool.count n≠0→∃g,s.on n=some g
 chk:∀n g,s.on n=some g→checkP g=0
 u8:∀n g,s.on n=some g→∀x∈g.items,U8 x.key
theorem VInv.look {s:VaultS}(h:VInv s):Go.Proofs.YtkfjilnmnbeokaaGreat.N7.Looks s (lookV s):=by
 refine⟨fun n hn=> ?_,fun n g hg=> ?_⟩
 · unfold lookV at hn
   split at hn
   · assumption
   · cases hn
 · unfold lookV at hg
   split at hg
   · cases hg
   · rename_i h0
     obtain⟨g',e⟩:=h.on n h0;have e2:s.get n=g':=by unfold VaultS.get;rw [e];rfl
     rw [e2] at hg;cases hg;have ht:=there_of_count h0;exact⟨⟨ht.1,by have:=ht.2;have:=h.ok.n2;omega⟩,h0,e,fit_of_check (h.chk n _ e)⟩
theorem look_on {s:VaultS}{n:Int}{g:PageV}(h0:s.pool.count n≠0)(h:s.on n=some g):lookV s n=some g:=by
 unfold lookV VaultS.get;rw [if_neg h0,h];rfl
theorem on_look {s:VaultS}(h:VInv s){n:Int}{g:PageV}(hl:lookV s n=some g):s.pool.count n≠0∧s.on n=some g:=⟨(h.look.some n g hl).2.1,(h.look.some n g hl).2.2.1⟩
theorem get_on {s:VaultS}{n:Int}{g:PageV}(h:s.on n=some g):s.get n=g:=by unfold VaultS.get;rw [h];rfl
theorem VInv.pgs {s:VaultS}(h:VInv s):PgsOk (lookV s):=⟨fun n g hg=>h.chk n g (on_look h hg).2,fun n g hg=>h.u8 n g (on_look h hg).2⟩
theorem VInv.chkA {s:VaultS}(h:VInv s):ChkAll (lookV s):=h.pgs.chk
theorem own_iff {p:PoolS}{n:Int}:ownP p n=true↔p.state n=3∧p.count n=1:=by unfold ownP;simp
theorem own_facts {s:VaultS}(_:VInv s){n:Int}(ho:ownP s.pool n=true):s.pool.count n=1∧s.pool.lasts n=false∧s.pool.there n:=by
 obtain⟨h1,h2⟩:=own_iff.1 ho;have ht:=there_of_count (s:=s.pool) (n:=n) (by omega);refine⟨h2,?_,ht⟩;rw [state_there ht,h2] at h1;cases hl:s.pool.lasts n with
 | false=>rfl
 | true=>rw [hl] at h1;simp [stateOf] at h1
theorem own_of {p:PoolS}{n:Int}(h1:p.count n=1)(h2:p.lasts n=false):ownP p n=true:=by
 refine own_iff.2 ⟨?_,h1⟩;rw [state_there (there_of_count (by omega)),h1,h2];rfl
structure Keeps(s s':VaultS):Prop where
 last:s'.pool.last=s.pool.last
 refs:s'.pool.refs=s.pool.refs
 len:s'.pool.counts.length=s.pool.counts.length
 on:∀m,s.pool.lasts m=true→s'.on m=s.on m
theorem Keeps.refl(s:VaultS):Keeps s s:=⟨rfl,rfl,rfl,fun _ _=>rfl⟩
theorem Keeps.lasts {s s':VaultS}(h:Keeps s s')(m:Int):s'.pool.lasts m=s.pool.lasts m:=by unfold PoolS.lasts;rw [h.last]
theorem Keeps.trans {a b c:VaultS}(h:Keeps a b)(k:Keeps b c):Keeps a c:=
 ⟨k.last.trans h.last,k.refs.trans h.refs,k.len.trans h.len,fun m hm=>(k.on m (by rw [h.lasts];exact hm)).trans (h.on m hm)⟩
theorem did_len(s:PoolS)(n b:Int):(s.did n b).counts.length=s.counts.length:=List.length_set
theorem free_iff {s:VaultS}(h:VInv s){n:Int}:s.pool.state n=1↔s.pool.there n∧s.pool.count n=0∧s.pool.lasts n=false:=by
 constructor
 · intro hs
   exact⟨there_of_state (by omega),count_of_free h.ok hs,lasts_of_free h.ok hs⟩
 · rintro⟨h1,h2,h3⟩
   rw [state_there h1,h2,h3];rfl
theorem made_ext {s:VaultS}(h:VInv s){g:PageV}{n:Int}(hf:s.pool.state n=1):(∀m,(s.made n g).pool.count m=if m=n then 1 else s.pool.count m)∧(∀m,(s.made n g).on m=if m=n then some g else s.on m)∧Keeps s (s.made n g):=by
 obtain⟨h1,h2,h3⟩:=(free_iff h).1 hf;refine⟨fun m=> ?_,fun m=>rfl,rfl,rfl,did_len _ _ _,fun m hm=> ?_⟩
 · show (s.pool.did n 1).count m=_
   rw [did_count h1,h2];rfl
 · show (if m=n then some g else s.on m)=_
   rw [if_neg (fun e=>by rw [e,h3] at hm;cases hm)]
theorem VInv.of {s s':VaultS}(h:VInv s)(k:Keeps s s')(ok:PoolOk s'.pool)(cr:CR s'.pool)(hb:∀m,s'.on m≠none→s'.pool.count m=0→s.pool.lasts m=true∨(s.pool.count m=0∧s.on m≠none))(hn:∀m,s'.pool.count m≠0→s'.on m≠none)
 (hg:∀m g,s'.on m=some g→s.on m=some g∨(checkP g=0∧∀x∈g.items,U8 x.key)):VInv s':=by
 refine⟨ok,cr,fun m hm=> ?_,fun m hm=> ?_,fun m g hm=> ?_,fun m g hm=> ?_⟩
 · have h1:=count_of_free ok hm
   have h2:=lasts_of_free ok hm;rw [k.lasts] at h2;cases ho:s'.on m with
   | none=>rfl
   | some g=>
     exfalso;rcases hb m (by rw [ho];simp) h1 with h3 | ⟨h3,h4⟩
     · rw [h2] at h3;cases h3
     · have ht:=there_of_state (s:=s'.pool) (n:=m) (by omega)
       exact h4 (h.bare m ((free_iff h).2 ⟨⟨ht.1,by rw [← k.len];exact ht.2⟩,h3,h2⟩))
 · cases ho:s'.on m with
   | none=>exact absurd ho (hn m hm)
   | some g=>exact⟨g,rfl⟩
 · rcases hg m g hm with h1 | h1
   · exact h.chk m g h1
   · exact h1.1
 · rcases hg m g hm with h1 | h1
   · exact h.u8 m g h1
   · exact h1.2
theorem mk_ext {s s':VaultS}(h:VInv s){g:PageV}{n:Int}(hm:MkR s g n s')(hu:∀x∈g.items,U8 x.key):(s.pool.there n∧s.pool.count n=0∧s.pool.lasts n=false)∧(∀m,s'.pool.count m=if m=n then 1 else s.pool.count m)∧(∀m,s'.on m=if m=n then some g else s.on m)∧Keeps s s'∧VInv s':=by
 obtain⟨hc,⟨hf,_⟩,rfl,ok⟩:=hm;obtain⟨h1,h2,h3⟩:=made_ext h (g:=g) hf;have hfr:=(free_iff h).1 hf;have h1':∀m,((mkS s g (some n)).acted ⟨s.pool.mark,mkW s (some n)⟩).pool.count m=if m=n then 1 else s.pool.count m:=h1
 have h2':∀m,((mkS s g (some n)).acted ⟨s.pool.mark,mkW s (some n)⟩).on m=if m=n then some g else s.on m:=h2
 have h3':Keeps s ((mkS s g (some n)).acted ⟨s.pool.mark,mkW s (some n)⟩):=⟨h3.last,h3.refs,h3.len,h3.on⟩;refine⟨hfr,h1',h2',h3',h.of h3' ok (fun m=> ?_) (fun m ho h0=> ?_) (fun m h0=> ?_) fun m g' hg'=> ?_⟩
 · rw [h1']
   have:=h.cr m
   have:=h.ok.r1
   show _≤s.pool.refs
   split<;>omega
 · rw [h1'] at h0
   rw [h2'] at ho;by_cases hmn:m=n
   · rw [if_pos hmn] at h0;omega
   · rw [if_neg hmn] at h0 ho
     exact .inr ⟨h0,ho⟩
 · rw [h1'] at h0
   rw [h2'];by_cases hmn:m=n
   · rw [if_pos hmn];simp
   · rw [if_neg hmn] at h0 ⊢
     obtain⟨g',e⟩:=h.on m h0;rw [e];simp
 · rw [h2'] at hg'
   by_cases hmn:m=n
   · rw [if_pos hmn] at hg'
     cases hg';exact .inr ⟨hc,hu⟩
   · rw [if_neg hmn] at hg'
     exact .inl hg'
theorem wr_ext {s s':VaultS}(h:VInv s){g:PageV}{n:Int}(hm:WrR s n g s')(hu:∀x∈g.items,U8 x.key):ownP s.pool n=true∧s'.pool=s.pool∧(∀m,s'.on m=if m=n then some g else s.on m)∧Keeps s s'∧VInv s':=by
 obtain⟨ho,hc,rfl,ok⟩:=hm;obtain⟨o1,o2,o3⟩:=own_facts h ho;have h2':∀m,((wrS s n g).acted ⟨s.pool.mark,[(n,s.on n)]⟩).on m=if m=n then some g else s.on m:=fun m=>rfl
 have hk:Keeps s ((wrS s n g).acted ⟨s.pool.mark,[(n,s.on n)]⟩):=⟨rfl,rfl,rfl,fun m hm=>by rw [h2',if_neg (fun e=>by rw [e,o2] at hm;cases hm)]⟩;refine⟨ho,rfl,h2',hk,h.of hk ok h.cr (fun m hon h0=> ?_) (fun m h0=> ?_) fun m g' hg'=> ?_⟩
 · have h0':s.pool.count m=0:=h0
   rw [h2'] at hon;by_cases hmn:m=n
   · subst hmn;omega
   · rw [if_neg hmn] at hon
     exact .inr ⟨h0',hon⟩
 · have h0':s.pool.count m≠0:=h0
   rw [h2'];by_cases hmn:m=n
   · rw [if_pos hmn];simp
   · rw [if_neg hmn]
     obtain⟨g',e⟩:=h.on m h0';rw [e];simp
 · rw [h2'] at hg'
   by_cases hmn:m=n
   · rw [if_pos hmn] at hg'
     cases hg';exact .inr ⟨hc,hu⟩
   · rw [if_neg hmn] at hg'
     exact .inl hg'
theorem incs_ext:∀(ks:List Int) {p:PoolS},CR p→(incsP p ks).1=0→(∀m,(incsP p ks).2.count m=p.count m+(ks.count m:Nat))∧(incsP p ks).2.last=p.last∧(incsP p ks).2.refs=p.refs∧(incsP p ks).2.counts.length=p.counts.length∧CR (incsP p ks).2∧∀k∈ks,p.count k≠0
 | [],p,hc,_=>⟨fun m=>by simp [incsP],rfl,rfl,rfl,hc,fun k hk=>by cases hk⟩
 | k :: ks,p,hc,h=>by
   rw [incsP_one] at h ⊢;by_cases h0:incE p k=0
   · rw [if_pos h0] at h ⊢
     obtain⟨c1,c2⟩:=hc.did h0;obtain⟨a1,a2,a3,a4,a5,a6⟩:=incs_ext ks c1 h;have hk0:p.count k≠0:=fun e=>by unfold incE at h0;rw [if_pos e] at h0;cases h0
     refine⟨fun m=> ?_,a2,a3,a4.trans (did_len _ _ _),a5,fun m hm=> ?_⟩;rotate_left
     · rcases List.mem_cons.1 hm with rfl | hm
       · exact hk0
       · have:=a6 m hm
         rw [did_count c2] at this;by_cases e:m=k
         · subst e;exact hk0
         · rw [if_neg e] at this;exact this
     rw [a1 m,did_count c2,List.count_cons];by_cases hm:m=k
     · subst hm
       simp only [if_true,beq_self_eq_true];omega
     · have e:((k == m)=true)=False:=by simp;exact fun e=>hm e.symm
       simp only [hm,if_false,e];omega
   · rw [if_neg h0] at h
     exact absurd h h0
theorem sh_ext {s s':VaultS}(h:VInv s){n c:Int}(hs:ShR s n c s'):(ownP s.pool n=true∧c=n∧s'=s)∨
 (ownP s.pool n=false∧s.pool.count n≠0∧(s.pool.there c∧s.pool.count c=0∧s.pool.lasts c=false)∧(∀m,s'.on m=if m=c then s.on n else s.on m)∧Keeps s s'∧VInv s'∧
   ((s.pool.count n=1∧∀m,s'.pool.count m=if m=c then 1 else if m=n then s.pool.count n-1 else s.pool.count m)∨
    (s.pool.count n≠1∧∀m,s'.pool.count m=(if m=c then 1 else if m=n then s.pool.count n-1 else s.pool.count m)+((kidsOf (s.get n)).count m:Nat)))):=by
 obtain⟨hn0,(⟨h1,h2,h3⟩ | ⟨h1,g,hg,hz,he,rfl,ok⟩)⟩:=hs
 · exact .inl ⟨h1,h2,h3⟩
 · right
   have hfr:=(free_iff h).1 hz.1;obtain⟨m1,m2,m3⟩:=made_ext h (g:=g) hz.1;have hnc:n≠c:=fun e=>hn0 (by rw [e];exact hfr.2.1)
   have htn:(s.made c g).pool.there n:=by
    have ht:=there_of_count hn0;exact⟨ht.1,by rw [m3.len];exact ht.2⟩
   have hcn:(s.made c g).pool.count n=s.pool.count n:=by rw [m1,if_neg hnc]
   have hgn:(s.made c g).on n=some g:=by rw [m2,if_neg hnc,hg]
   have hd:∀m,((s.made c g).pool.did n (-1)).count m=if m=c then 1 else if m=n then s.pool.count n-1 else s.pool.count m:=by
    intro m;rw [did_count htn,hcn,m1];by_cases hmn:m=n
    · subst hmn
      rw [if_pos rfl,if_neg hnc,if_pos rfl];omega
    · rw [if_neg hmn,if_neg hmn]
   have hcr1:CR (s.made c g).pool:=by
    intro m;rw [m1,m3.refs];have:=h.cr m
    have:=h.ok.r1
    split<;>omega
   have hnn:=(count_bd h.ok n).1;have hget:s.get n=g:=get_on hg;have hons:∀m,s.pool.count m≠0→s.on m≠none:=fun m hm=>by obtain⟨g',e⟩:=h.on m hm;rw [e];simp
   refine⟨h1,hn0,hfr,?_⟩;by_cases h1n:s.pool.count n=1
   · have hl:s.pool.lasts n=true:=by
      cases hl:s.pool.lasts n with
      | true=>rfl
      | false=>rw [own_of h1n hl] at h1;cases h1
     have hst:((s.made c g).pool.did n (-1)).state n≠1:=by
      intro e;have hld:(s.made c g).pool.lasts n=true:=hl;rw [did_state htn,if_pos rfl,hcn,h1n,hld] at e;simp [stateOf] at e
     have e2:shS s n g (some c)= { s.made c g with pool:=(s.made c g).pool.did n (-1),on:=fun m=>if m=n∧((s.made c g).pool.did n (-1)).state n=1 then none else(s.made c g).on m }:=by
      show (leaveR (s.made c g) n).2.1=_
      unfold leaveR;rw [if_pos (by rw [hcn];exact h1n)]
     have o1:∀m,((shS s n g (some c)).acted ⟨s.pool.mark,shW s n g (some c)⟩).on m=if m=c then s.on n else s.on m:=by
      intro m;rw [e2];show (if m=n∧((s.made c g).pool.did n (-1)).state n=1 then none else(s.made c g).on m)=_
      rw [if_neg (fun e=>hst e.2),m2,hg]
     have o5:∀m,((shS s n g (some c)).acted ⟨s.pool.mark,shW s n g (some c)⟩).pool.count m=if m=c then 1 else if m=n then s.pool.count n-1 else s.pool.count m:=by
      intro m;rw [e2];exact hd m
     have hk:Keeps s ((shS s n g (some c)).acted ⟨s.pool.mark,shW s n g (some c)⟩):=by
      refine⟨by rw [e2];rfl,by rw [e2];rfl,by rw [e2];exact(did_len _ _ _).trans m3.len,fun m hm=> ?_⟩;rw [o1,if_neg (fun e=>by rw [e,hfr.2.2] at hm;cases hm)]
     have hcr:CR ((shS s n g (some c)).acted ⟨s.pool.mark,shW s n g (some c)⟩).pool:=by rw [e2];exact hcr1.dec htn
     refine⟨o1,hk,h.of hk ok hcr (fun m hon h0=> ?_) (fun m h0=> ?_) (fun m g' hg'=> ?_),.inl ⟨h1n,o5⟩⟩
     · rw [o5] at h0
       rw [o1] at hon;by_cases hmc:m=c
       · rw [if_pos hmc] at h0;omega
       · rw [if_neg hmc] at h0 hon
         by_cases hmn:m=n
         · exact .inl (hmn ▸ hl)
         · rw [if_neg hmn] at h0
           exact .inr ⟨h0,hon⟩
     · rw [o5] at h0
       rw [o1];by_cases hmc:m=c
       · rw [if_pos hmc,hg];simp
       · rw [if_neg hmc] at h0 ⊢
         by_cases hmn:m=n
         · rw [if_pos hmn] at h0;omega
         · rw [if_neg hmn] at h0
           exact hons m h0
     · rw [o1] at hg'
       by_cases hmc:m=c
       · rw [if_pos hmc] at hg'
         exact .inr ⟨h.chk n g' hg',h.u8 n g' hg'⟩
       · rw [if_neg hmc] at hg'
         exact .inl hg'
   · have hgn':((s.made c g).on n).getD ⟨0,0,[],[],0⟩=g:=by rw [hgn];rfl
     have e1:leaveR (s.made c g) n=((incsP ((s.made c g).pool.did n (-1)) (kidsOf g)).1,{ s.made c g with pool:=(incsP ((s.made c g).pool.did n (-1)) (kidsOf g)).2 },[]):=by
      unfold leaveR;rw [if_neg (by rw [hcn];exact h1n),hgn']
     have e2:shS s n g (some c)= { s.made c g with pool:=(incsP ((s.made c g).pool.did n (-1)) (kidsOf g)).2 }:=by
      show (leaveR (s.made c g) n).2.1=_
      rw [e1]
     have e3:(incsP ((s.made c g).pool.did n (-1)) (kidsOf g)).1=0:=by
      have:(leaveR (s.made c g) n).1=0:=he
      rw [e1] at this;exact this
     obtain⟨a1,a2,a3,a4,a5,a6⟩:=incs_ext (kidsOf g) (hcr1.dec htn) e3
     have o1:∀m,((shS s n g (some c)).acted ⟨s.pool.mark,shW s n g (some c)⟩).on m=if m=c then s.on n else s.on m:=by
      intro m;rw [e2];show (s.made c g).on m=_
      rw [m2,hg]
     have o5:∀m,((shS s n g (some c)).acted ⟨s.pool.mark,shW s n g (some c)⟩).pool.count m=(if m=c then 1 else if m=n then s.pool.count n-1 else s.pool.count m)+((kidsOf (s.get n)).count m:Nat):=by
      intro m;rw [e2,hget, ← hd];exact a1 m
     have hk:Keeps s ((shS s n g (some c)).acted ⟨s.pool.mark,shW s n g (some c)⟩):=by
      refine⟨by rw [e2];exact a2,by rw [e2];exact a3,by rw [e2];exact a4.trans ((did_len _ _ _).trans m3.len),fun m hm=> ?_⟩;rw [o1,if_neg (fun e=>by rw [e,hfr.2.2] at hm;cases hm)]
     have hcr:CR ((shS s n g (some c)).acted ⟨s.pool.mark,shW s n g (some c)⟩).pool:=by rw [e2];exact a5
     refine⟨o1,hk,h.of hk ok hcr (fun m hon h0=> ?_) (fun m h0=> ?_) (fun m g' hg'=> ?_),.inr ⟨h1n,o5⟩⟩
     · rw [o5] at h0
       rw [o1] at hon;have hp:=(count_bd h.ok m).1;by_cases hmc:m=c
       · rw [if_pos hmc] at h0;omega
       · rw [if_neg hmc] at h0 hon
         by_cases hmn:m=n
         · rw [if_pos hmn] at h0;omega
         · rw [if_neg hmn] at h0
           exact .inr ⟨by omega,hon⟩
     · rw [o5,hget] at h0
       rw [o1];by_cases hmc:m=c
       · rw [if_pos hmc,hg];simp
       · rw [if_neg hmc] at h0 ⊢
         by_cases hmn:m=n
         · rw [hmn,hg];simp
         · rw [if_neg hmn] at h0
           refine hons m fun hm0=> ?_
           have hkm:m∈kidsOf g:=by
            by_cases hkm:m∈kidsOf g
            · exact hkm
            · rw [List.count_eq_zero.2 hkm] at h0;omega
           have:=a6 m hkm
           rw [hd,if_neg hmc,if_neg hmn] at this;exact this hm0
     · rw [o1] at hg'
       by_cases hmc:m=c
       · rw [if_pos hmc] at hg'
         exact .inr ⟨h.chk n g' hg',h.u8 n g' hg'⟩
       · rw [if_neg hmc] at hg'
         exact .inl hg'
end Go.Cop
namespace Go.Cop
open Go.Proofs.YtkfjilnmnbeokaaGreat.D6 Go.Proofs.YtkfjilnmnbeokaaGreat.D8 Go.Proofs.YtkfjilnmnbeokaaGreat.M7 Go.Proofs.YtkfjilnmnbeokaaGreat.D2 Go.Proofs.YtkfjilnmnbeokaaGreat.J3 Go.Proofs.YtkfjilnmnbeokaaGreat.J7 Go.Proofs.YtkfjilnmnbeokaaGreat.Q3 Go.Proofs.YtkfjilnmnbeokaaGreat.P8 Go.Proofs.YtkfjilnmnbeokaaGreat.C7
inductive Rch (get : Int → PageV) (Q : List Int) : Int → Prop where
  | base (q : Int) : q ∈ Q → Rch get Q q
  | step (m k : Int) : Rch get Q m → k ∈ kidsOf (get m) → Rch get Q k
theorem Rch.mono {get:Int→PageV}{Q Q':List Int}(h:∀q∈Q,q∈Q'){m:Int}(hm:Rch get Q m):Rch get Q' m:=by
 induction hm with
 | base q hq=>exact .base q (h q hq)
 | step m k _ hk ih=>exact .step m k ih hk
theorem Clo.rch {get:Int→PageV}{cnt:Int→Int}{S P:List Int}(c:Clo get cnt S P){m:Int}(hm:Rch get P m):m∈S:=by
 induction hm with
 | base q hq=>exact c.pl q hq
 | step m k _ hk ih=>exact c.kids m ih k hk
theorem rch_in {get get':Int→PageV}{cnt':Int→Int}{S Q:List Int}(c:Clo get' cnt' S Q)(hg:∀m∈S,get' m=get m){m:Int}(hm:Rch get Q m):m∈S:=by
 induction hm with
 | base q hq=>exact c.pl q hq
 | step m k _ hk ih=>exact c.kids m ih k (by rw [hg m ih];exact hk)
theorem rch_same {get get':Int→PageV}{Q:List Int}(h:∀m,Rch get Q m→get' m=get m){m:Int}:Rch get' Q m↔Rch get Q m:=by
 constructor
 · intro hm
   induction hm with
   | base q hq=>exact .base q hq
   | step m k _ hk ih=>exact .step m k ih (by rw [← h m ih];exact hk)
 · intro hm
   induction hm with
   | base q hq=>exact .base q hq
   | step m k hm hk ih=>exact .step m k ih (by rw [h m hm];exact hk)
theorem Clo.lone {get:Int→PageV}{cnt:Int→Int}{S P:List Int}{n:Int}(c:Clo get cnt S (n :: P))(h1:cnt n=1):¬Rch get P n:=by
 obtain⟨c1,c2,c3⟩:=c.opened h1;intro h
 have:∀m,Rch get P m→m∈S.erase n:=by
  intro m hm;induction hm with
  | base q hq=>exact c1.pl q (List.mem_append_right _ hq)
  | step m k _ hk ih=>exact c1.kids m ih k hk
 exact c2 (this n h)
def Same(s s':VaultS)(Q:List Int):Prop:= ∀m,Rch s.get Q m→s.pool.count m≠0∧s'.pool.count m≠0∧s'.on m=s.on m
theorem get_same {s s':VaultS}{m:Int}(h:s'.on m=s.on m):s'.get m=s.get m:=by unfold VaultS.get;rw [h]
theorem look_same {s s':VaultS}{m:Int}(h:s.pool.count m≠0∧s'.pool.count m≠0∧s'.on m=s.on m):lookV s' m=lookV s m:=by
 unfold lookV;rw [if_neg h.1,if_neg h.2.1,get_same h.2.2]
theorem Same.mono {s s':VaultS}{Q Q':List Int}(h:Same s s' Q)(hq:∀q∈Q',q∈Q):Same s s' Q':=fun m hm=>h m (hm.mono hq)
theorem Same.rch {s s':VaultS}{Q:List Int}(h:Same s s' Q){m:Int}:Rch s'.get Q m↔Rch s.get Q m:=rch_same fun m hm=>get_same (h m hm).2.2
theorem Same.trans {a b c:VaultS}{Q:List Int}(h:Same a b Q)(k:Same b c Q):Same a c Q:=fun m hm=>by
 obtain⟨h1,h2,h3⟩:=h m hm;obtain⟨k1,k2,k3⟩:=k m (h.rch.2 hm);exact⟨h1,k2,k3.trans h3⟩
theorem Same.refl {s:VaultS}{cnt:Int→Int}{S Q:List Int}(c:Clo s.get cnt S Q)(hp:∀m∈S,s.pool.count m≠0):Same s s Q:=fun m hm=>⟨hp m (c.rch hm),hp m (c.rch hm),rfl⟩
theorem hand_keep {s s':VaultS}(h:VInv s){Q:List Int}(hs:Same s s' Q){lv:Nat}{g:PageV}{L:List ItemV}(hc:checkP g=0)(hk:∀k∈kidsOf g,k∈Q)(hh:HandN (lookV s) lv g L):HandN (lookV s') lv g L:=
 hand_frame (S:=fun m=>Rch s.get Q m) (fun m hm=>look_same (hs m hm)) (fun m hm g' hg'=>⟨h.chkA m g' hg',fun k hk'=> .step m k hm (by rw [get_on (on_look h hg').2];exact hk')⟩) lv g L hc (fun k hk'=> .base k (hk k hk')) hh
theorem sub_keep {s s':VaultS}(h:VInv s){Q:List Int}(hs:Same s s' Q){lv:Nat}{n:Int}{L:List ItemV}(hn:n∈Q)(hh:SubN (lookV s) lv n L):SubN (lookV s') lv n L:=
 sub_frame (S:=fun m=>Rch s.get Q m) (fun m hm=>look_same (hs m hm)) (fun m hm g' hg'=>⟨h.chkA m g' hg',fun k hk'=> .step m k hm (by rw [get_on (on_look h hg').2];exact hk')⟩) (.base n hn) hh
theorem val_keep {s s':VaultS}(h:VInv s){Q:List Int}(hs:Same s s' Q){sz child:Int}{value:List Int}(hc:32<sz→child∈Q):valueL (lookV s') sz child value=valueL (lookV s) sz child value:=
 value_frame (S:=fun m=>Rch s.get Q m) (fun m hm=>look_same (hs m hm)) (fun m hm g' hg' k hk'=> .step m k hm (by rw [get_on (on_look h hg').2];exact hk')) fun h32=> .base _ (hc h32)
def Else(s s':VaultS)(S:List Int)(n:Int):Prop:= ∀m,m ∉ S→m≠n→s.pool.count m≠0→s'.pool.count m=s.pool.count m∧s'.on m=s.on m
theorem posC {s:VaultS}{S P:List Int}(c:Clo s.get s.pool.count S P):∀m∈S,s.pool.count m≠0:=fun m hm=>by have:=c.pos m hm;omega
theorem sh_open {s s':VaultS}{n c:Int}{S P:List Int}(h:VInv s)(hc:Clo s.get s.pool.count S (n :: P))(hs:ShR s n c s'):
 ∃S' g,s.on n=some g∧s'.on c=some g∧VInv s'∧ownP s'.pool c=true∧Keeps s s'∧c ∉ S'∧Clo s'.get s'.pool.count S' (kidsOf g++P)∧(∀m∈S',m∈S∧s'.on m=s.on m)∧
  (c=n∨s.pool.count c=0)∧Else s s' S c∧Same s s' (kidsOf g++P):=by
 have hn:n∈S:=hc.pl n (by simp);obtain⟨g,hg⟩:=h.on n (posC hc n hn);have hgn:s.get n=g:=get_on hg
 have fin:∀S',VInv s'→Clo s'.get s'.pool.count S' (kidsOf g++P)→(∀m∈S',m∈S∧s'.on m=s.on m)→Same s s' (kidsOf g++P):=by
  intro S' h' c' k' m hm;have hin:=rch_in c' (fun m hm=>get_same (k' m hm).2) hm;exact⟨posC hc m (k' m hin).1,posC c' m hin,(k' m hin).2⟩
 rcases sh_ext h hs with⟨h1,rfl,rfl⟩ | ⟨h1,h2,h3,h4,h5,h6,h7⟩
 · obtain⟨o1,o2,o3⟩:=own_facts h h1
   obtain⟨c1,c2,c3⟩:=hc.opened o1;rw [hgn] at c1;have k1:∀m∈S.erase c,m∈S∧s'.on m=s'.on m:=fun m hm=>⟨List.mem_of_mem_erase hm,rfl⟩
   exact⟨S.erase c,g,hg,hg,h,h1,Keeps.refl _,c2,c1,k1,.inl rfl,fun m _ _ _=>⟨rfl,rfl⟩,fin _ h c1 k1⟩
 · have hcS:c ∉ S:=fun e=>posC hc c e h3.2.1
   have hnc:n≠c:=fun e=>hcS (e ▸ hn)
   have hkS:∀k∈kidsOf g,k∈S:=fun k hk=>hc.kids n hn k (by rw [hgn];exact hk)
   have hck:(kidsOf g).count c=0:=List.count_eq_zero.2 fun e=>hcS (hkS c e)
   have onS:∀m∈S,s'.on m=s.on m:=fun m hm=>by rw [h4,if_neg (fun e:m=c=>hcS (e ▸ hm))]
   have onc:s'.on c=some g:=by rw [h4,if_pos rfl,hg]
   rcases h7 with⟨e1,e2⟩ | ⟨e1,e2⟩
   · obtain⟨c1,c2,c3⟩:=hc.opened e1
     rw [hgn] at c1
     have c4:Clo s'.get s'.pool.count (S.erase n) (kidsOf g++P):=c1.same (fun m hm=>get_same (onS m (List.mem_of_mem_erase hm))) fun m hm=>by
      have hmS:=List.mem_of_mem_erase hm;rw [e2,if_neg (fun e:m=c=>hcS (e ▸ hmS)),if_neg (fun e:m=n=>c2 (e ▸ hm))];exact Int.le_refl _
     have k1:∀m∈S.erase n,m∈S∧s'.on m=s.on m:=fun m hm=>⟨List.mem_of_mem_erase hm,onS m (List.mem_of_mem_erase hm)⟩
     refine⟨S.erase n,g,hg,onc,h6,own_of (by rw [e2,if_pos rfl]) (by rw [h5.lasts];exact h3.2.2),h5,fun e=>hcS (List.mem_of_mem_erase e),c4,k1,.inr h3.2.1,fun m hm hmc h0=> ?_,fin _ h6 c4 k1⟩;exact⟨by rw [e2,if_neg hmc,if_neg (fun e:m=n=>hm (e ▸ hn))],by rw [h4,if_neg hmc]⟩
   · rw [hgn] at e2
     have c1:=hc.less (cnt':=fun m=>if m=n then s.pool.count n-1 else s.pool.count m) e1 fun m=>rfl
     have c2:=c1.more (Q:=kidsOf g) hkS (cnt':=fun m=>(if m=n then s.pool.count n-1 else s.pool.count m)+((kidsOf g).count m:Nat)) fun m=>rfl
     have c4:Clo s'.get s'.pool.count S (kidsOf g++P):=c2.same (fun m hm=>get_same (onS m hm)) fun m hm=>by
      rw [e2,if_neg (fun e:m=c=>hcS (e ▸ hm))];exact Int.le_refl _
     have k1:∀m∈S,m∈S∧s'.on m=s.on m:=fun m hm=>⟨hm,onS m hm⟩
     refine⟨S,g,hg,onc,h6,own_of (by rw [e2,if_pos rfl,hck];rfl) (by rw [h5.lasts];exact h3.2.2),h5,hcS,c4,k1,.inr h3.2.1,fun m hm hmc h0=> ?_,fin _ h6 c4 k1⟩;exact⟨by rw [e2,if_neg hmc,if_neg (fun e:m=n=>hm (e ▸ hn)),List.count_eq_zero.2 (fun e:m∈kidsOf g=>hm (hkS m e))];omega,by rw [h4,if_neg hmc]⟩
theorem nil_child(l:List ItemV):(nilKey l).map (·.child)=l.map (·.child):=by cases l<;>rfl
theorem kids_split {g:PageV}(hk:g.kind=1∨g.kind=2):kidsOf (leftG g)++kidsOf (rightG g)=kidsOf g:=by
 rcases hk with hk | hk
 · have e2:¬g.kind=2:=by omega
   rw [kid_leaf hk,kid_leaf (g:=leftG g) hk,kid_leaf (g:=rightG g) hk, ← List.map_append, ← List.filter_append];show (((g.items.take 4)++(if g.kind=2 then _ else g.items.drop 4)).filter _).map _=_
   rw [if_neg e2,List.take_append_drop]
 · rw [kid_index hk,kid_index (g:=leftG g) hk,kid_index (g:=rightG g) hk]
   show (g.items.take 4).map _++(if g.kind=2 then nilKey (g.items.drop 4) else _).map _=_
   rw [if_pos hk,nil_child, ← List.map_append,List.take_append_drop]
theorem kind_of {g:PageV}(hc:checkP g=0)(h:g.items≠ []):g.kind=1∨g.kind=2:=by
 unfold checkP at hc;split at hc
 · cases hc
 · rename_i h1
   split at hc
   · cases hc
   · rename_i h2
     simp only [kindOk,Bool.not_eq_false,decide_eq_true_eq] at h1;by_cases h3:g.kind=3
     · simp only [formP,h3,Bool.not_eq_false] at h2
       rw [if_neg (by omega),if_neg (by omega),decide_eq_true_eq] at h2;exact absurd (List.length_eq_zero_iff.1 h2.2.1) h
     · omega
theorem nil_u8 {l:List ItemV}(h:∀x∈l,U8 x.key):∀x∈nilKey l,U8 x.key:=by
 cases l with
 | nil=>exact h
 | cons a l=>
   intro x hx;rcases List.mem_cons.1 hx with rfl | hx
   · intro z hz;cases hz
   · exact h x (by simp [hx])
theorem right_u8 {g:PageV}(h:∀x∈g.items,U8 x.key):∀x∈(rightG g).items,U8 x.key:=by
 show ∀x∈(if g.kind=2 then nilKey (g.items.drop 4) else g.items.drop 4),U8 x.key
 split
 · exact nil_u8 fun x hx=>h x (List.mem_of_mem_drop hx)
 · exact fun x hx=>h x (List.mem_of_mem_drop hx)
theorem half_open {s s':VaultS}{c m:Int}{sep:List Int}{g:PageV}{S P:List Int}(h:VInv s)(ho:ownP s.pool c=true)(hg:s.on c=some g)(hcS:c ∉ S)(hc:Clo s.get s.pool.count S (kidsOf g++P))(hh:HalfR s c m sep s'):
 (m=0∧g.items.length<8∧sep= []∧s'=s)∨
 (m≠0∧g.items.length=8∧sep=sepG g∧checkP (leftG g)=0∧checkP (rightG g)=0∧VInv s'∧Keeps s s'∧s'.on c=some (leftG g)∧s'.on m=some (rightG g)∧ownP s'.pool c=true∧ownP s'.pool m=true∧m ∉ S∧m≠c∧s.pool.count m=0∧
   Clo s'.get s'.pool.count S (kidsOf (leftG g)++(kidsOf (rightG g)++P))∧(∀x,x≠c→s.pool.count x≠0→s'.pool.count x=s.pool.count x∧s'.on x=s.on x)∧Same s s' (kidsOf g++P)):=by
 obtain⟨g',hg',h1⟩:=hh;rw [hg] at hg';cases hg';rcases h1 with⟨e1,e2,e3,e4⟩ | ⟨e1,e2,s1,h2,h3⟩
 · exact .inl ⟨e2,e1,e3,e4⟩
 · right
   have hu:=h.u8 c g hg;obtain⟨m1,m2,m3,m4,m5⟩:=mk_ext h h2 (right_u8 hu);obtain⟨w1,w2,w3,w4,w5⟩:=wr_ext m5 h3 (fun x hx=>hu x (List.mem_of_mem_take hx));obtain⟨o1,o2,o3⟩:=own_facts h ho;have hmc:m≠c:=fun e=>by rw [e,o1] at m1;omega
   have hmS:m ∉ S:=fun e=>posC hc m e m1.2.1
   have hm0:m≠0:=by have:=m1.1.1;omega
   have cnt':∀x,s'.pool.count x=if x=m then 1 else s.pool.count x:=fun x=>by rw [w2];exact m2 x
   have on':∀x,s'.on x=if x=c then some (leftG g) else if x=m then some (rightG g) else s.on x:=fun x=>by rw [w3,m3]
   have hne:g.items≠ []:=fun e=>by rw [e] at e1;simp at e1
   have c4:Clo s'.get s'.pool.count S (kidsOf g++P):=hc.same (fun x hx=>get_same (by rw [on',if_neg (fun e:x=c=>hcS (e ▸ hx)),if_neg (fun e:x=m=>hmS (e ▸ hx))])) fun x hx=>by rw [cnt',if_neg (fun e:x=m=>hmS (e ▸ hx))];exact Int.le_refl _
   have hel:∀x,x≠c→s.pool.count x≠0→s'.pool.count x=s.pool.count x∧s'.on x=s.on x:=fun x hx h0=>by
    have hxm:x≠m:=fun e=>h0 (e ▸ m1.2.1)
    exact⟨by rw [cnt',if_neg hxm],by rw [on',if_neg hx,if_neg hxm]⟩
   have hk:=m4.trans w4;refine⟨hm0,e1,e2,h3.2.1,h2.1,w5,hk,by rw [on',if_pos rfl],by rw [on',if_neg hmc,if_pos rfl],own_of (by rw [cnt',if_neg (Ne.symm hmc),o1]) (by rw [hk.lasts,o2]),own_of (by rw [cnt',if_pos rfl]) (by rw [hk.lasts,m1.2.2]),hmS,hmc,m1.2.1,?_,hel,fun x hx=> ?_⟩
   · rw [← List.append_assoc,kids_split (kind_of (h.chk c g hg) hne)]
     exact c4
   · have hin:=hc.rch hx
     have h0:=posC hc x hin;obtain⟨a1,a2⟩:=hel x (fun e=>hcS (e ▸ hin)) h0;exact⟨h0,by rw [a1];exact h0,a2⟩
end Go.Cop
namespace Go.Cop
open Go.Proofs.YtkfjilnmnbeokaaGreat.D6 Go.Proofs.YtkfjilnmnbeokaaGreat.D8 Go.Proofs.YtkfjilnmnbeokaaGreat.M7 Go.Proofs.YtkfjilnmnbeokaaGreat.D2 Go.Proofs.YtkfjilnmnbeokaaGreat.J3 Go.Proofs.YtkfjilnmnbeokaaGreat.J7 Go.Proofs.YtkfjilnmnbeokaaGreat.Q3 Go.Proofs.YtkfjilnmnbeokaaGreat.P8 Go.Proofs.YtkfjilnmnbeokaaGreat.C7
def MkE(s:VaultS)(g:PageV)(e:Int):Prop:=e≠0∧((checkP g≠0∧e=checkP g)∨(checkP g=0∧e=12∧∀m,s.pool.state m≠1))
def WrE(s:VaultS)(n:Int)(g:PageV)(e:Int):Prop:=e≠0∧((ownP s.pool n=false∧e=15)∨(ownP s.pool n=true∧checkP g≠0∧e=checkP g))
def ShE(s:VaultS)(n:Int)(e:Int):Prop:=e≠0∧((s.pool.count n=0∧e=15)∨(s.pool.count n≠0∧ownP s.pool n=false∧∃g z,s.on n=some g∧mkR s z∧e=shE s n g z))
def splitB(g:PageV):Bool:=decide (g.items.length=8) && (decide (g.kind=2) || (decide (g.kind=1) && (decide (cmpI (itemAt g.items 3).key (itemAt g.items 4).key<0) && decide ((btwK (itemAt g.items 3).key (itemAt g.items 4).key).length≤24))))
def HalfE(s:VaultS)(n:Int)(e:Int):Prop:=e≠0∧((s.pool.count n=0∧e=15)∨
 ∃g,s.on n=some g∧8≤g.items.length∧((splitB g=false∧e=5)∨(splitB g=true∧(MkE s (rightG g) e∨∃m s1,MkR s (rightG g) m s1∧WrE s1 n (leftG g) e))))
def DownE(s:VaultS)(n:Int)(g:PageV)(key:List Int)(e:Int):Prop:=e≠0∧
 ((g.items.length≤routeK g.items key∧e=5)∨ShE s (itemAt g.items (routeK g.items key)).child e∨
  ∃c s1,ShR s (itemAt g.items (routeK g.items key)).child c s1∧(HalfE s1 c e∨
   ∃m sep s2,HalfR s1 c m sep s2∧((m≠0∧8≤g.items.length∧e=5)∨WrE s2 n (newG g (routeK g.items key) c m sep) e)))
inductive LoopE (x : ItemV) : Bool → VaultS → Int → Int → Prop where
  | read (was : Bool) (s : VaultS) (n : Int) : s.pool.count n = 0 → LoopE x was s n 15
  | full (s : VaultS) (n : Int) (g : PageV) : s.on n = some g → g.kind ≠ 2 → 8 ≤ g.items.length → LoopE x false s n 5
  | add (s : VaultS) (n : Int) (g : PageV) (e : Int) : s.on n = some g → g.kind ≠ 2 → WrE s n (insG g (searchK x.key g.items).1 x) e → LoopE x false s n e
  | gone (s : VaultS) (n : Int) (g : PageV) : s.on n = some g → g.kind ≠ 2 → g.items.length ≤ (searchK x.key g.items).1 → LoopE x true s n 5
  | rep (s : VaultS) (n : Int) (g : PageV) (e : Int) : s.on n = some g → g.kind ≠ 2 → WrE s n (repG g (searchK x.key g.items).1 x) e → LoopE x true s n e
  | rel (s : VaultS) (n : Int) (g : PageV) (s1 : VaultS) (e : Int) (t : VaultS) : s.on n = some g → g.kind ≠ 2 → (searchK x.key g.items).1 < g.items.length → WrR s n (repG g (searchK x.key g.items).1 x) s1 → e ≠ 0 →
      DropR s1.get [(itemAt g.items (searchK x.key g.items).1).child] s1.pool.counts e t.pool.counts → LoopE x true s n e
  | down (was : Bool) (s : VaultS) (n : Int) (g : PageV) (e : Int) : s.on n = some g → g.kind = 2 → DownE s n g x.key e → LoopE x was s n e
  | more (was : Bool) (s : VaultS) (n : Int) (g : PageV) (s1 : VaultS) (d e : Int) : s.on n = some g → g.kind = 2 → DownR s n g x.key s1 d → LoopE x was s1 d e → LoopE x was s n e
def RootE(s:VaultS)(root height:Int)(e:Int):Prop:=ShE s root e∨∃c s1,ShR s root c s1∧(HalfE s1 c e∨∃m sep s2,HalfR s1 c m sep s2∧m≠0∧MkE s2 (topG height c sep m) e)
def PutE(s:VaultS)(root height:Int)(K V:List Int)(was:Bool)(e:Int):Prop:=
 (storeE s.pool K V≠0∧e=storeE s.pool K V)∨∃c s1 ns,Taken s s1 ns∧StoreAt s1 c V ns∧PoolOk s1.pool∧
   ((root=0∧MkE s1 ⟨1,0,[storedI K V c],[],0⟩ e)∨(root≠0∧(RootE s1 root height e∨∃s2 n h',RootR s1 root height s2 n h'∧LoopE (storedI K V c) was s2 n e)))
end Go.Cop
