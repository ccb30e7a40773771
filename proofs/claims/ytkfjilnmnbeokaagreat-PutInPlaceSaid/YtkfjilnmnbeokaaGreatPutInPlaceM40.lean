/- Pages that Put lays are right. Plain lemmas. -/
import Derived.Test.YtkfjilnmnbeokaaGreatPutInPlaceM38
import Derived.Test.YtkfjilnmnbeokaaGreatPutInPlaceM28
import Derived.Test.YtkfjilnmnbeokaaGreatPutInPlaceM37
import Derived.Test.YtkfjilnmnbeokaaGreatPutInPlaceM31
import Derived.Test.YtkfjilnmnbeokaaGreatPutInPlaceM33
import Derived.Test.YtkfjilnmnbeokaaGreatPutInPlaceM35
import Derived.Test.YtkfjilnmnbeokaaGreatPutInPlaceM01
set_option maxRecDepth 100000
set_option maxHeartbeats 16000000
namespace Go.Cop
open Go.Proofs.YtkfjilnmnbeokaaGreat.D6 Go.Proofs.YtkfjilnmnbeokaaGreat.Q2
theorem then_zero {a b:Int}:thenE a b=0↔a=0∧b=0:=by
 unfold thenE;split
 · rename_i h;simp [h]
 · rename_i h;simp [h]
theorem itemE_zero {k:Int}{i:Nat}{p:List Int}{x:ItemV}:itemE k i p x=0↔keyOk k i x=true∧ordOk i p x=true∧valOk k x=true∧kidOk k x=true:=by
 unfold itemE;cases keyOk k i x<;>cases ordOk i p x<;>cases valOk k x<;>cases kidOk k x<;>simp
theorem ord_iff {i:Nat}{p:List Int}{x:ItemV}:ordOk i p x=true↔i=0∨cmpI p x.key<0:=by
 unfold ordOk;rw [decide_eq_true_eq,cmp_anti x.key p];constructor
 · rintro(h | h)
   · exact .inl h
   · exact .inr (by omega)
 · rintro(h | h)
   · exact .inl h
   · exact .inr (by omega)
theorem items_zero(k:Int):∀(l:List ItemV) (i:Nat) (p:List Int),itemsE k i p l=0↔(∀j x,l[j]? =some x→keyOk k (i+j) x=true∧valOk k x=true∧kidOk k x=true)∧l.Pairwise KeyLt∧(i=0∨∀x∈l.head?,cmpI p x.key<0)
 | [],i,p=>by simp [itemsE]
 | y :: l,i,p=>by
   rw [itemsE_cons,then_zero,itemE_zero,items_zero k l (i+1) y.key,ord_iff];constructor
   · rintro⟨⟨a1,a2,a3,a4⟩,b1,b2,b3⟩
     refine⟨fun j x hx=> ?_,?_,?_⟩
     · cases j with
       | zero=>
         obtain rfl:y=x:=by simpa using hx
         exact⟨a1,a3,a4⟩
       | succ j=>
         have:=b1 j x (by simpa using hx)
         rwa [show i+1+j=i+(j+1) by omega] at this
     · refine List.pairwise_cons.2 ⟨fun z hz=> ?_,b2⟩
       rcases b3 with h | h
       · omega
       · cases l with
         | nil=>cases hz
         | cons w l=>
           have h1:cmpI y.key w.key<0:=h w (by simp);rcases List.mem_cons.1 hz with rfl | hz
           · exact h1
           · exact cmp_lt_le h1 (Int.le_of_lt ((List.pairwise_cons.1 b2).1 z hz))
     · rcases a2 with h | h
       · exact .inl h
       · exact .inr fun x hx=>(show y=x by simpa using hx) ▸ h
   · rintro⟨h1,h2,h3⟩
     obtain⟨a1,a3,a4⟩:=h1 0 y rfl;obtain⟨p1,p2⟩:=List.pairwise_cons.1 h2;refine⟨⟨a1,?_,a3,a4⟩,fun j x hx=> ?_,p2,.inr fun x hx=> ?_⟩
     · rcases h3 with h | h
       · exact .inl h
       · exact .inr (h y (by simp))
     · have:=h1 (j+1) x (by simpa using hx)
       rwa [show i+(j+1)=i+1+j by omega] at this
     · exact p1 x (List.mem_of_mem_head? hx)
def LeafI(x:ItemV):Prop:=keyR x.key=true∧valOk 1 x=true∧kidOk 1 x=true
theorem key_leaf {i:Nat}{x:ItemV}:keyOk 1 i x=keyR x.key:=by
 unfold keyOk keyR;rw [if_neg (by omega)]
theorem key_index {i:Nat}{x:ItemV}(h:i≠0):keyOk 2 i x=keyR x.key:=by
 unfold keyOk keyR;rw [if_neg (by omega)]
theorem leaf_right {l:List ItemV}(hn:1≤l.length∧l.length≤8)(hi:∀x∈l,LeafI x)(hs:l.Pairwise KeyLt):checkP ⟨1,0,l,[],0⟩=0:=by
 unfold checkP;rw [if_neg (by simp [kindOk]),if_neg (by simp [formP,hn.1,hn.2]),then_zero];refine⟨(items_zero 1 l 0 []).2 ⟨fun j x hx=> ?_,hs,.inl rfl⟩,by simp [nextOk]⟩;have:=hi x (List.mem_of_getElem? hx)
 exact⟨by rw [key_leaf];exact this.1,this.2⟩
def IdxI(x:ItemV):Prop:=valOk 2 x=true∧kidOk 2 x=true
theorem index_right {lv:Int}{a:ItemV}{l:List ItemV}(hl:1≤lv∧lv<12)(hn:1≤l.length∧l.length≤7)(ha:a.key= [])(hi:∀x∈a :: l,IdxI x)(hk:∀x∈l,keyR x.key=true)(hs:(a :: l).Pairwise KeyLt):checkP ⟨2,lv,a :: l,[],0⟩=0:=by
 unfold checkP;rw [if_neg (by simp [kindOk]),if_neg (by simp [formP,hl.1,hl.2];omega),then_zero];refine⟨(items_zero 2 (a :: l) 0 []).2 ⟨fun j x hx=> ?_,hs,.inl rfl⟩,by simp [nextOk]⟩;have h2:=hi x (List.mem_of_getElem? hx);refine⟨?_,h2⟩;cases j with
 | zero=>
   obtain rfl:a=x:=by simpa using hx
   simp [keyOk,ha]
 | succ j=>
   rw [key_index (by omega)];exact hk x (List.mem_of_getElem? (by simpa using hx))
theorem leaf_facts {g:PageV}(hc:checkP g=0)(hk:g.kind=1):g=⟨1,0,g.items,[],0⟩∧(1≤g.items.length∧g.items.length≤8)∧∀x∈g.items,LeafI x:=by
 have hi:=(items_zero g.kind g.items 0 []).1 (items_of_check hc);rw [hk] at hi;unfold checkP at hc;split at hc
 · cases hc
 · split at hc
   · cases hc
   · rename_i h2
     simp only [formP,hk,Bool.not_eq_false,if_true] at h2;rw [decide_eq_true_eq] at h2;refine⟨?_,h2.2.2.2,fun x hx=> ?_⟩
     · obtain⟨k,l,it,d,n⟩:=g
       simp only at hk h2 ⊢;obtain⟨a,b,c,_⟩:=h2;rw [hk,b,c,List.length_eq_zero_iff.1 a]
     · obtain⟨j,hj,rfl⟩:=List.getElem_of_mem hx
       have:=hi.1 j _ (List.getElem?_eq_getElem hj)
       rw [key_leaf] at this;exact this
theorem index_facts {g:PageV}(hc:checkP g=0)(hk:g.kind=2):g=⟨2,g.level,g.items,[],0⟩∧(1≤g.level∧g.level<12)∧(2≤g.items.length∧g.items.length≤8)∧(∀x∈g.items,IdxI x)∧∀x∈g.items.drop 1,keyR x.key=true:=by
 have hi:=(items_zero g.kind g.items 0 []).1 (items_of_check hc);rw [hk] at hi;unfold checkP at hc;split at hc
 · cases hc
 · split at hc
   · cases hc
   · rename_i h2
     simp only [formP,hk,Bool.not_eq_false,if_true] at h2;rw [if_neg (by omega),decide_eq_true_eq] at h2;refine⟨?_,⟨h2.2.2.1,h2.2.2.2.1⟩,h2.2.2.2.2,fun x hx=> ?_,fun x hx=> ?_⟩
     · obtain⟨k,l,it,d,n⟩:=g
       simp only at hk h2 ⊢;obtain⟨a,b,_⟩:=h2;rw [hk,b,List.length_eq_zero_iff.1 a]
     · obtain⟨j,hj,rfl⟩:=List.getElem_of_mem hx
       exact(hi.1 j _ (List.getElem?_eq_getElem hj)).2
     · obtain⟨j,hj,rfl⟩:=List.getElem_of_mem hx
       rw [List.getElem_drop];have:=(hi.1 (1+j) _ (List.getElem?_eq_getElem (by rw [List.length_drop] at hj;omega))).1
       rwa [key_index (by omega)] at this
theorem left_right {g:PageV}(hc:checkP g=0)(h8:g.items.length=8):checkP (leftG g)=0∧checkP (rightG g)=0:=by
 have hs:=page_sorted hc;have hne:g.items≠ []:=fun e=>by rw [e] at h8;simp at h8
 rcases kind_of hc hne with hk | hk
 · obtain⟨e,_,hi⟩:=leaf_facts hc hk
   have e1:leftG g=⟨1,0,g.items.take 4,[],0⟩:=by unfold leftG;rw [e]
   have e2:rightG g=⟨1,0,g.items.drop 4,[],0⟩:=by unfold rightG;rw [if_neg (by omega)];rw [e]
   rw [e1,e2];refine⟨leaf_right (l:=g.items.take 4) (by rw [List.length_take];omega) (fun x hx=>hi x (List.mem_of_mem_take hx)) (hs.sublist (List.take_sublist _ _)),leaf_right (l:=g.items.drop 4) (by rw [List.length_drop];omega) (fun x hx=>hi x (List.mem_of_mem_drop hx)) (hs.sublist (List.drop_sublist _ _))⟩
 · obtain⟨e,hl,_,hi,hkk⟩:=index_facts hc hk
   have f0:=first_key hc hk;cases hit:g.items with
   | nil=>exact absurd hit hne
   | cons a l=>
     have e1:leftG g=⟨2,g.level,a :: l.take 3,[],0⟩:=by unfold leftG;rw [e,hit];rfl
     have d4:g.items.drop 4=itemAt g.items 4 :: g.items.drop 5:=by rw [itemAt_get (by omega)];exact List.drop_eq_getElem_cons (by omega)
     have e2:rightG g=⟨2,g.level,{ itemAt g.items 4 with key:= [] } :: g.items.drop 5,[],0⟩:=by
      unfold rightG;rw [if_pos hk,d4];conv=>lhs;rw [e]
      rfl
     have hl7:l.length=7:=by rw [hit] at h8;simpa using h8
     have ha:a.key= []:=by rw [hit] at f0;exact f0
     rw [e1,e2];constructor
     · refine index_right (l:=l.take 3) hl (by rw [List.length_take];omega) ha (fun x hx=>hi x ?_) (fun x hx=>hkk x ?_) ?_
       · rw [hit]
         rcases List.mem_cons.1 hx with rfl | hx
         · simp
         · exact List.mem_cons_of_mem _ (List.mem_of_mem_take hx)
       · rw [hit];exact List.mem_of_mem_take hx
       · rw [hit] at hs
         exact hs.sublist ((List.take_sublist _ _).cons_cons a)
     · refine index_right (l:=g.items.drop 5) hl (by rw [List.length_drop];omega) rfl (fun x hx=> ?_) (fun x hx=>hkk x ?_) ?_
       · rcases List.mem_cons.1 hx with rfl | hx
         · exact hi (itemAt g.items 4) (getD_mem (by omega))
         · exact hi x (List.mem_of_mem_drop hx)
       · rw [show (5:Nat)=1+4 by rfl, ← List.drop_drop] at hx
         exact List.mem_of_mem_drop hx
       · refine List.pairwise_cons.2 ⟨fun x hx=> ?_,hs.sublist (List.drop_sublist _ _)⟩
         have h1:keyR x.key=true:=hkk x (by rw [show (5:Nat)=1+4 by rfl, ← List.drop_drop] at hx;exact List.mem_of_mem_drop hx);have h2:1≤x.key.length:=(of_decide_eq_true h1).1;show cmpI [] x.key<0
         cases hx':x.key with
         | nil=>rw [hx'] at h2;simp at h2
         | cons _ _=>simp [cmpI]
theorem btw_len:∀ {a b:List Int},cmpI a b<0→1≤(btwK a b).length∧(btwK a b).length≤max a.length b.length
 | [],[],h=>by simp [cmpI] at h
 | [],_ :: _,_=>by simp [btwK]
 | _ :: _,[],h=>by simp [cmpI] at h
 | x :: a,y :: b,h=>by
   unfold btwK;by_cases e:x=y
   · subst e
     rw [if_pos rfl];have:=btw_len (a:=a) (b:=b) (by simpa [cmpI] using h)
     simp only [List.length_cons];omega
   · rw [if_neg e]
     simp
theorem sep_right {g:PageV}(hc:checkP g=0)(h8:g.items.length=8):keyR (sepG g)=true:=by
 have hne:g.items≠ []:=fun e=>by rw [e] at h8;simp at h8
 unfold sepG;rcases kind_of hc hne with hk | hk
 · obtain⟨_,_,hi⟩:=leaf_facts hc hk
   rw [if_neg (by omega)];have h3:=(hi _ (getD_mem (l:=g.items) (i:=3) (by omega))).1;have h4:=(hi _ (getD_mem (l:=g.items) (i:=4) (by omega))).1;have:=btw_len (page_lt hc (i:=3) (j:=4) (by omega) (by omega))
   unfold keyR at h3 h4 ⊢;rw [decide_eq_true_eq] at h3 h4 ⊢;omega
 · obtain⟨_,_,_,_,hkk⟩:=index_facts hc hk
   rw [if_pos hk];refine hkk _ ?_
   have:itemAt (g.items.drop 1) 3=itemAt g.items 4:=by
    simp only [List.getD_eq_getElem?_getD,List.getElem?_drop]
   rw [← this];exact getD_mem (by rw [List.length_drop];omega)
def splitOk(g:PageV):Prop:=g.items.length=8∧(g.kind=2∨(g.kind=1∧cmpI (itemAt g.items 3).key (itemAt g.items 4).key<0∧(btwK (itemAt g.items 3).key (itemAt g.items 4).key).length≤24))
theorem split_yes {g:PageV}(hc:checkP g=0)(h8:g.items.length=8):splitOk g:=by
 have hne:g.items≠ []:=fun e=>by rw [e] at h8;simp at h8
 have h1:=sep_right hc h8;have h2:=page_lt hc (i:=3) (j:=4) (by omega) (by omega);refine⟨h8,?_⟩;rcases kind_of hc hne with hk | hk
 · right
   unfold sepG at h1;rw [if_neg (by omega)] at h1;exact⟨hk,h2,(of_decide_eq_true h1).2⟩
 · exact .inl hk
end Go.Cop
namespace Go.Cop
open Go.Proofs.YtkfjilnmnbeokaaGreat.D6 Go.Proofs.YtkfjilnmnbeokaaGreat.D8 Go.Proofs.YtkfjilnmnbeokaaGreat.M7 Go.Proofs.YtkfjilnmnbeokaaGreat.D2 Go.Proofs.YtkfjilnmnbeokaaGreat.J3 Go.Proofs.YtkfjilnmnbeokaaGreat.J7 Go.Proofs.YtkfjilnmnbeokaaGreat.Q3 Go.Proofs.YtkfjilnmnbeokaaGreat.P8 Go.Proofs.YtkfjilnmnbeokaaGreat.C7 Go.Proofs.YtkfjilnmnbeokaaGreat.Q2
def StandN(look:Int→Option PageV)(root height items:Int)(L:List ItemV):Prop:=
 (root=0∧height=0∧items=0∧L= [])∨(root≠0∧items=(L.length:Int)∧∃(lv:Nat) (g:PageV),height=(lv:Int)+1∧look root=some g∧HandN look lv g L∧∀x∈L,keyR x.key=true)
def rootC(root:Int):List Int:=if root=0 then [] else [root]
theorem has_every {k:List Int}(h:keyR k=true):hasR everyR k=true:=by
 unfold hasR everyR;rw [h];cases k<;>simp [cmpI]
theorem hand_level {look:Int→Option PageV}:∀ {lv:Nat} {g:PageV} {L:List ItemV},checkP g=0→HandN look lv g L→lv≤11
 | 0,_,_,_,_=>Nat.zero_le _
 | lv+1,g,L,hc,h=>by
   obtain⟨h1,h2,_⟩:=hand_succ.1 h;have:=((form_of_check hc).index h1)
   omega
theorem stand_keep {s s':VaultS}(h:VInv s){Q:List Int}(hs:Same s s' Q){root height items:Int}{L:List ItemV}(hr:∀q∈rootC root,q∈Q)(hh:StandN (lookV s) root height items L):StandN (lookV s') root height items L:=by
 rcases hh with h1 | ⟨h1,h2,lv,g,h3,h4,h5,h6⟩
 · exact .inl h1
 · have hq:root∈Q:=hr root (by unfold rootC;rw [if_neg h1];simp)
   refine .inr ⟨h1,h2,lv,g,h3,?_,?_,h6⟩
   · rw [look_same (hs root (.base root hq))]
     exact h4
   · exact hand_frame (S:=fun m=>Rch s.get Q m) (fun m hm=>look_same (hs m hm)) (fun m hm g' hg'=>⟨h.chkA m g' hg',fun k hk'=> .step m k hm (by rw [get_on (on_look h hg').2];exact hk')⟩) lv g L (h.chkA _ _ h4) (fun k hk'=> .step root k (.base root hq) (by rw [get_on (on_look h h4).2];exact hk')) h5
theorem kids_topG(h c:Int)(sep:List Int)(m:Int):kidsOf (topG h c sep m)= [c,m]:=by
 rw [kid_index rfl];rfl
theorem root_open {s s':VaultS}{lv:Nat}{root n h':Int}{g:PageV}{L:List ItemV}{S P:List Int}(h:VInv s)(hc:Clo s.get s.pool.count S (root :: P))(hg:s.on root=some g)(hh:HandN (lookV s) lv g L)(hL:∀x∈L,keyR x.key=true)(hr:RootR s root ((lv:Int)+1) s' n h'):
 ∃lv' g' S',InH s' lv' n g' L S' P∧h'=(lv':Int)+1∧(lv'=lv∨(lv'=lv+1∧g.items.length=8))∧Keeps s s'∧Same s s' P∧∀m,m ∉ S→s.pool.count m≠0→m ∉ S'∧m≠n∧s'.pool.count m=s.pool.count m∧s'.on m=s.on m:=by
 obtain⟨c,s1,m,sep,s2,h1,h2,h3⟩:=hr;obtain⟨S1,g1,og,oc,v1,own1,k1,cS1,c1,in1,hcn,else1,same1⟩:=sh_open h hc h1;rw [hg] at og;cases og
 have hcS:∀x,x ∉ S→s.pool.count x≠0→x≠c:=fun x hx h0 e=>by
  rcases hcn with e2 | e2
  · exact hx (by rw [e,e2];exact hc.pl _ (by simp))
  · rw [← e] at e2;exact h0 e2
 have hc1:=h.chk _ g hg;have hu1:=h.u8 _ g hg;have hand1:HandN (lookV s1) lv g L:=hand_keep h same1 hc1 (fun k hk=>List.mem_append_left _ hk) hh;rcases half_open v1 own1 oc cS1 c1 h2 with⟨rfl,hl8,rfl,rfl⟩ | ⟨hm0,hl8,rfl,hcl,hcr,v2,k2,o2c,o2m,ow2c,ow2m,mS,hmc,hmz,c2,else2,same2⟩
 · rcases h3 with⟨_,rfl,rfl,rfl⟩ | ⟨h3,_⟩
   · refine⟨lv,g,S1,⟨v1,own1,oc,cS1,c1,hand1⟩,rfl,.inl rfl,k1,same1.mono fun q hq=>List.mem_append_right _ hq,fun x hx h0=> ?_⟩
     have hxc:=hcS x hx h0;exact⟨fun e=>hx (in1 x e).1,hxc,else1 x hx hxc h0⟩
   · exact absurd rfl h3
 · rcases h3 with⟨h3,_⟩ | ⟨_,h3,rfl⟩
   · exact absurd h3 hm0
   · have hus:=sep_u8 hc1 hl8 hu1
     obtain⟨m1,m2,m3,m4,m5⟩:=mk_ext v2 h3 (fun x hx=>by
      simp only [topG,List.mem_cons,List.not_mem_nil,or_false] at hx
      rcases hx with rfl | rfl
      · intro z hz;cases hz
      · exact hus)
     obtain⟨MA,MB,rfl,hA1,hB1,hlA,hlB⟩:=hand_split hc1 hu1 hl8 hand1
     have kl:∀k∈kidsOf (leftG g)++kidsOf (rightG g),k∈kidsOf g++P:=fun k hk=>by
      rw [kids_split (kind_of hc1 (fun e=>by rw [e] at hl8;simp at hl8))] at hk;exact List.mem_append_left _ hk
     have hA2:HandN (lookV s2) lv (leftG g) MA:=hand_keep v1 same2 hcl (fun k hk=>kl k (List.mem_append_left _ hk)) hA1;have hB2:HandN (lookV s2) lv (rightG g) MB:=hand_keep v1 same2 hcr (fun k hk=>kl k (List.mem_append_right _ hk)) hB1;have ow2c':=own_facts v2 ow2c;have ow2m':=own_facts v2 ow2m
     have ca:Clo s2.get s2.pool.count (m :: S1) (m :: (kidsOf (leftG g)++P)):=by
      refine Clo.close (c2.perm ?_) mS (by omega);rw [get_on o2m];exact perm_swap3 _ _ _
     have cb:Clo s2.get s2.pool.count (c :: m :: S1) (c :: m :: P):=by
      refine Clo.close (ca.perm ?_) (fun e=> ?_) (by omega)
      · rw [get_on o2c]
        exact List.perm_middle.symm
      · rcases List.mem_cons.1 e with e | e
        · exact hmc e.symm
        · exact cS1 e
     have hnS:n ∉ c :: m :: S1:=fun e=>posC cb n e m1.2.1
     have l4:4≤(leftG g).items.length:=by show 4≤(g.items.take 4).length;rw [List.length_take];omega
     have l4':4≤(rightG g).items.length:=by
      show 4≤(if g.kind=2 then nilKey (g.items.drop 4) else g.items.drop 4).length
      have hd4:(g.items.drop 4).length=4:=by rw [List.length_drop];omega
      split
      · rw [show (nilKey (g.items.drop 4)).length=(g.items.drop 4).length by cases g.items.drop 4<;>rfl,hd4];exact Nat.le_refl _
      · rw [hd4];exact Nat.le_refl _
     have on3:∀x∈c :: m :: S1,s'.on x=s2.on x:=fun x hx=>by rw [m3,if_neg (fun e:x=n=>hnS (e ▸ hx))]
     have c5:Clo s'.get s'.pool.count (c :: m :: S1) (kidsOf (topG ((lv:Int)+1) c (sepG g) m)++P):=by
      rw [kids_topG];exact cb.same (fun x hx=>get_same (on3 x hx)) fun x hx=>by rw [m2,if_neg (fun e:x=n=>hnS (e ▸ hx))];exact Int.le_refl _
     have same3:Same s2 s' (c :: m :: P):=fun x hx=>by
      have hin:=cb.rch hx;exact⟨posC cb x hin,by rw [m2,if_neg (fun e:x=n=>hnS (e ▸ hin))];exact posC cb x hin,on3 x hin⟩
     refine⟨lv+1,topG ((lv:Int)+1) c (sepG g) m,c :: m :: S1,⟨m5,own_of (by rw [m2,if_pos rfl]) (by rw [m4.lasts];exact m1.2.2),by rw [m3,if_pos rfl],hnS,c5,?_⟩,by omega,.inr ⟨rfl,hl8⟩,(k1.trans k2).trans m4,?_,fun x hx h0=> ?_⟩
     · refine hand_succ.2 ⟨rfl,rfl,[MA,MB],by simp,?_⟩
       have sc:SubN (lookV s') lv c MA:=sub_keep v2 same3 (by simp) ⟨leftG g,look_on (by omega) o2c,l4,hA2⟩;have sm:SubN (lookV s') lv m MB:=sub_keep v2 same3 (by simp) ⟨rightG g,look_on (by omega) o2m,l4',hB2⟩;exact⟨sc,fun x hx=>⟨hL x (List.mem_append_left _ hx),by cases x.key<;>simp [cmpI],hlA x hx⟩,sm,fun x hx=>⟨hL x (List.mem_append_right _ hx),hlB x hx,trivial⟩,trivial⟩
     · exact((same1.mono fun q hq=>List.mem_append_right _ hq).trans (same2.mono fun q hq=>List.mem_append_right _ hq)).trans (same3.mono fun q hq=>by simp [hq])
     · have hxc:=hcS x hx h0
       obtain⟨a1,a2⟩:=else1 x hx hxc h0;have hxm:x≠m:=fun e=>h0 (by rw [← a1,e];exact hmz)
       obtain⟨b1,b2⟩:=else2 x hxc (by rw [a1];exact h0);have hxn:x≠n:=fun e=>h0 (by rw [← a1, ← b1,e];exact m1.2.1)
       refine⟨fun e=> ?_,hxn,by rw [m2,if_neg hxn,b1,a1],by rw [m3,if_neg hxn,b2,a2]⟩;rcases List.mem_cons.1 e with e | e
       · exact hxc e
       · rcases List.mem_cons.1 e with e | e
         · exact hxm e
         · exact hx (in1 x e).1
theorem ins_keys {x:ItemV}{L:List ItemV}(h:∀y∈L,keyR y.key=true)(hx:keyR x.key=true):∀y∈insK x L,keyR y.key=true:=fun y hy=>by
 rcases insK_mem hy with hy | rfl
 · exact h y hy
 · exact hx
theorem put_ok {s s':VaultS}{root height items root' height' items':Int}{K V:List Int}{was:Bool}{L:List ItemV}{S P:List Int}(h:VInv s)(hc:Clo s.get s.pool.count S (rootC root++P))(hs:StandN (lookV s) root height items L)(hk:keyR K=true)(uk:U8 K)(hw:was=true→∃y∈L,y.key=K)
 (hp:PutR s root height items K V was s' root' height' items'):
 ∃S' c,VInv s'∧Clo s'.get s'.pool.count S' (rootC root'++P)∧StandN (lookV s') root' height' items' (insK (storedI K V c) L)∧root'≠0∧Keeps s s'∧Same s s' P∧(∀m,m ∉ S→s.pool.count m≠0→m ∉ S'∧s'.pool.count m=s.pool.count m∧s'.on m=s.on m)∧
  (height'=height∨height'=height+1):=by
 obtain⟨c,s1,ns,ht,hst,ok1,h1⟩:=hp;obtain⟨v1,k1,S1,c1,same1,hval,hx,frame1⟩:=store_open (K:=K) h hc ht hst ok1
 have hval':(valueL (lookV s1) (storedI K V c).size (storedI K V c).child (storedI K V c).value).2=0:=by
  show (valueL (lookV s1) V.length c (if V.length≤32 then V else [])).2=0
  rw [hval]
 have hx':32<(storedI K V c).size→(storedI K V c).child≠0:=fun h32=>hx (by have:(32:Int)<V.length:=h32;omega)
 rcases h1 with⟨rfl,rfl,h2,rfl,rfl⟩ | ⟨h0,s2,h2,h3,rfl⟩
 · obtain⟨rfl,rfl⟩:height=0∧L= []:=by
    rcases hs with⟨_,a,_,b⟩ | ⟨a,_⟩
    · exact⟨a,b⟩
    · exact absurd rfl a
   obtain⟨m1,m2,m3,m4,m5⟩:=mk_ext v1 h2 (fun x hx=>by rw [List.mem_singleton.1 hx];exact uk);have e0:rootC 0= []:=rfl;rw [e0,List.nil_append] at c1 same1;have hnS:root' ∉ S1:=fun e=>posC c1 root' e m1.2.1
   have hr0:root'≠0:=by have:=m1.1.1;omega
   have on3:∀x∈S1,s'.on x=s1.on x:=fun x hx=>by rw [m3,if_neg (fun e:x=root'=>hnS (e ▸ hx))]
   have on4:s'.on root'=some ⟨1,0,[storedI K V c],[],0⟩:=by rw [m3,if_pos rfl]
   have hkids:kidsOf (⟨1,0,[storedI K V c],[],0⟩:PageV)=placeC (storedI K V c):=by
    rw [kid_leaf rfl];unfold placeC;by_cases e:c=0
    · simp [e]
    · simp [e]
   have c2:Clo s'.get s'.pool.count S1 (placeC (storedI K V c)++P):=c1.same (fun x hx=>get_same (on3 x hx)) fun x hx=>by rw [m2,if_neg (fun e:x=root'=>hnS (e ▸ hx))];exact Int.le_refl _
   have c3:Clo s'.get s'.pool.count (root' :: S1) (root' :: P):=Clo.close (by rw [get_on on4,hkids];exact c2) hnS (by rw [m2,if_pos rfl];decide)
   have same3:Same s1 s' (placeC (storedI K V c)++P):=fun x hx=>by
    have hin:=c1.rch hx;exact⟨posC c1 x hin,by rw [m2,if_neg (fun e:x=root'=>hnS (e ▸ hin))];exact posC c1 x hin,on3 x hin⟩
   have hv3:valueL (lookV s') V.length c (if V.length≤32 then V else [])=(V,0):=by
    rw [val_keep v1 same3 fun h32=>List.mem_append_left _ (place_child (x:=storedI K V c) (hx' h32))];exact hval
   refine⟨root' :: S1,c,m5,?_,?_,hr0,k1.trans m4,same1.trans (same3.mono fun q hq=>List.mem_append_right _ hq),fun m hm hm0=> ?_,.inr (by omega)⟩
   · unfold rootC
     rw [if_neg hr0];exact c3
   · refine .inr ⟨hr0,by simp [insK],0,_,rfl,look_on (by rw [m2,if_pos rfl];decide) on4,hand_zero.2 ⟨rfl,by simp [insK],fun x hx=> ?_⟩,fun x hx=> ?_⟩
     · rw [List.mem_singleton.1 hx]
       show (valueL (lookV s') V.length c (if V.length≤32 then V else [])).2=0
       rw [hv3]
     · rw [List.mem_singleton.1 (show x∈ [storedI K V c] by simpa [insK] using hx)]
       exact hk
   · obtain⟨a1,a2,a3⟩:=frame1 m hm hm0
     have hmr:m≠root':=fun e=>hm0 (by rw [← a2,e];exact m1.2.1)
     refine⟨fun e=> ?_,by rw [m2,if_neg hmr,a2],by rw [m3,if_neg hmr,a3]⟩;rcases List.mem_cons.1 e with e | e
     · exact hmr e
     · exact a1 e
 · rcases hs with⟨a,_⟩ | ⟨_,hitems,lv,g,rfl,hg,hh,hL⟩
   · exact absurd a h0
   · have er:rootC root= [root]:=by unfold rootC;rw [if_neg h0]
     rw [er] at c1 hc same1;have hroot:root∈ [root]++P:=by simp
     have sr:=same1 root (.base root hroot);have hg1:s1.on root=some g:=sr.2.2.trans (on_look h hg).2
     have hh1:HandN (lookV s1) lv g L:=hand_frame (S:=fun m=>Rch s.get ([root]++P) m) (fun m hm=>look_same (same1 m hm)) (fun m hm g' hg'=>⟨h.chkA m g' hg',fun k hk'=> .step m k hm (by rw [get_on (on_look h hg').2];exact hk')⟩) lv g L (h.chkA _ _ hg) (fun k hk'=> .step root k (.base root hroot) (by rw [get_on (on_look h hg).2];exact hk')) hh
     obtain⟨lv',g',S2,i2,rfl,hlv,k2,same2,frame2⟩:=root_open (P:=placeC (storedI K V c)++P) v1 (c1.perm (perm_swap3 _ [root] _)) hg1 hh1 hL h2
     have hv2:valueL (lookV s2) V.length c (if V.length≤32 then V else [])=(V,0):=by
      rw [val_keep v1 same2 fun h32=>List.mem_append_left _ (place_child (x:=storedI K V c) (hx' h32))];exact hval
     obtain⟨g3,S3,i3,hlen,hil,k3,same3,frame3⟩:=loop_ok h3 (x:=storedI K V c) hk uk i2 (by show (valueL (lookV s2) V.length c (if V.length≤32 then V else [])).2=0;rw [hv2]) hx' hw;have ow3:=own_facts i3.vi i3.own;have hr0:root'≠0:=by have:=ow3.2.2.1;omega
     have er':rootC root'= [root']:=by unfold rootC;rw [if_neg hr0]
     have c3:Clo s'.get s'.pool.count (root' :: S3) (root' :: P):=Clo.close (by rw [get_on i3.on];exact i3.clo) i3.out (by omega);refine⟨root' :: S3,c,i3.vi,by rw [er'];exact c3,.inr ⟨hr0,?_,lv',g3,rfl,look_on (by omega) i3.on,i3.hand,ins_keys hL hk⟩,hr0,(k1.trans k2).trans k3,?_,fun m hm hm0=> ?_,?_⟩
     · rw [hil,hitems]
       cases was<;>simp
     · exact((same1.mono fun q hq=>List.mem_append_right _ hq).trans (same2.mono fun q hq=>List.mem_append_right _ hq)).trans same3
     · obtain⟨a1,a2,a3⟩:=frame1 m hm hm0
       obtain⟨b1,b2,b3,b4⟩:=frame2 m a1 (by rw [a2];exact hm0);obtain⟨d1,d2,d3⟩:=frame3 m b1 b2 (by rw [b3,a2];exact hm0);refine⟨fun e=> ?_,by rw [d2,b3,a2],by rw [d3,b4,a3]⟩;rcases List.mem_cons.1 e with e | e
       · exact b2 e
       · exact d1 e
     · rcases hlv with rfl | ⟨rfl,_⟩
       · exact .inl rfl
       · right;omega
end Go.Cop
namespace Go.Proofs.YtkfjilnmnbeokaaGreat.J9
open ChangeShapes WideShapes ChangeAt RowKit Sl Cop G2 J2 X3 Z3 Y3 M4 Y5 N6 Q6 S6 V6 W6 P6 X6 Y6
theorem meant_any(k l nx:Int)(vi vd:Value)(w:World):
 Calls Tryz.prog 168 #[pageV k l vi vd nx] w fun e w'=>e= .returned (.bool (k == 1 || k == 2))∧Only w w':=by
 have ho:Only w (w.alloc (pageC k l vi vd nx)):=(Only.refl w).alloc _;by_cases h1:k=1
 · subst h1
   go_enter Tryz.func168,Tryz.ntmps168
   go_wp2;go_ret;exact⟨rfl,ho⟩
 · go_enter Tryz.func168,Tryz.ntmps168
   go_wp2;go_ret;exact⟨rfl,ho⟩
def SplitPost(h:Hp)(F:Pr)(w:World)(g:PageV)(e:Ending)(w':World):Prop:=
 Stays w w'∧∃tl tr:ToldX,∃o,e= .returned (.tuple #[tl.pv,tr.pv,o,.bool true])∧tl.g=leftG g∧tr.g=rightG g∧OwnL [PgOwn tl,PgOwn tr,BytesRow o (sepG g),Pr.own h,F] w'
theorem parted_any(h:Hp)(k lv nx:Int)(ai:Option Addr)(ci:Nat)(vd:Value)(its:List ItemV)(dat:List Int)(hi:ItemsIn h (.slice ai 8 ci) its)(h8:its.length=8)(hdd:Bytes h vd dat)(hdl:dat.length≤65536)(fk:∀x∈its,x.key.length≤65536∧x.value.length≤65536)
 (hb:k=2∨(k=1∧betB (itemAt its 3).key (itemAt its 4).key=true)) (hu:∀x∈its,U8 x.key) (F:Pr) (w:World) (hF:Sat ((Pr.own h).star F) w):
 Calls Tryz.prog 169 #[pageV k lv (.slice ai 8 ci) vd nx,pageV k lv (.slice ai 8 ci) vd nx,.slice ai 8 ci,.int .i64 4] w fun e w'=>SplitPost h F w ⟨k,lv,its,dat,nx⟩ e w':=by
 rcases hb with rfl | ⟨rfl,hb⟩
 · exact parted_index h lv nx ai ci vd its dat hi h8 hdd hdl fk F w hF
 · exact parted_leaf h lv nx ai ci vd its dat hi h8 hdd hdl fk hb hu F w hF
theorem split_any(h:Hp)(pv:Value)(g:PageV)(hg:PageIn h pv g)(fit:Fit g)(h8:g.items.length=8)(hb:g.kind=2∨(g.kind=1∧betB (itemAt g.items 3).key (itemAt g.items 4).key=true))(hu:∀x∈g.items,U8 x.key)(F:Pr)(w:World)(hF:Sat ((Pr.own h).star F) w):
 Calls Tryz.prog 152 #[pv] w fun e w'=>SplitPost h F w g e w':=by
 obtain⟨vi,vd,rfl,hi,hdd⟩:=id hg;obtain⟨ai,ci,rfl,hcm,_⟩:=items_rd hi;obtain⟨ad,cd,rfl⟩:=bytes_shape hdd;obtain⟨k,lv,its,dat,nx⟩:=g;simp only at h8 hb hu hi hdd;rw [h8] at hi;rw [h8];have hs0:=(((OwnL.in1 hF).alloc (pageC k lv (.slice ai 8 ci) (.slice ad dat.length cd) nx)).alloc (pageC 0 0 (.slice none 0 0) (.slice none 0 0) 0)).alloc (pageC 0 0 (.slice none 0 0) (.slice none 0 0) 0)
 rw [show ((w.alloc (pageC k lv (.slice ai 8 ci) (.slice ad dat.length cd) nx)).alloc (pageC 0 0 (.slice none 0 0) (.slice none 0 0) 0)).heap.size=w.heap.size+1+1 by simp,show (w.alloc (pageC k lv (.slice ai 8 ci) (.slice ad dat.length cd) nx)).heap.size=w.heap.size+1 by simp] at hs0
 have HST:=hQ ((((Stays.refl w).alloc (pageC k lv (.slice ai 8 ci) (.slice ad dat.length cd) nx)).alloc (pageC 0 0 (.slice none 0 0) (.slice none 0 0) 0)).alloc (pageC 0 0 (.slice none 0 0) (.slice none 0 0) 0));have hd:(k == 1 || k == 2)=true:=by rcases hb with e | ⟨e,_⟩<;>simp [e]
 have fk:∀x∈its,x.key.length≤65536∧x.value.length≤65536:=fun x hx=>by have:=fit.k x hx;omega
 have fd:dat.length≤65536:=by have:=fit.d;simp only at this;omega
 have PT:=hQ (fun FX wx hf=>parted_any h k lv nx ai ci _ its dat hi h8 hdd fd fk hb hu FX wx hf);have MT:=hQ (fun wx=>meant_any k lv nx (.slice ai 8 ci) (.slice ad dat.length cd) wx);rw [hd] at MT;have c1:=hs0.facts;simp only [CellsAt,Nat.reduceAdd,and_true] at c1;have HS0:=hQ hs0;clear hF hg hi hdd hs0 hb hu fk fd fit;go_enter Tryz.func152,Tryz.ntmps152
 go_wp2_with fail
 refine(MT.out _).mono ?_;rintro e w1 ⟨rfl,ho⟩;have hs1:=HS0.out.ext ho.heap;clear c1;have c1:=hs1.facts;simp only [CellsAt,Nat.reduceAdd,and_true] at c1;have P1:=hQ (PT.out _ w1 (hs1.pull1 (A1:=Pr.own h)));have HST1:=hQ (HST.out.trans ho.st);clear PT MT HS0 HST ho hs1 hd;go_wp2_with fail
 refine P1.out.mono ?_;rintro e w2 ⟨st2,tl,tr,o,rfl,e1,e2,hs2⟩;have hs3:=hs2.flat;obtain⟨la,lc,ld,le,hl⟩:=told_sh (hs3.pull1 (A1:=PgOwn tl));obtain⟨ra,rc,rd,re,hr⟩:=told_sh (hs3.pull1 (A1:=PgOwn tr));rw [hl,hr];clear c1;have c1:=hs3.facts;simp only [CellsAt,Nat.reduceAdd,and_true] at c1;have HS3:=hQ hs3;have HST3:=hQ (HST1.out.trans st2);have HPV:=hQ (And.intro (And.intro hl hr) (And.intro e1 e2))
 clear hs2 hs3 st2 hl hr e1 e2 P1 HST1;generalize tl.g.items.length=ln at*;generalize tl.g.data.length=lm at*;generalize tr.g.items.length=rn at*;generalize tr.g.data.length=rm at*;go_wp2
 have h8:=((((HS3.out.set (w.heap.size+1) 0 (.int .i64 tl.g.kind)).set (w.heap.size+1) 1 (.int .i64 tl.g.level)).set (w.heap.size+1) 2 (.slice la ln lc)).set (w.heap.size+1) 3 (.slice ld lm le)).set (w.heap.size+1) 4 (.int .i64 tl.g.next)
 have h9:=((((h8.set (w.heap.size+1+1) 0 (.int .i64 tr.g.kind)).set (w.heap.size+1+1) 1 (.int .i64 tr.g.level)).set (w.heap.size+1+1) 2 (.slice ra rn rc)).set (w.heap.size+1+1) 3 (.slice rd rm re)).set (w.heap.size+1+1) 4 (.int .i64 tr.g.next)
 refine bodyPost_ret (results_row2 rfl _ _ (w.heap.size+1) (w.heap.size+1+1) _ _ _ _ rfl (run_loadVar_row _ (w.heap.size+1) _ _ _ _ _ (h9.pts (w.heap.size+1)).pts_heap Tryz.underlying74 rfl infoPage) rfl (run_loadVar_row _ (w.heap.size+1+1) _ _ _ _ _ (h9.pts (w.heap.size+1+1)).pts_heap Tryz.underlying74 rfl infoPage) rfl rfl) rfl ?_
 exact⟨(((((((((HST3.out.setCell _ _).setCell _ _).setCell _ _).setCell _ _).setCell _ _).setCell _ _).setCell _ _).setCell _ _).setCell _ _).setCell _ _,tl,tr,o,by rw [HPV.out.1.1,HPV.out.1.2];rfl,HPV.out.2.1,HPV.out.2.2,h9.to⟩
end Go.Proofs.YtkfjilnmnbeokaaGreat.J9
namespace Go.Cop
open Go.Proofs.YtkfjilnmnbeokaaGreat.D6 Go.Proofs.YtkfjilnmnbeokaaGreat.D8 Go.Proofs.YtkfjilnmnbeokaaGreat.M7 Go.Proofs.YtkfjilnmnbeokaaGreat.D2 Go.Proofs.YtkfjilnmnbeokaaGreat.J3 Go.Proofs.YtkfjilnmnbeokaaGreat.J7 Go.Proofs.YtkfjilnmnbeokaaGreat.Q3 Go.Proofs.YtkfjilnmnbeokaaGreat.P8 Go.Proofs.YtkfjilnmnbeokaaGreat.C7
theorem half_law {s s':VaultS}{n m:Int}{sep:List Int}(h:VInv s){k:Nat}(rm:RoomV s (k+2))(hh:HalfR s n m sep s'):
 VInv s'∧RoomV s' k∧(∃q,After s q s')∧U8 sep∧sep.length≤24∧((m=0∧s'=s∧sep= [])∨(m≠0∧keyR sep=true)):=by
 obtain⟨g,hg,(⟨_,rfl,rfl,rfl⟩ | ⟨h8,rfl,s1,h1,h2⟩)⟩:=hh
 · exact⟨h,rm.le (by omega),⟨[],.refl⟩,(fun z hz=>by cases hz),by simp,.inl ⟨rfl,rfl,rfl⟩⟩
 · have hu:=h.u8 n g hg
   have hc:=h.chk n g hg;obtain⟨m1,m2,m3,m4,m5⟩:=mk_ext h h1 (right_u8 hu);obtain⟨w1,w2,w3,w4,w5⟩:=wr_ext m5 h2 (fun x hx=>hu x (List.mem_of_mem_take hx));obtain⟨r1,q1⟩:=mk_room h.ok rm h1;obtain⟨r2,q2⟩:=wr_room m5.ok r1 h2;have hk:=sep_right hc h8;have hk2:1≤(sepG g).length∧(sepG g).length≤24:=of_decide_eq_true hk;refine⟨w5,r2,⟨_,q1.trans q2⟩,sep_u8 hc h8 hu,hk2.2,.inr ⟨fun e=> ?_,hk⟩⟩
   have:=m1.1.1
   omega
theorem top_u8 {sep:List Int}(hu:U8 sep)(h c m:Int):∀x∈(topG h c sep m).items,U8 x.key:=fun x hx=>by
 simp only [topG,List.mem_cons,List.not_mem_nil,or_false] at hx;rcases hx with rfl | rfl
 · intro z hz;cases hz
 · exact hu
theorem sh_law {s s':VaultS}{n c:Int}{S P:List Int}{k:Nat}(h:VInv s)(hc:Clo s.get s.pool.count S (n :: P))(rm:RoomV s (k+1))(hs:ShR s n c s'):VInv s'∧ownP s'.pool c=true∧RoomV s' k∧∃q,After s q s':=by
 obtain⟨_,_,_,_,v1,own1,_⟩:=sh_open h hc hs;obtain⟨r1,q1⟩:=sh_room h rm hs;exact⟨v1,own1,r1,q1⟩
theorem down_law {s s1:VaultS}{lv:Nat}{n c:Int}{g:PageV}{L:List ItemV}{S P:List Int}{key:List Int}{k:Nat}(hi:InH s (lv+1) n g L S P)(rm:RoomV s (k+1))(h1:ShR s (itemAt g.items (routeK g.items key)).child c s1):
 VInv s1∧ownP s1.pool c=true∧RoomV s1 k∧∃q,After s q s1:=by
 obtain⟨h,own,on,out,clo,hand⟩:=hi;have hcg:=h.chk n g on;have hkg:g.kind=2:=(hand_succ.1 hand).1;obtain⟨r1,_⟩:=hand_at (key:=key) hcg hand;generalize routeK g.items key=i at*;have ep:=part_at r1
 have ekids:kidsOf g=(g.items.take i).map (·.child)++(itemAt g.items i).child :: (g.items.drop (i+1)).map (·.child):=by
  rw [kid_index hkg];conv=>lhs;rw [ep]
  simp
 have c0:Clo s.get s.pool.count S ((itemAt g.items i).child :: ((g.items.take i).map (·.child)++((g.items.drop (i+1)).map (·.child)++P))):=clo.perm (by
  rw [ekids,List.append_assoc,List.cons_append]
  exact List.perm_middle)
 exact sh_law h c0 rm h1
theorem new_u8 {g:PageV}(hu:∀x∈g.items,U8 x.key){i:Nat}(hi:i<g.items.length){sep:List Int}(us:U8 sep)(c m:Int):∀x∈(newG g i c m sep).items,U8 x.key:=fun x hx=>by
 rcases mem_new hi hx with⟨y,hy,e⟩ | ⟨_,e⟩
 · rw [e];exact hu y hy
 · rw [e];exact us
theorem new_len {g:PageV}{i:Nat}(hi:i<g.items.length)(c m:Int)(sep:List Int):g.items.length≤(newG g i c m sep).items.length:=by
 unfold newG;split
 · simp only [childG,repG,List.length_append,List.length_take,List.length_cons,List.length_drop];omega
 · simp only [insG,childG,repG,List.length_append,List.length_take,List.length_cons,List.length_drop];omega
theorem route_lt {s:VaultS}{lv:Nat}{n:Int}{g:PageV}{L:List ItemV}{S P:List Int}(hi:InH s (lv+1) n g L S P)(key:List Int):g.kind=2∧routeK g.items key<g.items.length:=by
 obtain⟨h,own,on,out,clo,hand⟩:=hi;obtain⟨r1,_⟩:=hand_at (key:=key) (h.chk n g on) hand;exact⟨(hand_succ.1 hand).1,r1⟩
end Go.Cop
namespace Go.Cop
open Go.Proofs.YtkfjilnmnbeokaaGreat.D6 Go.Proofs.YtkfjilnmnbeokaaGreat.D8 Go.Proofs.YtkfjilnmnbeokaaGreat.M7 Go.Proofs.YtkfjilnmnbeokaaGreat.D2 Go.Proofs.YtkfjilnmnbeokaaGreat.J3 Go.Proofs.YtkfjilnmnbeokaaGreat.J7 Go.Proofs.YtkfjilnmnbeokaaGreat.Q3 Go.Proofs.YtkfjilnmnbeokaaGreat.P8 Go.Proofs.YtkfjilnmnbeokaaGreat.C7 Go.Proofs.YtkfjilnmnbeokaaGreat.Q2
structure Lone(s:VaultS):Prop where
 cnt:∀m,s.pool.count m≤1
 lst:∀m,s.pool.lasts m=false
def StayP(s s':VaultS):Prop:= ∀m,s.pool.count m≠0→(s.get m).kind≠3→s'.pool.count m=s.pool.count m∧(s'.get m).kind=(s.get m).kind
theorem StayP.refl(s:VaultS):StayP s s:=fun _ _ _=>⟨rfl,rfl⟩
theorem StayP.trans {a b c:VaultS}(h:StayP a b)(k:StayP b c):StayP a c:=fun m h0 hk=>by
 obtain⟨h1,h2⟩:=h m h0 hk;obtain⟨k1,k2⟩:=k m (by rw [h1];exact h0) (by rw [h2];exact hk);exact⟨k1.trans h1,k2.trans h2⟩
theorem Lone.own {s:VaultS}(h:VInv s)(hl:Lone s){n:Int}(h0:s.pool.count n≠0):ownP s.pool n=true:=by
 have h1:=(count_bd h.ok n).1;have h2:=hl.cnt n;exact own_of (by omega) (hl.lst n)
theorem sh_lone {s s':VaultS}{n c:Int}(h:VInv s)(hl:Lone s)(hs:ShR s n c s'):c=n∧s'=s:=by
 rcases hs.2 with⟨_,h2,h3⟩ | ⟨h1,_⟩
 · exact⟨h2,h3⟩
 · rw [hl.own h hs.1] at h1;cases h1
theorem mk_lone {s s':VaultS}{g:PageV}{n:Int}(h:VInv s)(hl:Lone s)(hu:∀x∈g.items,U8 x.key)(hm:MkR s g n s'):Lone s'∧StayP s s':=by
 obtain⟨m1,m2,m3,m4,m5⟩:=mk_ext h hm hu;refine⟨⟨fun m=> ?_,fun m=>by rw [m4.lasts];exact hl.lst m⟩,fun m h0 hk=> ?_⟩
 · have:=hl.cnt m
   rw [m2];split<;>omega
 · have hmn:m≠n:=fun e=>h0 (e ▸ m1.2.1)
   exact⟨by rw [m2,if_neg hmn],by rw [get_same (show s'.on m=s.on m by rw [m3,if_neg hmn])]⟩
theorem wr_lone {s s':VaultS}{g:PageV}{n:Int}(h:VInv s)(hl:Lone s)(hu:∀x∈g.items,U8 x.key)(hm:WrR s n g s')(hk:(s.get n).kind=g.kind):Lone s'∧StayP s s':=by
 obtain⟨w1,w2,w3,w4,w5⟩:=wr_ext h hm hu;refine⟨⟨fun m=>by rw [w2];exact hl.cnt m,fun m=>by rw [w4.lasts];exact hl.lst m⟩,fun m h0 _=>⟨by rw [w2],?_⟩⟩;by_cases e:m=n
 · subst e
   rw [get_on (show s'.on m=some g by rw [w3,if_pos rfl]),hk]
 · rw [get_same (show s'.on m=s.on m by rw [w3,if_neg e])]
theorem half_lone {s s':VaultS}{c m:Int}{sep:List Int}(h:VInv s)(hl:Lone s)(h0:s.pool.count c≠0)(hh:HalfR s c m sep s'):Lone s'∧StayP s s'∧VInv s':=by
 obtain⟨g,hg,(⟨_,_,_,rfl⟩ | ⟨_,_,s1,h2,h3⟩)⟩:=hh
 · exact⟨hl,StayP.refl _,h⟩
 · have hu:=h.u8 c g hg
   obtain⟨m1,m2,m3,m4,m5⟩:=mk_ext h h2 (right_u8 hu);obtain⟨l1,p1⟩:=mk_lone h hl (right_u8 hu) h2;have hul:∀x∈(leftG g).items,U8 x.key:=fun x hx=>hu x (List.mem_of_mem_take hx)
   have hcm:c≠m:=fun e=>h0 (e ▸ m1.2.1)
   obtain⟨l2,p2⟩:=wr_lone m5 l1 hul h3 (by rw [get_same (show s1.on c=s.on c by rw [m3,if_neg hcm]),get_on hg];rfl);exact⟨l2,p1.trans p2,(wr_ext m5 h3 hul).2.2.2.2⟩
inductive BlobCh (get : Int → PageV) : Int → Prop where
  | mk (n : Int) : (get n).kind = 3 → ((get n).next ≠ 0 → BlobCh get (get n).next) → BlobCh get n
theorem blob_of {s:VaultS}(h:VInv s)(N:Nat):∀(k:Nat) (out:List Int) (n:Int),(chainL (lookV s) N k out n).2=0→out.length<N→N≤out.length+k→BlobCh s.get n
 | 0,out,n,_,h1,h2=>by omega
 | k+1,out,n,hc,h1,h2=>by
   unfold chainL at hc;rw [if_neg (by omega)] at hc;cases hl:lookV s n with
   | none=>rw [hl] at hc;cases hc
   | some g=>
     rw [hl] at hc;have hg:s.get n=g:=get_on (on_look h hl).2;simp only at hc;by_cases hk:g.kind≠3
     · rw [if_pos hk] at hc;cases hc
     · rw [if_neg hk] at hc
       by_cases hd:g.data.length=min (N-out.length) 480∧(g.next=0↔N-out.length≤480)
       · rw [if_pos hd] at hc
         refine .mk n (by rw [hg];omega) fun hn=> ?_
         rw [hg] at hn ⊢;have h3:¬N-out.length≤480:=fun e=>hn (hd.2.2 e)
         refine blob_of h N k _ _ hc ?_ ?_<;>rw [List.length_append,hd.1]<;>omega
       · rw [if_neg hd] at hc;cases hc
theorem kids_blob3 {g:PageV}(hc:g.items= [])(hk:g.kind=3):kidsOf g=if g.next=0 then [] else [g.next]:=by
 unfold kidsOf kidsK;rw [hc];by_cases h:g.next=0<;>simp [hk,h]
theorem drop_blob {get:Int→PageV}(hi:∀n,(get n).kind=3→(get n).items= []){l cs:List Int}{e:Int}{c:List Int}(h:DropR get l cs e c):(∀n∈l,BlobCh get n)→∀m,(get m).kind≠3→cntL c m=cntL cs m:=by
 induction h with
 | nil cs=>intro _ m _;rfl
 | none n t cs h0=>intro _ m _;rfl
 | more n t cs e c h1 h2 h3 ih=>
   intro hl m hm;rw [ih (fun x hx=>hl x (by simp [hx])) m hm,addC_cnt (cnt_there h1),if_neg];rintro rfl;cases hl m (by simp) with
   | mk _ hk _=>exact hm hk
 | last n t cs e c h1 h2 h3 ih=>
   intro hl m hm;have hn:=hl n (by simp);rw [ih (fun x hx=> ?_) m hm,addC_cnt (cnt_there h1),if_neg]
   · rintro rfl
     cases hn with
     | mk _ hk _=>exact hm hk
   · rcases List.mem_append.1 hx with hx | hx
     · cases hn with
       | mk _ hk hnx=>
         rw [kids_blob3 (hi n hk) hk] at hx;by_cases e0:(get n).next=0
         · rw [if_pos e0] at hx;cases hx
         · rw [if_neg e0] at hx
           rw [List.mem_singleton.1 hx];exact hnx e0
     · exact hl x (by simp [hx])
theorem blob_items {g:PageV}(hc:checkP g=0)(hk:g.kind=3):g.items= []:=by
 by_cases h:g.items= []
 · exact h
 · have:=kind_of hc h
   omega
theorem rel_lone {s s':VaultS}{x:ItemV}(h:VInv s)(hl:Lone s)(hv:(valueL (lookV s) x.size x.child x.value).2=0)(hr:RelR s x s'):Lone s'∧StayP s s':=by
 rcases hr with⟨h1,rfl⟩ | ⟨h1,t,W,hd,hi,hf,rfl,ok⟩
 · exact⟨hl,StayP.refl _⟩
 · have hb:BlobCh s.get x.child:=by
    rw [val_chain hv h1] at hv;exact blob_of h _ _ _ _ hv (by simp;omega) (by simp)
   have hit:∀n,(s.get n).kind=3→(s.get n).items= []:=fun n hk=>by
    cases hg:s.on n with
    | none=>unfold VaultS.get;rw [hg];rfl
    | some g=>rw [get_on hg] at hk ⊢;exact blob_items (h.chk n g hg) hk
   have hc:=drop_blob hit hd (fun n hn=>by rw [List.mem_singleton.1 hn];exact hb)
   have hle:∀ {l cs:List Int} {e:Int} {c:List Int},DropR s.get l cs e c→∀m,cntL c m≤cntL cs m:=by
    intro l cs e c hd;induction hd with
    | nil cs=>intro m;exact Int.le_refl _
    | none n t cs h0=>intro m;exact Int.le_refl _
    | more n t cs e c h1 h2 h3 ih=>
      intro m;have:=ih m
      rw [addC_cnt (cnt_there h1)] at this;split at this
      · rename_i he;subst he;omega
      · exact this
    | last n t cs e c h1 h2 h3 ih=>
      intro m;have:=ih m
      rw [addC_cnt (cnt_there h1)] at this;split at this
      · rename_i he;subst he;omega
      · exact this
   refine⟨⟨fun m=> ?_,fun m=> ?_⟩,fun m h0 hk=> ?_⟩
   · have h2:=hle hd m
     have h3:=hl.cnt m;show t.pool.count m≤1
     rw [count_cnt] at h3 ⊢;omega
   · have h2:=hl.lst m
     show t.pool.lasts m=false
     unfold PoolS.lasts at h2 ⊢;rw [hi.mid.last];exact h2
   · have e1:t.pool.count m=s.pool.count m:=by rw [count_cnt,count_cnt];exact hc m hk
     refine⟨e1,?_⟩
     have e2:t.on m=s.on m:=by
      rw [hi.on];show (if t.pool.state m=1 then none else s.on m)=_
      rw [if_neg fun e=>h0 (by rw [← e1];exact count_of_free (s:=t.pool) ok e)]
     exact congrArg PageV.kind (get_same (s:=s) (s':=t) e2)
theorem down_lone {s s':VaultS}{n d:Int}{g:PageV}{key:List Int}(h:VInv s)(hl:Lone s)(hg:s.on n=some g)(h0:s.pool.count n≠0)(hk:g.kind=2)(hr:routeK g.items key<g.items.length)(hd:DownR s n g key s' d):Lone s'∧StayP s s':=by
 obtain⟨c,m,sep,s1,s2,h1,h2,h3,_⟩:=hd;have hc0:=h1.1;obtain⟨rfl,rfl⟩:=sh_lone h hl h1;obtain⟨l2,p2,v2⟩:=half_lone h hl hc0 h2
 have hun:∀x∈(newG g (routeK g.items key) (itemAt g.items (routeK g.items key)).child m sep).items,U8 x.key:=fun x hx=>by
  rcases mem_new hr hx with⟨y,hy,e⟩ | ⟨hm,e⟩
  · rw [e];exact h.u8 n g hg y hy
  · rw [e]
    obtain⟨g1,og,(⟨_,e2,_⟩ | ⟨hl8,e2,_⟩)⟩:=h2
    · exact absurd e2 hm
    · rw [e2];exact sep_u8 (h.chk _ g1 og) hl8 (h.u8 _ g1 og)
 have hkn:(s2.get n).kind=g.kind:=by
  have:=(p2 n h0 (by rw [get_on hg];omega)).2
  rw [this,get_on hg]
 obtain⟨l3,p3⟩:=wr_lone v2 l2 hun h3 (by
  rw [hkn]
  by_cases hm:m=0
  · subst hm;rw [new_none]
  · rw [new_some hr hm])
 exact⟨l3,p2.trans p3⟩
theorem loop_lone {x:ItemV}{was:Bool}{s s':VaultS}{n:Int}(hl:LoopR x was s n s'):∀ {lv:Nat} {g:PageV} {L:List ItemV} {S P:List Int},keyR x.key=true→U8 x.key→InH s lv n g L S (placeC x++P)→Lone s→Lone s'∧StayP s s':=by
 induction hl with
 | add s n g0 s' h0 hk2 hw=>
   intro lv g L S P hk ux hi ho;have eg:g0=g:=Option.some.inj (h0.symm.trans hi.on);subst g0;have hug:=hi.vi.u8 n g h0;refine wr_lone hi.vi ho (fun y hy=> ?_) hw (by rw [get_on h0];rfl);rw [ins_items] at hy;rcases List.mem_append.1 hy with hy | hy
   · exact hug y (List.mem_of_mem_take hy)
   · rcases List.mem_cons.1 hy with rfl | hy
     · exact ux
     · exact hug y (List.mem_of_mem_drop hy)
 | rep s n g0 s1 s' h0 hk2 hlt hw hr=>
   intro lv g L S P hk ux hi ho;have eg:g0=g:=Option.some.inj (h0.symm.trans hi.on);subst g0;have hug:=hi.vi.u8 n g h0
   have hun:∀y∈(repG g (searchK x.key g.items).1 x).items,U8 y.key:=fun y hy=>by
    rw [rep_items] at hy;rcases List.mem_append.1 hy with hy | hy
    · exact hug y (List.mem_of_mem_take hy)
    · rcases List.mem_cons.1 hy with rfl | hy
      · exact ux
      · exact hug y (List.mem_of_mem_drop hy)
   obtain⟨l1,p1⟩:=wr_lone hi.vi ho hun hw (by rw [get_on h0];rfl);obtain⟨w1,w2,w3,w4,w5⟩:=wr_ext hi.vi hw hun;cases lv with
   | succ lv=>exact absurd (hand_succ.1 hi.hand).1 hk2
   | zero=>
     obtain⟨h1,rfl,h3⟩:=hand_zero.1 hi.hand;obtain⟨sm,_⟩:=wr_same hi.vi hun hw hi.clo hi.out
     obtain⟨l2,p2⟩:=rel_lone w5 l1 (by
      rw [val_keep hi.vi sm fun h32=>List.mem_append_left _ ((leaf_child (hi.vi.chk n g h0) h1 (getD_mem hlt)).2 h32)]
      exact h3 _ (getD_mem hlt)) hr
     exact⟨l2,p1.trans p2⟩
 | down was s n g0 s1 d s' h0 hk2 hd hl ih=>
   intro lv g L S P hk ux hi ho;have eg:g0=g:=Option.some.inj (h0.symm.trans hi.on);subst g0;cases lv with
   | zero=>exact absurd hk2 (by have:=(hand_zero.1 hi.hand).1;omega)
   | succ lv=>
     have own':=own_facts hi.vi hi.own;have r1:=(hand_at (key:=x.key) (hi.vi.chk n g h0) hi.hand).1;obtain⟨l1,p1⟩:=down_lone hi.vi ho h0 (by omega) hk2 r1 hd;obtain⟨Sd,Q,gd,g2,X,M,Y,i1,_⟩:=down_open hk hi hd;obtain⟨l2,p2⟩:=ih hk ux (i1.perm (P':=placeC x++(Q++P)) (perm_swap3 _ _ _)) l1;exact⟨l2,p1.trans p2⟩
theorem put_lone {s s':VaultS}{root height items root' height' items':Int}{K V:List Int}{was:Bool}{L:List ItemV}{S P:List Int}(h:VInv s)(hl:Lone s)(hc:Clo s.get s.pool.count S (rootC root++P))(hs:StandN (lookV s) root height items L)(hk:keyR K=true)(uk:U8 K)
 (hp:PutR s root height items K V was s' root' height' items'):Lone s'∧StayP s s':=by
 obtain⟨c,s1,ns,ht,hst,ok1,h1⟩:=hp;obtain⟨v1,k1,S1,c1,same1,hval,hx,frame1⟩:=store_open (K:=K) h hc ht hst ok1
 have l1:Lone s1:=⟨fun m=>by
  by_cases e:m∈ns
  · rw [ht.cnt m e];exact Int.le_refl _
  · rw [(ht.same m e).1];exact hl.cnt m,fun m=>by rw [k1.lasts];exact hl.lst m⟩
 have p1:StayP s s1:=fun m h0 _=>by
  have e:m ∉ ns:=fun e=>h0 ((free_iff h).1 (ht.free m e)).2.1
  obtain⟨a1,a2⟩:=ht.same m e;exact⟨a1,by rw [get_same a2]⟩
 rcases h1 with⟨rfl,rfl,h2,rfl,rfl⟩ | ⟨h0,s2,h2,h3,rfl⟩
 · obtain⟨l2,p2⟩:=mk_lone v1 l1 (fun x hx=>by rw [List.mem_singleton.1 hx];exact uk) h2
   exact⟨l2,p1.trans p2⟩
 · rcases hs with⟨a,_⟩ | ⟨_,hitems,lv,g,rfl,hg,hh,hL⟩
   · exact absurd a h0
   · have er:rootC root= [root]:=by unfold rootC;rw [if_neg h0]
     rw [er] at c1 hc same1;have hroot:root∈ [root]++P:=by simp
     have sr:=same1 root (.base root hroot);have hg1:s1.on root=some g:=sr.2.2.trans (on_look h hg).2
     have hh1:HandN (lookV s1) lv g L:=hand_frame (S:=fun m=>Rch s.get ([root]++P) m) (fun m hm=>look_same (same1 m hm)) (fun m hm g' hg'=>⟨h.chkA m g' hg',fun k hk'=> .step m k hm (by rw [get_on (on_look h hg').2];exact hk')⟩) lv g L (h.chkA _ _ hg) (fun k hk'=> .step root k (.base root hroot) (by rw [get_on (on_look h hg).2];exact hk')) hh
     obtain⟨lv',g',S2,i2,rfl,_⟩:=root_open (P:=placeC (storedI K V c)++P) v1 (c1.perm (perm_swap3 _ [root] _)) hg1 hh1 hL h2
     have l2:Lone s2∧StayP s1 s2:=by
      obtain⟨c',s1',m,sep,s3,g1,g2,g3⟩:=h2;obtain⟨rfl,rfl⟩:=sh_lone v1 l1 g1;obtain⟨l3,p3,v3⟩:=half_lone v1 l1 sr.2.1 g2;rcases g3 with⟨_,rfl,_,_⟩ | ⟨hm,g3,_⟩
      · exact⟨l3,p3⟩
      · obtain⟨l4,p4⟩:=mk_lone v3 l3 (fun x hx=>by
         simp only [topG,List.mem_cons,List.not_mem_nil,or_false] at hx
         rcases hx with rfl | rfl
         · intro z hz;cases hz
         · obtain⟨g1',og,(⟨_,e2,_⟩ | ⟨hl8,e2,_⟩)⟩:=g2
           · exact absurd e2 hm
           · show U8 sep
             rw [e2];exact sep_u8 (v1.chk _ g1' og) hl8 (v1.u8 _ g1' og)) g3
        exact⟨l4,p3.trans p4⟩
     obtain⟨l5,p5⟩:=loop_lone h3 (x:=storedI K V c) hk uk i2 l2.1;exact⟨l5,(p1.trans l2.2).trans p5⟩
end Go.Cop
namespace Go.Proofs.YtkfjilnmnbeokaaGreat.K9
open ChangeShapes WideShapes ChangeAt RowKit Sl Cop D2 J3 G2 J2 X3 Z3 Y3 M4 N4 D6 Y5 N6 Q6 J7 D8 G8 M7 P8 C7
def MkPost(v:Nat)(s:VaultS)(g:PageV)(F:Pr)(w:World)(e:Ending)(w':World):Prop:=Stays w w'∧
 ∃m er:Int,e= .returned (.tuple #[.int .i64 m,.int .i64 er])∧((er=0∧∃s',MkR s g m s'∧Sat ((VaultA v s').star F) w')∨(er≠0∧MkE s g er∧Sat ((VaultA v s).star F) w'))
theorem make_call(v:Nat)(s:VaultS)(k:Nat)(rm:RoomV s (k+1))(hp:Hp)(pv:Value)(g:PageV)(hg:PageIn hp pv g)(hu:∀x∈g.items,U8 x.key)(F:Pr)(w:World)(hF:Sat ((VaultA v s).star ((Pr.own hp).star F)) w):
 Calls Tryz.prog 70 #[.pointer (some ⟨v,0,none⟩),pv] w fun e w'=>MkPost v s g ((Pr.own hp).star F) w e w':=by
 refine(vmake_any v s hp pv g hg hu (by have:=rm.pb;omega) (by have:=rm.vb;omega) F w hF).mono ?_;rintro e w' ⟨st,(⟨h1,rfl,h2⟩ | ⟨h1,z,hz,rfl,h2⟩)⟩
 · exact⟨st,_,_,rfl,.inr ⟨h1,⟨h1,.inl ⟨h1,rfl⟩⟩,h2⟩⟩
 · cases z with
   | none=>exact⟨st,_,_,rfl,.inr ⟨by simp [mkE],⟨by simp [mkE],.inr ⟨h1,rfl,hz⟩⟩,h2⟩⟩
   | some m=>exact⟨st,_,_,rfl,.inl ⟨rfl,_,⟨h1,hz,rfl,(vault_ok h2).1⟩,h2⟩⟩
def WrPut(v:Nat)(s:VaultS)(n:Int)(g:PageV)(F:Pr)(w:World)(e:Ending)(w':World):Prop:=Stays w w'∧
 ∃er:Int,e= .returned (.int .i64 er)∧((er=0∧∃s',WrR s n g s'∧Sat ((VaultA v s').star F) w')∨(er≠0∧WrE s n g er∧Sat ((VaultA v s).star F) w'))
theorem write_call(v:Nat)(s:VaultS)(k:Nat)(rm:RoomV s (k+1))(n:Int)(hp:Hp)(pv:Value)(g:PageV)(hg:PageIn hp pv g)(hu:∀x∈g.items,U8 x.key)(F:Pr)(w:World)(hF:Sat ((VaultA v s).star ((Pr.own hp).star F)) w):
 Calls Tryz.prog 72 #[.pointer (some ⟨v,0,none⟩),.int .i64 n,pv] w fun e w'=>WrPut v s n g ((Pr.own hp).star F) w e w':=by
 refine(vwrite_any v s n hp pv g hg hu (by have:=rm.vb;omega) F w hF).mono ?_;rintro e w' ⟨st,(⟨h1,rfl,h2⟩ | ⟨h1,h3,rfl,h2⟩ | ⟨h1,h3,rfl,h4,h2⟩)⟩
 · exact⟨st,_,rfl,.inr ⟨by decide,⟨by decide,.inl ⟨h1,rfl⟩⟩,h2⟩⟩
 · exact⟨st,_,rfl,.inr ⟨h3,⟨h3,.inr ⟨h1,h3,rfl⟩⟩,h2⟩⟩
 · exact⟨st,_,rfl,.inl ⟨rfl,_,⟨h1,h3,rfl,(vault_ok h2).1⟩,h2⟩⟩
def ShPut(v:Nat)(s:VaultS)(n:Int)(F:Pr)(w:World)(e:Ending)(w':World):Prop:=Stays w w'∧
 ∃c er:Int,e= .returned (.tuple #[.int .i64 c,.int .i64 er])∧((er=0∧∃s',ShR s n c s'∧Sat ((VaultA v s').star F) w')∨(er≠0∧ShE s n er∧Sat ((VaultA v s).star F) w'))
theorem shadow_call(v:Nat)(s:VaultS)(vi:VInv s)(k:Nat)(rm:RoomV s (k+1))(n:Int)(F:Pr)(w:World)(hF:Sat ((VaultA v s).star F) w):
 Calls Tryz.prog 113 #[.pointer (some ⟨v,0,none⟩),.int .i64 n] w fun e w'=>ShPut v s n F w e w':=by
 refine(vshadow_any v s n (fun n g h=>fit_of_check (vi.chk n g h)) (vi.on n) vi.cr (by have:=rm.pb;omega) (by have:=rm.vb;omega) F w hF).mono ?_;rintro e w' ⟨st,(⟨h1,rfl,h2⟩ | ⟨h1,h3,rfl,h2⟩ | ⟨h1,h3,g,z,hg,hz,hm,rfl,h2⟩)⟩
 · exact⟨st,_,_,rfl,.inr ⟨by decide,⟨by decide,.inl ⟨h1,rfl⟩⟩,h2⟩⟩
 · exact⟨st,_,_,rfl,.inl ⟨rfl,_,⟨h1,.inl ⟨h3,rfl,rfl⟩⟩,h2⟩⟩
 · by_cases h0:shE s n g z=0
   · rw [if_pos h0] at h2
     cases z with
     | none=>simp [shE] at h0
     | some c=>exact⟨st,_,_,by rw [if_pos h0,h0];rfl,.inl ⟨rfl,_,⟨h1,.inr ⟨h3,g,hg,hz,h0,rfl,(vault_ok h2).1⟩⟩,h2⟩⟩
   · rw [if_neg h0] at h2
     exact⟨st,_,_,rfl,.inr ⟨h0,⟨h0,.inr ⟨h1,h3,g,z,hg,hz,rfl⟩⟩,h2⟩⟩
theorem MkPost.split {v:Nat}{s:VaultS}{g:PageV}{F:Pr}{w w':World}{e:Ending}(h:MkPost v s g F w e w'):Stays w w'∧∃m er:Int,∃s',e= .returned (.tuple #[.int .i64 m,.int .i64 er])∧Sat ((VaultA v s').star F) w'∧((er=0∧MkR s g m s')∨(er≠0∧s'=s∧MkE s g er)):=by
 obtain⟨st,m,er,rfl,(⟨h1,s',h2,h3⟩ | ⟨h1,h2,h3⟩)⟩:=h
 · exact⟨st,m,er,s',rfl,h3,.inl ⟨h1,h2⟩⟩
 · exact⟨st,m,er,s,rfl,h3,.inr ⟨h1,rfl,h2⟩⟩
theorem WrPut.split {v:Nat}{s:VaultS}{n:Int}{g:PageV}{F:Pr}{w w':World}{e:Ending}(h:WrPut v s n g F w e w'):Stays w w'∧∃er:Int,∃s',e= .returned (.int .i64 er)∧Sat ((VaultA v s').star F) w'∧((er=0∧WrR s n g s')∨(er≠0∧s'=s∧WrE s n g er)):=by
 obtain⟨st,er,rfl,(⟨h1,s',h2,h3⟩ | ⟨h1,h2,h3⟩)⟩:=h
 · exact⟨st,er,s',rfl,h3,.inl ⟨h1,h2⟩⟩
 · exact⟨st,er,s,rfl,h3,.inr ⟨h1,rfl,h2⟩⟩
end Go.Proofs.YtkfjilnmnbeokaaGreat.K9
