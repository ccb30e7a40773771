/- Put goes down an index: the child on the way is taken in hand, split if it is full; all else stays. Plain lemmas. -/
import Derived.Test.YtkfjilnmnbeokaaGreatPutInPlaceM35
set_option maxRecDepth 100000
set_option maxHeartbeats 16000000
namespace Go.Cop
open Go.Proofs.YtkfjilnmnbeokaaGreat.D6 Go.Proofs.YtkfjilnmnbeokaaGreat.D8 Go.Proofs.YtkfjilnmnbeokaaGreat.M7 Go.Proofs.YtkfjilnmnbeokaaGreat.D2 Go.Proofs.YtkfjilnmnbeokaaGreat.J3 Go.Proofs.YtkfjilnmnbeokaaGreat.J7 Go.Proofs.YtkfjilnmnbeokaaGreat.Q3 Go.Proofs.YtkfjilnmnbeokaaGreat.P8 Go.Proofs.YtkfjilnmnbeokaaGreat.C7
structure InH(s:VaultS)(lv:Nat)(n:Int)(g:PageV)(L:List ItemV)(S P:List Int):Prop where
 vi:VInv s
 own:ownP s.pool n=true
 on:s.on n=some g
 out:n ∉ S
 clo:Clo s.get s.pool.count S (kidsOf g++P)
 hand:HandN (lookV s) lv g L
theorem wr_same {s s':VaultS}{n:Int}{g:PageV}{S Q:List Int}(h:VInv s)(hu:∀x∈g.items,U8 x.key)(hw:WrR s n g s')(c:Clo s.get s.pool.count S Q)(hn:n ∉ S):Same s s' Q∧Clo s'.get s'.pool.count S Q:=by
 obtain⟨w1,w2,w3,w4,w5⟩:=wr_ext h hw hu;have ho:∀m∈S,s'.on m=s.on m:=fun m hm=>by rw [w3,if_neg (fun e:m=n=>hn (e ▸ hm))]
 refine⟨fun m hm=> ?_,c.same (fun m hm=>get_same (ho m hm)) fun m _=>by rw [w2];exact Int.le_refl _⟩;have hin:=c.rch hm;exact⟨posC c m hin,by rw [w2];exact posC c m hin,ho m hin⟩
theorem new_none(g:PageV)(i:Nat)(c:Int)(sep:List Int):newG g i c 0 sep= { g with items:=g.items.take i++({ itemAt g.items i with child:=c } :: [])++g.items.drop (i+1) }:=by
 unfold newG childG repG;rw [if_pos rfl];simp
theorem new_some {g:PageV}{i:Nat}{c m:Int}{sep:List Int}(hi:i<g.items.length)(hm:m≠0):newG g i c m sep= { g with items:=g.items.take i++({ itemAt g.items i with child:=c } :: [⟨sep,[],m,0⟩])++g.items.drop (i+1) }:=by
 unfold newG;rw [if_neg hm];unfold childG insG repG;have h1:(g.items.take i).length=i:=by rw [List.length_take];omega
 simp only [PageV.mk.injEq,true_and,and_true]
 have e1:(g.items.take i++ { itemAt g.items i with child:=c } :: g.items.drop (i+1)).take (i+1)=g.items.take i++ [{ itemAt g.items i with child:=c }]:=by
  rw [List.take_append,h1,Nat.add_sub_cancel_left,List.take_of_length_le (by omega)];rfl
 have e2:(g.items.take i++ { itemAt g.items i with child:=c } :: g.items.drop (i+1)).drop (i+1)=g.items.drop (i+1):=by
  rw [List.drop_append,h1,Nat.add_sub_cancel_left,List.drop_of_length_le (by omega)];rfl
 rw [e1,e2];simp
theorem mem_new {g:PageV}{i:Nat}{c m:Int}{sep:List Int}(hi:i<g.items.length){x:ItemV}(hx:x∈(newG g i c m sep).items):(∃y∈g.items,x.key=y.key)∨(m≠0∧x.key=sep):=by
 by_cases hm:m=0
 · subst hm
   rw [new_none] at hx;simp only [List.mem_append,List.mem_cons,List.not_mem_nil,or_false] at hx;rcases hx with(hx | rfl) | hx
   · exact .inl ⟨x,List.mem_of_mem_take hx,rfl⟩
   · exact .inl ⟨_,getD_mem hi,rfl⟩
   · exact .inl ⟨x,List.mem_of_mem_drop hx,rfl⟩
 · rw [new_some hi hm] at hx
   simp only [List.mem_append,List.mem_cons,List.not_mem_nil,or_false] at hx;rcases hx with(hx | rfl | rfl) | hx
   · exact .inl ⟨x,List.mem_of_mem_take hx,rfl⟩
   · exact .inl ⟨_,getD_mem hi,rfl⟩
   · exact .inr ⟨hm,rfl⟩
   · exact .inl ⟨x,List.mem_of_mem_drop hx,rfl⟩
theorem btw_u8:∀ {a b:List Int},cmpI a b<0→U8 a→U8 b→U8 (btwK a b)
 | [],_,_,_,_=>by intro z hz;simp [btwK] at hz;omega
 | _ :: _,[],h,_,_=>by simp [cmpI] at h
 | x :: a,y :: b,h,ha,hb=>by
   unfold btwK;by_cases e:x=y
   · subst e
     rw [if_pos rfl];intro z hz;rcases List.mem_cons.1 hz with rfl | hz
     · exact ha _ (by simp)
     · exact btw_u8 (by simpa [cmpI] using h) (fun z hz=>ha z (by simp [hz])) (fun z hz=>hb z (by simp [hz])) z hz
   · rw [if_neg e]
     intro z hz;rw [List.mem_singleton.1 hz];have h1:=ha x (by simp);have h2:=hb y (by simp)
     have hxy:x<y:=by
      by_cases hl:x<y
      · exact hl
      · unfold cmpI at h
        rw [if_neg hl,if_pos (by omega)] at h;omega
     omega
theorem sep_u8 {g:PageV}(hc:checkP g=0)(h8:g.items.length=8)(hu:∀x∈g.items,U8 x.key):U8 (sepG g):=by
 unfold sepG;split
 · exact hu _ (getD_mem (by omega))
 · exact btw_u8 (page_lt hc (by omega) (by omega)) (hu _ (getD_mem (by omega))) (hu _ (getD_mem (by omega)))
theorem perm_swap3(a b c:List Int):(a++(b++c)).Perm (b++(a++c)):=by
 rw [← List.append_assoc, ← List.append_assoc];exact List.Perm.append_right _ List.perm_append_comm
theorem at_add(A B:List ItemV)(k:Nat):itemAt (A++B) (A.length+k)=itemAt B k:=by
 simp only [List.getD_eq_getElem?_getD];rw [List.getElem?_append_right (Nat.le_add_right _ _),Nat.add_sub_cancel_left]
theorem at_take {l:List ItemV}{i:Nat}(hi:i<l.length)(B:List ItemV)(k:Nat):itemAt (l.take i++B) (i+k)=itemAt B k:=by
 have:=at_add (l.take i) B k
 rwa [List.length_take,Nat.min_eq_left (Nat.le_of_lt hi)] at this
theorem at_drop(l:List ItemV)(i k:Nat):itemAt (l.drop i) k=itemAt l (i+k):=by
 simp only [List.getD_eq_getElem?_getD];rw [List.getElem?_drop]
theorem at_mid0 {l:List ItemV}{i:Nat}(hi:i<l.length)(r:ItemV)(R B:List ItemV):itemAt (l.take i++(r :: R)++B) i=r:=by
 rw [List.append_assoc];have:=at_take hi (r :: R++B) 0
 rwa [Nat.add_zero] at this
theorem at_mid1 {l:List ItemV}{i:Nat}(hi:i<l.length)(r q:ItemV)(R B:List ItemV):itemAt (l.take i++(r :: q :: R)++B) (i+1)=q:=by
 rw [List.append_assoc];exact at_take hi (r :: q :: R++B) 1
theorem lt_next {l:List ItemV}{i:Nat}{k:List Int}(h:i<l.length):ltO k (nextO none (l.drop i))↔cmpI k (itemAt l i).key<0:=by
 rw [show l.drop i=itemAt l i :: l.drop (i+1) by rw [itemAt_get h];exact List.drop_eq_getElem_cons h];rfl
theorem wr_else {s s':VaultS}{n:Int}{g:PageV}(h:VInv s)(hu:∀x∈g.items,U8 x.key)(hw:WrR s n g s'):(∀m,s'.pool.count m=s.pool.count m)∧∀m,m≠n→s'.on m=s.on m:=by
 obtain⟨w1,w2,w3,w4,w5⟩:=wr_ext h hw hu;exact⟨fun m=>by rw [w2],fun m hm=>by rw [w3,if_neg hm]⟩
theorem down_open {s s':VaultS}{lv:Nat}{n d:Int}{g:PageV}{L:List ItemV}{S P:List Int}{key:List Int}(hk:keyR key=true)(hi:InH s (lv+1) n g L S P)(hd:DownR s n g key s' d):
 ∃Sd Q gd g2 X M Y,InH s' lv d gd M Sd (Q++P)∧(4≤gd.items.length∧gd.items.length<8)∧L=X++M++Y∧(∀x∈X,cmpI x.key key<0)∧(∀y∈Y,cmpI key y.key<0)∧
  s'.on n=some g2∧ownP s'.pool n=true∧n ∉ Sd∧n≠d∧checkP g2=0∧(kidsOf g2).Perm (d :: Q)∧g.items.length≤g2.items.length∧Keeps s s'∧Same s s' P∧
  (∀m,m ∉ S→m≠n→s.pool.count m≠0→m ∉ Sd∧m≠d∧s'.pool.count m=s.pool.count m∧s'.on m=s.on m)∧
  ∀(s2:VaultS) (M':List ItemV),Same s' s2 Q→SubN (lookV s2) lv d M'→(∀x∈M',x∈M∨x.key=key)→HandN (lookV s2) (lv+1) g2 (X++M'++Y):=by
 obtain⟨h,own,on,out,clo,hand⟩:=hi;obtain⟨c,m,sep,s1,s2,h1,h2,h3,hdd⟩:=hd;have hcg:=h.chk n g on;have hug:=h.u8 n g on;have hkg:g.kind=2:=(hand_succ.1 hand).1;obtain⟨r1,X,M,Y,eL,hsub,hX,hY,hb,hkey,hclose⟩:=hand_at (key:=key) hcg hand;generalize routeK g.items key=i at*;have ep:=part_at r1
 have ekids:kidsOf g=(g.items.take i).map (·.child)++(itemAt g.items i).child :: (g.items.drop (i+1)).map (·.child):=by
  rw [kid_index hkg];conv=>lhs;rw [ep]
  simp
 have hAB:∀a∈g.items.take i++g.items.drop (i+1),a.child∈(g.items.take i).map (·.child)++(g.items.drop (i+1)).map (·.child):=by
  intro a ha;rcases List.mem_append.1 ha with ha | ha
  · exact List.mem_append_left _ (List.mem_map.2 ⟨a,ha,rfl⟩)
  · exact List.mem_append_right _ (List.mem_map.2 ⟨a,ha,rfl⟩)
 generalize hA:(g.items.take i).map (·.child)=A at*;generalize hB:(g.items.drop (i+1)).map (·.child)=B at*
 have c0:Clo s.get s.pool.count S ((itemAt g.items i).child :: (A++(B++P))):=clo.perm (by
  rw [ekids,List.append_assoc,List.cons_append]
  exact List.perm_middle)
 obtain⟨S1,g1,og,oc,v1,own1,k1,cS1,c1,in1,hcn,else1,same1⟩:=sh_open h c0 h1;have nS1:n ∉ S1:=fun e=>out (in1 n e).1
 have own':=own_facts h own
 have hcS:∀x,x ∉ S→s.pool.count x≠0→x≠c:=fun x hx h0 e=>by
  rcases hcn with e2 | e2
  · exact hx (by rw [e,e2];exact c0.pl _ (by simp))
  · rw [← e] at e2;exact h0 e2
 have hn0:s.pool.count n≠0:=by rw [own'.1];decide
 have hnc:n≠c:=hcS n out hn0;obtain⟨n1,n2⟩:=else1 n out hnc hn0;have own1n:ownP s1.pool n=true:=own_of (n1.trans own'.1) (by rw [k1.lasts];exact own'.2.1);obtain⟨g1',e1,l1,hand1⟩:=hsub;have e1':=(on_look h e1).2;rw [og] at e1';cases e1';have hc1:=h.chk _ g1 og;have hu1:=h.u8 _ g1 og;have hand1':HandN (lookV s1) lv g1 M:=hand_keep h same1 hc1 (fun k hk=>List.mem_append_left _ hk) hand1
 have abP:∀ {q},q∈A++B→q∈A++(B++P):=fun {q} hq=>by rw [← List.append_assoc];exact List.mem_append_left _ hq
 have same1P:Same s s1 P:=same1.mono fun q hq=>List.mem_append_right _ (List.mem_append_right _ (List.mem_append_right _ hq))
 have same1AB:Same s s1 (A++B):=same1.mono fun q hq=>List.mem_append_right _ (abP hq)
 rcases half_open v1 own1 oc cS1 c1 h2 with⟨rfl,hl8,rfl,rfl⟩ | ⟨hm0,hl8,rfl,hcl,hcr,v2,k2,o2c,o2m,ow2c,ow2m,mS,hmc,hmz,c2,else2,same2⟩
 · have hun:∀x∈(newG g i c 0 []).items,U8 x.key:=fun x hx=>by
    rcases mem_new r1 hx with⟨y,hy,e⟩ | ⟨e,_⟩
    · rw [e];exact hug y hy
    · exact absurd rfl e
   obtain⟨w1,w2,w3,w4,w5⟩:=wr_ext v1 h3 hun;obtain⟨sm,c3⟩:=wr_same v1 hun h3 c1 nS1;obtain⟨f1,f2⟩:=wr_else v1 hun h3;have hchk:=h3.2.1
   have hrt:routeK (newG g i c 0 []).items key=i:=by
    refine route_uniq (page_sorted hchk) ?_ ?_ ?_
    · rw [new_none];simp;omega
    · intro hi1
      rw [new_none];exact Int.le_trans (Int.le_of_eq (congrArg (fun z:ItemV=>cmpI z.key key) (at_mid0 r1 _ _ _))) hkey.1
    · intro hi1
      rw [new_none] at hi1 ⊢
      have hlt:i+1<g.items.length:=by
       simp only [List.length_append,List.length_take,List.length_cons,List.length_nil,List.length_drop] at hi1;omega
      show cmpI key (itemAt (g.items.take i++_++_) (i+1)).key<0
      rw [List.append_assoc,at_take r1];show cmpI key (itemAt (g.items.drop (i+1)) 0).key<0
      rw [at_drop];exact(lt_next hlt).1 hkey.2
   have hd:d=c:=by
    rw [hdd,hrt,new_none];exact congrArg ItemV.child (at_mid0 r1 _ _ _)
   subst hd;refine⟨S1,A++B,g1,newG g i d 0 [],X,M,Y,⟨w5,by rw [w2];exact own1,(f2 d (Ne.symm hnc)).trans oc,cS1,by rw [List.append_assoc];exact c3,hand_keep v1 sm hc1 (fun k hk=>List.mem_append_left _ hk) hand1'⟩,⟨l1,hl8⟩,eL,hX,hY,by rw [w3,if_pos rfl],by rw [w2];exact own1n,nS1,hnc,hchk,?_,?_,k1.trans w4,?_,?_,?_⟩
   · rw [kid_index (g:=newG g i d 0 []) (by rw [new_none];exact hkg),new_none]
     simp only [List.map_append,List.map_cons,List.map_nil,hA,hB];rw [List.append_assoc];exact List.perm_middle
   · rw [new_none];simp;omega
   · exact same1P.trans (sm.mono fun q hq=>List.mem_append_right _ (List.mem_append_right _ (List.mem_append_right _ hq)))
   · intro x hx hxn h0
     have hxc:=hcS x hx h0;obtain⟨a1,a2⟩:=else1 x hx hxc h0;exact⟨fun e=>hx (in1 x e).1,hxc,(f1 x).trans a1,(f2 x hxn).trans a2⟩
   · intro z M' hz hs hm
     have hst:Same s z (A++B):=(same1AB.trans (sm.mono fun q hq=>List.mem_append_right _ (abP hq))).trans hz;have:=hclose (lookV z) { itemAt g.items i with child:=d } [] [M'] rfl (fun a ha Z hZ=>sub_keep h hst (hAB a ha) hZ) ⟨hs,fun x hx=> ?_,trivial⟩
     · rw [new_none]
       simpa using this
     · rcases hm x hx with hx | hx
       · exact hb x hx
       · rw [hx];exact⟨hk,hkey.1,hkey.2⟩
 · have hus:=sep_u8 hc1 hl8 hu1
   have hun:∀x∈(newG g i c m (sepG g1)).items,U8 x.key:=fun x hx=>by
    rcases mem_new r1 hx with⟨y,hy,e⟩ | ⟨_,e⟩
    · rw [e];exact hug y hy
    · rw [e];exact hus
   have hnm:n≠m:=fun e=>by rw [← e,n1] at hmz;exact hn0 hmz
   obtain⟨n3,n4⟩:=else2 n hnc (by rw [n1];exact hn0);obtain⟨w1,w2,w3,w4,w5⟩:=wr_ext v2 h3 hun;obtain⟨sm,c3⟩:=wr_same v2 hun h3 c2 nS1;obtain⟨f1,f2⟩:=wr_else v2 hun h3;have hchk:=h3.2.1;obtain⟨MA,MB,rfl,hA1,hB1,hlA,hlB⟩:=hand_split hc1 hu1 hl8 hand1'
   have kl:∀k∈kidsOf (leftG g1)++kidsOf (rightG g1),k∈kidsOf g1++(A++(B++P)):=fun k hk=>by
    rw [kids_split (kind_of hc1 (fun e=>by rw [e] at hl8;simp at hl8))] at hk;exact List.mem_append_left _ hk
   have hA2:HandN (lookV s') lv (leftG g1) MA:=hand_keep v2 sm hcl (fun k hk=>List.mem_append_left _ hk) (hand_keep v1 same2 hcl (fun k hk=>kl k (List.mem_append_left _ hk)) hA1);have hB2:HandN (lookV s') lv (rightG g1) MB:=hand_keep v2 sm hcr (fun k hk=>List.mem_append_right _ (List.mem_append_left _ hk)) (hand_keep v1 same2 hcr (fun k hk=>kl k (List.mem_append_right _ hk)) hB1)
   have o3c:s'.on c=some (leftG g1):=(f2 c (Ne.symm hnc)).trans o2c;have o3m:s'.on m=some (rightG g1):=(f2 m (Ne.symm hnm)).trans o2m;have ow3c:ownP s'.pool c=true:=by rw [w2];exact ow2c
   have ow3m:ownP s'.pool m=true:=by rw [w2];exact ow2m
   have own3n:ownP s'.pool n=true:=by
    rw [w2];exact own_of (n3.trans (n1.trans own'.1)) (by rw [k2.lasts,k1.lasts];exact own'.2.1)
   have sameAB:Same s s' (A++B):=(same1AB.trans (same2.mono fun q hq=>List.mem_append_right _ (abP hq))).trans (sm.mono fun q hq=>List.mem_append_right _ (List.mem_append_right _ (abP hq)))
   have sameP:Same s s' P:=(same1P.trans (same2.mono fun q hq=>List.mem_append_right _ (List.mem_append_right _ (List.mem_append_right _ hq)))).trans (sm.mono fun q hq=>List.mem_append_right _ (List.mem_append_right _ (List.mem_append_right _ (List.mem_append_right _ hq))))
   have frame:∀x,x ∉ S→x≠n→s.pool.count x≠0→(x ∉ S1∧x≠c∧x≠m)∧s'.pool.count x=s.pool.count x∧s'.on x=s.on x:=by
    intro x hx hxn h0;have hxc:=hcS x hx h0;obtain⟨a1,a2⟩:=else1 x hx hxc h0;have hxm:x≠m:=fun e=>h0 (by rw [← a1,e];exact hmz)
    obtain⟨b1,b2⟩:=else2 x hxc (by rw [a1];exact h0);exact⟨⟨fun e=>hx (in1 x e).1,hxc,hxm⟩,(f1 x).trans (b1.trans a1),(f2 x hxn).trans (b2.trans a2)⟩
   have kidsN:(kidsOf (newG g i c m (sepG g1))).Perm (c :: m :: (A++B)):=by
    rw [kid_index (g:=newG g i c m (sepG g1)) (by rw [new_some r1 hm0];exact hkg),new_some r1 hm0];simp only [List.map_append,List.map_cons,List.map_nil,hA,hB];rw [List.append_assoc];exact(List.perm_middle).trans (List.Perm.cons c List.perm_middle)
   have lenN:g.items.length≤(newG g i c m (sepG g1)).items.length:=by rw [new_some r1 hm0];simp;omega
   have l4:4≤(leftG g1).items.length:=by show 4≤(g1.items.take 4).length;rw [List.length_take];omega
   have l48:(leftG g1).items.length<8:=by show (g1.items.take 4).length<8;rw [List.length_take];omega
   have l48':(rightG g1).items.length<8:=by
    show (if g1.kind=2 then nilKey (g1.items.drop 4) else g1.items.drop 4).length<8
    have hd4:(g1.items.drop 4).length=4:=by rw [List.length_drop];omega
    split
    · rw [show (nilKey (g1.items.drop 4)).length=(g1.items.drop 4).length by cases g1.items.drop 4<;>rfl,hd4];decide
    · rw [hd4];decide
   have l4':4≤(rightG g1).items.length:=by
    show 4≤(if g1.kind=2 then nilKey (g1.items.drop 4) else g1.items.drop 4).length
    have hd4:(g1.items.drop 4).length=4:=by rw [List.length_drop];omega
    split
    · rw [show (nilKey (g1.items.drop 4)).length=(g1.items.drop 4).length by cases g1.items.drop 4<;>rfl,hd4];exact Nat.le_refl _
    · rw [hd4];exact Nat.le_refl _
   have at0:itemAt (newG g i c m (sepG g1)).items i= { itemAt g.items i with child:=c }:=by
    rw [new_some r1 hm0];exact at_mid0 r1 _ _ _
   have at1:itemAt (newG g i c m (sepG g1)).items (i+1)=⟨sepG g1,[],m,0⟩:=by
    rw [new_some r1 hm0];exact at_mid1 r1 _ _ _ _
   have at2:itemAt (newG g i c m (sepG g1)).items (i+2)=itemAt g.items (i+1):=by
    rw [new_some r1 hm0];show itemAt (g.items.take i++_++_) (i+2)=_
    rw [List.append_assoc];refine(at_take r1 (({ itemAt g.items i with child:=c } :: [⟨sepG g1,[],m,0⟩])++g.items.drop (i+1)) 2).trans ?_;show itemAt (g.items.drop (i+1)) 0=_
    rw [at_drop]
   have lenE:(newG g i c m (sepG g1)).items.length=g.items.length+1:=by rw [new_some r1 hm0];simp;omega
   have hbA:∀x∈MA,keyR x.key=true∧cmpI (itemAt g.items i).key x.key≤0:=fun x hx=>⟨(hb x (List.mem_append_left _ hx)).1,(hb x (List.mem_append_left _ hx)).2.1⟩
   have hbB:∀x∈MB,keyR x.key=true∧ltO x.key (nextO none (g.items.drop (i+1))):=fun x hx=>⟨(hb x (List.mem_append_right _ hx)).1,(hb x (List.mem_append_right _ hx)).2.2⟩
   by_cases hks:cmpI key (sepG g1)<0
   · have hrt:routeK (newG g i c m (sepG g1)).items key=i:=by
      refine route_uniq (page_sorted hchk) (by rw [lenE];omega) (fun _=>by rw [at0];exact hkey.1) fun _=>by rw [at1];exact hks
     have hd:d=c:=by rw [hdd,hrt,at0]
     subst hd
     have c4:Clo s'.get s'.pool.count (m :: S1) (m :: (kidsOf (leftG g1)++(A++(B++P)))):=by
      refine Clo.close (c3.perm ?_) mS (by have:=own_facts w5 ow3m;omega);rw [get_on o3m];exact perm_swap3 _ _ _
     refine⟨m :: S1,m :: (A++B),leftG g1,newG g i d m (sepG g1),X,MA,MB++Y,⟨w5,ow3c,o3c,?_,?_,hA2⟩,⟨l4,l48⟩,by rw [eL];simp,hX,?_,by rw [w3,if_pos rfl],own3n,?_,hnc,hchk,kidsN,lenN,(k1.trans k2).trans w4,sameP,?_,?_⟩
     · intro e
       rcases List.mem_cons.1 e with e | e
       · exact hmc e.symm
       · exact cS1 e
     · refine c4.perm ?_
       rw [List.cons_append,List.append_assoc];exact List.perm_middle.symm
     · intro y hy
       rcases List.mem_append.1 hy with hy | hy
       · exact cmp_lt_le hks (hlB y hy)
       · exact hY y hy
     · intro e
       rcases List.mem_cons.1 e with e | e
       · exact hnm e
       · exact nS1 e
     · intro x hx hxn h0
       obtain⟨⟨a1,a2,a3⟩,a4,a5⟩:=frame x hx hxn h0;refine⟨fun e=> ?_,a2,a4,a5⟩;rcases List.mem_cons.1 e with e | e
       · exact a3 e
       · exact a1 e
     · intro z M' hz hs hm
       have hst:Same s z (A++B):=sameAB.trans (hz.mono fun q hq=>List.mem_cons_of_mem _ hq)
       have hmz':SubN (lookV z) lv m MB:=by
        refine sub_keep w5 hz (List.mem_cons_self ..) ⟨rightG g1,look_on ?_ o3m,l4',hB2⟩;have:=own_facts w5 ow3m
        omega
       have:=hclose (lookV z) { itemAt g.items i with child:=d } [⟨sepG g1,[],m,0⟩] [M',MB] rfl (fun a ha Z hZ=>sub_keep h hst (hAB a ha) hZ) ⟨hs,fun x hx=> ?_,hmz',fun x hx=>⟨(hbB x hx).1,hlB x hx,(hbB x hx).2⟩,trivial⟩
       · rw [new_some r1 hm0]
         simpa using this
       · rcases hm x hx with hx | hx
         · exact⟨(hbA x hx).1,(hbA x hx).2,hlA x hx⟩
         · rw [hx];exact⟨hk,hkey.1,hks⟩
   · have hks':cmpI (sepG g1) key≤0:=by rw [cmp_anti];omega
     have hrt:routeK (newG g i c m (sepG g1)).items key=i+1:=by
      refine route_uniq (page_sorted hchk) (by rw [lenE];omega) (fun _=>by rw [at1];exact hks') fun hlt=> ?_
      rw [at2];exact(lt_next (by rw [lenE] at hlt;omega)).1 hkey.2
     have hd:d=m:=by rw [hdd,hrt,at1]
     subst hd
     have c4:Clo s'.get s'.pool.count (c :: S1) (c :: (kidsOf (rightG g1)++(A++(B++P)))):=by
      refine Clo.close (c3.perm ?_) cS1 (by have:=own_facts w5 ow3c;omega);rw [get_on o3c]
     refine⟨c :: S1,c :: (A++B),rightG g1,newG g i c d (sepG g1),X++MA,MB,Y,⟨w5,ow3m,o3m,?_,?_,hB2⟩,⟨l4',l48'⟩,by rw [eL];simp,?_,hY,by rw [w3,if_pos rfl],own3n,?_,hnm,hchk,kidsN.trans (List.Perm.swap ..),lenN,(k1.trans k2).trans w4,sameP,?_,?_⟩
     · intro e
       rcases List.mem_cons.1 e with e | e
       · exact hmc e
       · exact mS e
     · refine c4.perm ?_
       rw [List.cons_append,List.append_assoc];exact List.perm_middle.symm
     · intro x hx
       rcases List.mem_append.1 hx with hx | hx
       · exact hX x hx
       · exact cmp_lt_le (hlA x hx) hks'
     · intro e
       rcases List.mem_cons.1 e with e | e
       · exact hnc e
       · exact nS1 e
     · intro x hx hxn h0
       obtain⟨⟨a1,a2,a3⟩,a4,a5⟩:=frame x hx hxn h0;refine⟨fun e=> ?_,a3,a4,a5⟩;rcases List.mem_cons.1 e with e | e
       · exact a2 e
       · exact a1 e
     · intro z M' hz hs hm
       have hst:Same s z (A++B):=sameAB.trans (hz.mono fun q hq=>List.mem_cons_of_mem _ hq)
       have hcz:SubN (lookV z) lv c MA:=by
        refine sub_keep w5 hz (List.mem_cons_self ..) ⟨leftG g1,look_on ?_ o3c,l4,hA2⟩;have:=own_facts w5 ow3c
        omega
       have:=hclose (lookV z) { itemAt g.items i with child:=c } [⟨sepG g1,[],d,0⟩] [MA,M'] rfl (fun a ha Z hZ=>sub_keep h hst (hAB a ha) hZ) ⟨hcz,fun x hx=>⟨(hbA x hx).1,(hbA x hx).2,hlA x hx⟩,hs,fun x hx=> ?_,trivial⟩
       · rw [new_some r1 hm0]
         simpa using this
       · rcases hm x hx with hx | hx
         · exact⟨(hbB x hx).1,hlB x hx,(hbB x hx).2⟩
         · rw [hx];exact⟨hk,hks',hkey.2⟩
end Go.Cop
namespace Go.Cop
open Go.Proofs.YtkfjilnmnbeokaaGreat.D6 Go.Proofs.YtkfjilnmnbeokaaGreat.D8 Go.Proofs.YtkfjilnmnbeokaaGreat.M7 Go.Proofs.YtkfjilnmnbeokaaGreat.D2 Go.Proofs.YtkfjilnmnbeokaaGreat.J3 Go.Proofs.YtkfjilnmnbeokaaGreat.J7 Go.Proofs.YtkfjilnmnbeokaaGreat.Q3 Go.Proofs.YtkfjilnmnbeokaaGreat.P8 Go.Proofs.YtkfjilnmnbeokaaGreat.C7
def placeC(x:ItemV):List Int:=if x.child=0 then [] else [x.child]
theorem insK_sorted {x:ItemV}{A B:List ItemV}(h:(A++x :: B).Pairwise KeyLt):insK x (A++B)=A++x :: B:=by
 obtain⟨h1,h2⟩:=part_lt h rfl;have:=insK_mid (x:=x) (X:=A) (M:= []) (Y:=B) h1 h2
 simpa [insK] using this
theorem insK_rep {x y:ItemV}{A B:List ItemV}(h:(A++x :: B).Pairwise KeyLt)(e:y.key=x.key):insK x (A++y :: B)=A++x :: B:=by
 obtain⟨h1,h2⟩:=part_lt h rfl;have:=insK_mid (x:=x) (X:=A) (M:= [y]) (Y:=B) h1 h2
 rw [List.append_assoc] at this;rw [show A++y :: B=A++([y]++B) from rfl,this];have e1:cmpI y.key x.key=0:=by rw [e];exact cmp_self _
 have e2:cmpI x.key y.key=0:=by rw [e];exact cmp_self _
 simp [insK,e1,e2]
theorem kids_leaf_mid {g:PageV}(hk:g.kind=1){A B:List ItemV}{x:ItemV}(e:g.items=A++x :: B):(kidsOf g).Perm (placeC x++((A++B).filter fun y=>y.child != 0).map (·.child)):=by
 rw [kid_leaf hk,e,List.filter_append,List.filter_cons,List.filter_append];unfold placeC;by_cases h:x.child=0
 · rw [if_pos h,if_neg (by simp [h])]
   simp
 · rw [if_neg h,if_pos (by simpa using h)]
   simp only [List.map_append,List.map_cons];exact List.perm_middle
theorem InH.perm {s:VaultS}{lv:Nat}{n:Int}{g:PageV}{L:List ItemV}{S P P':List Int}(h:InH s lv n g L S P)(hp:P.Perm P'):InH s lv n g L S P':=
 ⟨h.vi,h.own,h.on,h.out,h.clo.perm (List.Perm.append_left _ hp),h.hand⟩
theorem rel_ext {s s':VaultS}{x:ItemV}{S P:List Int}(h:VInv s)(c:Clo s.get s.pool.count S (placeC x++P))(hx:(x.size≤32→x.child=0)∧(32<x.size→x.child≠0))(hr:RelR s x s'):
 VInv s'∧Keeps s s'∧∃S',Clo s'.get s'.pool.count S' P∧(∀m∈S',m∈S∧s'.on m=s.on m)∧(∀m,m ∉ S→s.pool.count m≠0→s'.pool.count m=s.pool.count m∧s'.on m=s.on m)∧Same s s' P:=by
 rcases hr with⟨h1,rfl⟩ | ⟨h1,t,W,hd,hi,hf,rfl,ok⟩
 · have e:placeC x= []:=by unfold placeC;rw [if_pos (hx.1 h1)]
   rw [e] at c;exact⟨h,Keeps.refl _,S,c,fun m hm=>⟨hm,rfl⟩,fun m _ _=>⟨rfl,rfl⟩,Same.refl c (posC c)⟩
 · have e:placeC x= [x.child]:=by unfold placeC;rw [if_neg (hx.2 h1)]
   rw [e] at c;have ec:s.pool.count=cntL s.pool.counts:=funext fun n=>count_cnt _ _
   have et:t.pool.count=cntL t.pool.counts:=funext fun n=>count_cnt _ _
   rw [ec] at c;obtain⟨_,_,⟨S',c1,c2,c3,c4⟩,c5⟩:=c.drop hd;have hpos:∀m,0≤t.pool.count m:=fun m=>(count_bd (s:=t.pool) ok m).1
   have hons:∀m,t.on m=if t.pool.state m=1 then none else s.on m:=fun m=>by rw [hi.on]
   have hst:∀m,t.pool.count m≠0→t.on m=s.on m:=fun m hm=>by
    rw [hons,if_neg (fun e=>hm (count_of_free (s:=t.pool) ok e))]
   have hk:Keeps s (t.acted ⟨s.pool.mark,W⟩):=by
    refine⟨hi.mid.last,hi.mid.refs,hi.len,fun m hm=> ?_⟩;show t.on m=_
    rw [hons,if_neg fun e=> ?_];have h2:=lasts_of_free (s:=t.pool) ok e;unfold PoolS.lasts at h2 hm;rw [hi.mid.last] at h2;rw [h2] at hm;cases hm
   have hcr:CR t.pool:=fun m=>by
    have h2:=c5 m;have h3:=h.cr m;rw [et,hi.mid.refs];rw [ec] at h3;omega
   have hv:VInv (t.acted ⟨s.pool.mark,W⟩):=by
    refine h.of hk ok hcr (fun m hon h0=> ?_) (fun m h0=> ?_) fun m g hg=> ?_
    · have hon':t.on m≠none:=hon
      have h0':t.pool.count m=0:=h0;cases hl:s.pool.lasts m with
      | true=>exact .inl rfl
      | false=>
        right
        have hl':t.pool.lasts m=false:=by unfold PoolS.lasts;rw [hi.mid.last];exact hl
        by_cases ht:t.pool.there m
        · exfalso
          refine hon' ?_;rw [hons,if_pos];rw [state_there ht,h0',hl'];rfl
        · have hs0:s.pool.count m=0:=by
           by_cases e:s.pool.count m=0
           · exact e
           · exact absurd (show t.pool.there m by have:=there_of_count e;exact⟨this.1,by rw [hi.len];exact this.2⟩) ht
          refine⟨hs0,?_⟩;rw [hons,if_neg (fun e=>ht (there_of_state (by omega)))] at hon';exact hon'
    · have h0':t.pool.count m≠0:=h0
      show t.on m≠none
      rw [hst m h0'];have h2:=c5 m;have h3:=hpos m;obtain⟨g,e⟩:=h.on m (by rw [ec];rw [et] at h0' h3;omega);rw [e];simp
    · have hg':t.on m=some g:=hg
      rw [hons] at hg';split at hg'
      · cases hg'
      · exact .inl hg'
   have c1':Clo t.get t.pool.count S' P:=by
    rw [et];exact c1.same (fun m hm=>get_same (hst m (by rw [et];have:=c1.pos m hm;omega))) fun m _=>Int.le_refl _
   have hS:∀m∈S',m∈S∧t.on m=s.on m:=fun m hm=>⟨c2 m hm,hst m (posC (s:=t) c1' m hm)⟩
   refine⟨hv,hk,S',c1',hS,fun m hm h0=> ?_,fun m hm=> ?_⟩
   · have e:t.pool.count m=s.pool.count m:=by rw [et,ec];exact c3 m hm
     exact⟨e,hst m (by rw [e];exact h0)⟩
   · have hin:=rch_in c1' (fun m hm=>get_same (hS m hm).2) hm
     refine⟨?_,posC (s:=t) c1' m hin,(hS m hin).2⟩;rw [ec];have:=c.pos m (c2 m hin)
     omega
theorem ins_items(g:PageV)(i:Nat)(x:ItemV):(insG g i x).items=g.items.take i++x :: g.items.drop i:=rfl
theorem rep_items(g:PageV)(i:Nat)(x:ItemV):(repG g i x).items=g.items.take i++x :: g.items.drop (i+1):=rfl
theorem place_child {x:ItemV}(h:x.child≠0):x.child∈placeC x:=by unfold placeC;rw [if_neg h];simp
theorem loop_ok {x:ItemV}{was:Bool}{s s':VaultS}{n:Int}(hl:LoopR x was s n s'):∀ {lv:Nat} {g:PageV} {L:List ItemV} {S P:List Int},keyR x.key=true→U8 x.key→InH s lv n g L S (placeC x++P)→(valueL (lookV s) x.size x.child x.value).2=0→(32<x.size→x.child≠0)→(was=true→∃y∈L,y.key=x.key)→
 ∃g' S',InH s' lv n g' (insK x L) S' P∧g.items.length≤g'.items.length∧(insK x L).length=L.length+(if was then 0 else 1)∧Keeps s s'∧Same s s' P∧
  ∀m,m ∉ S→m≠n→s.pool.count m≠0→m ∉ S'∧s'.pool.count m=s.pool.count m∧s'.on m=s.on m:=by
 induction hl with
 | add s n g0 s' h0 hk2 hw=>
   intro lv g L S P hk ux hi hv hx _;obtain⟨h,own,on,out,clo,hand⟩:=hi;have eg:g0=g:=Option.some.inj (h0.symm.trans on);subst g0;cases lv with
   | succ lv=>exact absurd (hand_succ.1 hand).1 hk2
   | zero=>
     obtain⟨h1,rfl,h3⟩:=hand_zero.1 hand;have hcg:=h.chk n g on;have hug:=h.u8 n g on;generalize (searchK x.key g.items).1=i at hw;have hchk:=hw.2.1
     have hun:∀y∈(insG g i x).items,U8 y.key:=fun y hy=>by
      rw [ins_items] at hy;rcases List.mem_append.1 hy with hy | hy
      · exact hug y (List.mem_of_mem_take hy)
      · rcases List.mem_cons.1 hy with rfl | hy
        · exact ux
        · exact hug y (List.mem_of_mem_drop hy)
     obtain⟨w1,w2,w3,w4,w5⟩:=wr_ext h hw hun;obtain⟨sm,c3⟩:=wr_same h hun hw clo out;obtain⟨f1,f2⟩:=wr_else h hun hw
     have hins:insK x g.items=(insG g i x).items:=by
      have:=insK_sorted (page_sorted hchk)
      rw [List.take_append_drop] at this;exact this
     have hkids:(kidsOf (insG g i x)).Perm (placeC x++kidsOf g):=by
      have:=kids_leaf_mid (g:=insG g i x) h1 (ins_items g i x)
      rw [List.take_append_drop, ← kid_leaf h1] at this;exact this
     refine⟨insG g i x,S,⟨w5,by rw [w2];exact own,by rw [w3,if_pos rfl],out,c3.perm ?_,?_⟩,?_,?_,w4,sm.mono fun q hq=>List.mem_append_right _ (List.mem_append_right _ hq),fun m hm hmn _=>⟨hm,f1 m,f2 m hmn⟩⟩
     · rw [← List.append_assoc]
       exact List.Perm.append_right _ (List.perm_append_comm.trans hkids.symm)
     · refine hand_zero.2 ⟨h1,hins,fun y hy=> ?_⟩
       rw [ins_items] at hy
       have old:y∈g.items→(valueL (lookV s') y.size y.child y.value).2=0:=fun hy=>by
        rw [val_keep h sm fun h32=>List.mem_append_left _ ((leaf_child hcg h1 hy).2 h32)];exact h3 y hy
       rcases List.mem_append.1 hy with hy | hy
       · exact old (List.mem_of_mem_take hy)
       · rcases List.mem_cons.1 hy with rfl | hy
         · rw [val_keep h sm fun h32=>List.mem_append_right _ (List.mem_append_left _ (place_child (hx h32)))]
           exact hv
         · exact old (List.mem_of_mem_drop hy)
     · rw [ins_items,List.length_append,List.length_cons,List.length_take,List.length_drop]
       omega
     · rw [hins,ins_items,List.length_append,List.length_cons, ← Nat.add_assoc, ← List.length_append,List.take_append_drop]
       rfl
 | rep s n g0 s1 s' h0 hk2 hlt hw hr=>
   intro lv g L S P hk ux hi hv hx hhas;obtain⟨h,own,on,out,clo,hand⟩:=hi;have eg:g0=g:=Option.some.inj (h0.symm.trans on);subst g0;cases lv with
   | succ lv=>exact absurd (hand_succ.1 hand).1 hk2
   | zero=>
     obtain⟨h1,rfl,h3⟩:=hand_zero.1 hand;have hcg:=h.chk n g on;have hug:=h.u8 n g on
     have hkey:(itemAt g.items (searchK x.key g.items).1).key=x.key:=by
      obtain⟨a1,a2,a3⟩:=search_spec x.key (page_sorted hcg);obtain⟨y,hy,e⟩:=hhas rfl;cases hb:(searchK x.key g.items).2 with
      | true=>exact(a2 hb).2
      | false=>exact absurd e (a3 hb y hy)
     generalize (searchK x.key g.items).1=i at*;have hchk:=hw.2.1
     have hun:∀y∈(repG g i x).items,U8 y.key:=fun y hy=>by
      rw [rep_items] at hy;rcases List.mem_append.1 hy with hy | hy
      · exact hug y (List.mem_of_mem_take hy)
      · rcases List.mem_cons.1 hy with rfl | hy
        · exact ux
        · exact hug y (List.mem_of_mem_drop hy)
     obtain⟨w1,w2,w3,w4,w5⟩:=wr_ext h hw hun;obtain⟨sm,c3⟩:=wr_same h hun hw clo out;obtain⟨f1,f2⟩:=wr_else h hun hw;have ep:=part_at hlt
     have hins:insK x g.items=(repG g i x).items:=by
      have:=insK_rep (page_sorted hchk) hkey
      rw [← ep] at this;exact this
     have k1:=kids_leaf_mid h1 ep;have k2:=kids_leaf_mid (g:=repG g i x) h1 (rep_items g i x);have hold:=leaf_child hcg h1 (getD_mem hlt)
     have c4:Clo s1.get s1.pool.count S (placeC (itemAt g.items i)++(kidsOf (repG g i x)++P)):=by
      refine c3.perm ?_;refine(List.Perm.append_right _ k1).trans ?_;rw [List.append_assoc];refine List.Perm.append_left _ ?_;refine(perm_swap3 _ _ _).trans ?_;rw [← List.append_assoc];exact List.Perm.append_right _ k2.symm
     obtain⟨v2,kp2,S',c5,in5,else5,same5⟩:=rel_ext w5 c4 ⟨hold.1,fun h32 e=>by
      have:=hold.2 h32
      rw [kid_leaf h1] at this
      obtain⟨z,hz,ez⟩:=List.mem_map.1 this
      have:=(List.mem_filter.1 hz).2
      rw [ez,e] at this
      simp at this⟩ hr
     have own':=own_facts h own;have hn1:s1.pool.count n≠0:=by rw [f1,own'.1];decide
     obtain⟨n1,n2⟩:=else5 n out hn1;have s1P:Same s s1 P:=sm.mono fun q hq=>List.mem_append_right _ (List.mem_append_right _ hq)
     refine⟨repG g i x,S',⟨v2,own_of (n1.trans ((f1 n).trans own'.1)) (by rw [kp2.lasts,w4.lasts];exact own'.2.1),by rw [n2,w3,if_pos rfl],fun e=>out (in5 n e).1,c5,?_⟩,?_,?_,w4.trans kp2,s1P.trans (same5.mono fun q hq=>List.mem_append_right _ hq),fun m hm hmn h0=> ?_⟩
     · refine hand_zero.2 ⟨h1,hins,fun y hy=> ?_⟩
       rw [val_keep w5 same5 fun h32=>List.mem_append_left _ ((leaf_child hchk h1 hy).2 h32)];rw [rep_items] at hy
       have old:y∈g.items→(valueL (lookV s1) y.size y.child y.value).2=0:=fun hy=>by
        rw [val_keep h sm fun h32=>List.mem_append_left _ ((leaf_child hcg h1 hy).2 h32)];exact h3 y hy
       rcases List.mem_append.1 hy with hy | hy
       · exact old (List.mem_of_mem_take hy)
       · rcases List.mem_cons.1 hy with rfl | hy
         · rw [val_keep h sm fun h32=>List.mem_append_right _ (List.mem_append_left _ (place_child (hx h32)))]
           exact hv
         · exact old (List.mem_of_mem_drop hy)
     · rw [rep_items,List.length_append,List.length_cons,List.length_take,List.length_drop]
       omega
     · rw [hins,rep_items,List.length_append,List.length_cons,List.length_take,List.length_drop]
       simp
       omega
     · obtain⟨a1,a2⟩:=else5 m hm (by rw [f1];exact h0)
       exact⟨fun e=>hm (in5 m e).1,a1.trans (f1 m),a2.trans (f2 m hmn)⟩
 | down was s n g0 s1 d s' h0 hk2 hd hl ih=>
   intro lv g L S P hk ux hi hv hx hhas;have on:=hi.on;have eg:g0=g:=Option.some.inj (h0.symm.trans on);subst g0;cases lv with
   | zero=>exact absurd hk2 (by have:=(hand_zero.1 hi.hand).1;omega)
   | succ lv=>
     obtain⟨Sd,Q,gd,g2,X,M,Y,i1,⟨l4,_⟩,eL,hX,hY,on1,own1,nS,nd,hc2,hkids,hlen,kp1,same1,frame1,hclose⟩:=down_open hk hi hd;have own':=own_facts hi.vi hi.own;have hxs:32<x.size→x.child∈placeC x++P:=fun h32=>List.mem_append_left _ (place_child (hx h32))
     have hv1:(valueL (lookV s1) x.size x.child x.value).2=0:=by rw [val_keep hi.vi same1 hxs];exact hv
     obtain⟨gd',S',i2,hlen2,hil,kp2,same2,frame2⟩:=ih hk ux (i1.perm (P':=placeC x++(Q++P)) (perm_swap3 _ _ _)) hv1 hx fun hw=>by
      obtain⟨y,hy,e⟩:=hhas hw;rw [eL] at hy;rcases List.mem_append.1 hy with hy | hy
      · rcases List.mem_append.1 hy with hy | hy
        · have:=hX y hy;rw [e,cmp_self] at this;omega
        · exact⟨y,hy,e⟩
      · have:=hY y hy;rw [e,cmp_self] at this;omega
     have own1':=own_facts i1.vi own1;obtain⟨n1,n2,n3⟩:=frame2 n nS nd (by rw [own1'.1];decide);have ownd:=own_facts i2.vi i2.own
     have c6:Clo s'.get s'.pool.count (d :: S') (kidsOf g2++P):=by
      have:=Clo.close (get:=s'.get) (cnt:=s'.pool.count) (n:=d) (P:=Q++P) (by rw [get_on i2.on];exact i2.clo) i2.out (by omega)
      refine this.perm ?_;rw [← List.cons_append];exact List.Perm.append_right _ hkids.symm
     have hins:insK x L=X++insK x M++Y:=by rw [eL];exact insK_mid hX hY
     refine⟨g2,d :: S',⟨i2.vi,own_of (n2.trans own1'.1) (by rw [kp2.lasts];exact own1'.2.1),by rw [n3,on1],fun e=> ?_,c6,?_⟩,hlen,?_,kp1.trans kp2,?_,fun m hm hmn h0=> ?_⟩
     · rcases List.mem_cons.1 e with e | e
       · exact nd e
       · exact n1 e
     · rw [hins]
       refine hclose s' (insK x M) (same2.mono fun q hq=>List.mem_append_left _ hq) ⟨gd',look_on (by omega) i2.on,by omega,i2.hand⟩ fun y hy=> ?_
       rcases insK_mem hy with hy | rfl
       · exact .inl hy
       · exact .inr rfl
     · rw [hins,eL]
       simp only [List.length_append];omega
     · exact(same1.mono fun q hq=>List.mem_append_right _ hq).trans (same2.mono fun q hq=>List.mem_append_right _ hq)
     · obtain⟨a1,a2,a3,a4⟩:=frame1 m hm hmn h0
       obtain⟨b1,b2,b3⟩:=frame2 m a1 a2 (by rw [a3];exact h0);refine⟨fun e=> ?_,b2.trans a3,b3.trans a4⟩;rcases List.mem_cons.1 e with e | e
       · exact a2 e
       · exact b1 e
end Go.Cop
namespace Go.Cop
open Go.Proofs.YtkfjilnmnbeokaaGreat.D6 Go.Proofs.YtkfjilnmnbeokaaGreat.D8 Go.Proofs.YtkfjilnmnbeokaaGreat.M7 Go.Proofs.YtkfjilnmnbeokaaGreat.D2 Go.Proofs.YtkfjilnmnbeokaaGreat.J3 Go.Proofs.YtkfjilnmnbeokaaGreat.J7 Go.Proofs.YtkfjilnmnbeokaaGreat.Q3 Go.Proofs.YtkfjilnmnbeokaaGreat.P8 Go.Proofs.YtkfjilnmnbeokaaGreat.C7 Go.Proofs.YtkfjilnmnbeokaaGreat.Q2
theorem blob_right {d:List Int}{c:Int}(hd:1≤d.length∧d.length≤480)(hc:c=0∨1≤c∧c≤65536):checkP (blobV d c)=0:=by
 unfold checkP;rw [if_neg (by simp [kindOk]),if_neg]
 · have:nextOk c=true:=by
    unfold nextOk isPg;rcases hc with rfl | hc
    · simp
    · simp [hc]
   simp only [itemsE,thenE,if_true];rw [if_pos this]
 · simp [formP,hd.1,hd.2]
def plC(c:Int):List Int:=if c=0 then [] else [c]
theorem kids_blobV(d:List Int)(c:Int):kidsOf (blobV d c)=plC c:=by
 unfold kidsOf kidsK plC blobV;by_cases h:c=0
 · simp [h]
 · simp [h]
theorem chain_next' {s:VaultS}{V:List Int}{k j:Nat}{c:Int}{ns:List Int}(h:ChainAt s V k j c ns):c=0∨1≤c∧c≤65536:=by
 cases k with
 | zero=>exact .inl h.1
 | succ k=>obtain⟨_,_,_,h2,_⟩:=h;exact .inr h2
theorem chain_clo {s:VaultS}{V:List Int}{S P:List Int}(hc:Clo s.get s.pool.count S P):∀ {k j:Nat} {c:Int} {ns:List Int},ChainAt s V k j c ns→ns.Nodup→(∀n∈ns,n ∉ S)→Clo s.get s.pool.count (ns++S) (plC c++P)
 | 0,j,c,ns,h,_,_=>by
   obtain⟨rfl,rfl⟩:=h;exact hc
 | k+1,j,c,ns,h,hn,ho=>by
   obtain⟨c',ns',rfl,h2,h3,h4,h5⟩:=h;obtain⟨n1,n2⟩:=List.nodup_cons.1 hn;have ih:=chain_clo hc h5 n2 fun n hn=>ho n (by simp [hn])
   have e:plC c= [c]:=by unfold plC;rw [if_neg (by omega)]
   rw [e];refine Clo.close (by rw [get_on h4,kids_blobV];exact ih) (fun hm=> ?_) (by omega);rcases List.mem_append.1 hm with hm | hm
   · exact n1 hm
   · exact ho c (by simp) hm
theorem chain_val {s:VaultS}{V:List Int}:∀ {k j:Nat} {c:Int} {ns:List Int} (f:Nat),ChainAt s V k j c ns→j+k=chunks V→k≤f→chainL (lookV s) V.length f (V.take (480*j)) c=(V,0)
 | 0,j,c,ns,f,h,he,_=>by
   have hl:V.length≤480*j:=by unfold chunks at he;omega
   rw [List.take_of_length_le hl];cases f with
   | zero=>rfl
   | succ f=>unfold chainL;rw [if_pos (Nat.le_refl _)]
 | k+1,j,c,ns,0,_,_,hf=>by omega
 | k+1,j,c,ns,f+1,h,he,hf=>by
   obtain⟨c',ns',rfl,h2,h3,h4,h5⟩:=h;have hl:480*j<V.length:=by unfold chunks at he;omega
   have ht:(V.take (480*j)).length=480*j:=by rw [List.length_take];omega
   unfold chainL;rw [if_neg (by rw [ht];omega),look_on (by omega) h4];simp only;rw [if_neg (by simp),if_pos]
   · have e:V.take (480*j)++(blobV (chunk V j) c').data=V.take (480*(j+1)):=by
      show V.take (480*j)++(V.drop (480*j)).take 480=_
      rw [show 480*(j+1)=480*j+480 by omega,List.take_add]
     rw [e];exact chain_val f h5 (by omega) (by omega)
   · refine⟨?_,?_⟩
     · show (chunk V j).length=_
       rw [chunk_len,ht];omega
     · show c'=0↔ _
       rw [ht];cases k with
       | zero=>
         have:=h5.1
         unfold chunks at he;exact⟨fun _=>by omega,fun _=>this⟩
       | succ k=>
         obtain⟨_,_,_,h6,_⟩:=h5;unfold chunks at he;exact⟨fun e=>by omega,fun e=>by omega⟩
theorem chain_right {s:VaultS}{V:List Int}:∀ {k j:Nat} {c:Int} {ns:List Int},ChainAt s V k j c ns→j+k=chunks V→∀n∈ns,∃g,s.on n=some g∧checkP g=0∧g.items= []
 | 0,j,c,ns,h,_,n,hn=>by rw [h.2] at hn;cases hn
 | k+1,j,c,ns,h,he,n,hn=>by
   obtain⟨c',ns',rfl,h2,h3,h4,h5⟩:=h;rcases List.mem_cons.1 hn with rfl | hn
   · refine⟨_,h4,blob_right ?_ (chain_next' h5),rfl⟩
     rw [chunk_len];unfold chunks at he;omega
   · exact chain_right h5 (by omega) n hn
theorem store_open {s s1:VaultS}{c:Int}{K V ns S P:List Int}(h:VInv s)(hc:Clo s.get s.pool.count S P)(ht:Taken s s1 ns)(hs:StoreAt s1 c V ns)(ok:PoolOk s1.pool):
 VInv s1∧Keeps s s1∧∃S1,Clo s1.get s1.pool.count S1 (placeC (storedI K V c)++P)∧Same s s1 P∧valueL (lookV s1) V.length c (if V.length≤32 then V else [])=(V,0)∧(32<V.length→c≠0)∧
  (∀m,m ∉ S→s.pool.count m≠0→m ∉ S1∧s1.pool.count m=s.pool.count m∧s1.on m=s.on m):=by
 have hfr:∀n∈ns,s.pool.there n∧s.pool.count n=0∧s.pool.lasts n=false:=fun n hn=>(free_iff h).1 (ht.free n hn)
 have hk:Keeps s s1:=⟨ht.last,ht.refs,ht.len,fun m hm=>by
  by_cases e:m∈ns
  · rw [(hfr m e).2.2] at hm;cases hm
  · exact(ht.same m e).2⟩
 have hr:∀n∈ns,∃g,s1.on n=some g∧checkP g=0∧g.items= []:=by
  rcases hs with⟨_,_,rfl⟩ | ⟨_,hch⟩
  · intro n hn;cases hn
  · exact chain_right hch (by omega)
 have hv:VInv s1:=by
  refine h.of hk ok (fun m=> ?_) (fun m hon h0=> ?_) (fun m h0=> ?_) fun m g hg=> ?_
  · rw [ht.refs]
    have:=h.cr m
    have:=h.ok.r1
    by_cases e:m∈ns
    · rw [ht.cnt m e];omega
    · rw [(ht.same m e).1];omega
  · by_cases e:m∈ns
    · rw [ht.cnt m e] at h0;omega
    · obtain⟨a1,a2⟩:=ht.same m e
      exact .inr ⟨by rw [← a1];exact h0,by rw [← a2];exact hon⟩
  · by_cases e:m∈ns
    · obtain⟨g,e1,_⟩:=hr m e
      rw [e1];simp
    · obtain⟨a1,a2⟩:=ht.same m e
      obtain⟨g,e1⟩:=h.on m (by rw [← a1];exact h0);rw [a2,e1];simp
  · by_cases e:m∈ns
    · obtain⟨g',e1,e2,e3⟩:=hr m e
      rw [e1] at hg;cases hg;exact .inr ⟨e2,fun x hx=>by rw [e3] at hx;cases hx⟩
    · left
      rw [← (ht.same m e).2];exact hg
 have hnS:∀n∈ns,n ∉ S:=fun n hn e=>posC hc n e (hfr n hn).2.1
 have hc1:Clo s1.get s1.pool.count S P:=hc.same (fun m hm=>get_same (ht.same m fun e=>hnS m e hm).2) fun m hm=>by rw [(ht.same m fun e=>hnS m e hm).1];exact Int.le_refl _
 have hsame:Same s s1 P:=fun m hm=>by
  have hin:=hc.rch hm;obtain⟨a1,a2⟩:=ht.same m fun e=>hnS m e hin
  exact⟨posC hc m hin,by rw [a1];exact posC hc m hin,a2⟩
 have hel:∀m,m ∉ S→s.pool.count m≠0→m ∉ ns++S∧s1.pool.count m=s.pool.count m∧s1.on m=s.on m:=fun m hm h0=>by
  have e:m ∉ ns:=fun e=>h0 (hfr m e).2.1
  exact⟨fun hx=>(List.mem_append.1 hx).elim e hm,ht.same m e⟩
 refine⟨hv,hk,ns++S,?_,hsame,?_,?_,hel⟩
 · rcases hs with⟨_,rfl,rfl⟩ | ⟨h1,hch⟩
   · exact hc1
   · have:=chain_clo hc1 hch (ht.desc.imp fun h e=>by omega) hnS
     exact this
 · rcases hs with⟨h1,rfl,rfl⟩ | ⟨h1,hch⟩
   · rw [if_pos h1]
     unfold valueL;rw [if_neg (by omega),if_pos (by omega)]
   · rw [if_neg (by omega)]
     unfold valueL;rw [if_neg (by omega),if_neg (by omega),Int.toNat_natCast];have:=chain_val (s:=s1) V.length hch (by omega) (by unfold chunks;omega)
     simpa using this
 · intro h32
   rcases hs with⟨h1,_⟩ | ⟨h1,hch⟩
   · omega
   · obtain⟨k,hk⟩:∃k,chunks V=k+1:=⟨chunks V-1,by unfold chunks;omega⟩
     rw [hk] at hch;obtain⟨_,_,_,h2,_⟩:=hch;omega
end Go.Cop
