/- The pool: Settle, and a new one; the conditions stand as hypotheses. -/
import Derived.Test.YtiegeadmgpanoaaGreatDoorWalkChecksM06
import Derived.Test.YtiegeadmgpanoaaGreatDoorWalkGetsM01
import Derived.Test.YtiegeadmgpanoaaGreatDoorWalkChecksM08
import Derived.Test.YtiegeadmgpanoaaGreatDoorWalkChecksM07
import Derived.Test.YtiegeadmgpanoaaGreatDoorWalkChecksM05
import Derived.Deep.OwnRows
import Derived.Test.YtiegeadmgpanoaaGreatDoorWalkChecksM03
import Derived.Laws.Rows
import Derived.Laws.ResultCell
import Derived.Test.YtiegeadmgpanoaaGreatDoorWalkChecksM09
import Derived.Test.YtiegeadmgpanoaaGreatDoorWalkChecksM10
import Derived.BigQuiet
import Derived.Test.YtiegeadmgpanoaaGreatDoorWalkChecksM13
import Derived.Test.YtiegeadmgpanoaaGreatDoorWalkChecksM11
import Derived.Test.YtiegeadmgpanoaaGreatDoorWalkChecksM12
import Derived.Defers
import Derived.Maps.OwnIn
import Derived.Lib.SmallJoins
set_option maxRecDepth 100000
set_option maxHeartbeats 16000000


















namespace Go.Cop
theorem travA_len {look:Int→Option PageV}{st:List Int}{out:List ItemV}{k:Nat}(h:TravA look st out k):st.length≤k:=by
 induction h with
 | nil=>exact Nat.le_refl _
 | leaf n st g out k _ _ _ ih=>simp;omega
 | index n st g out k _ _ _ ih=>rw [List.length_append] at ih;simp;omega
theorem trav_all9 {look:Int→Option PageV}(ok:PgsOk look){lv:Nat}{n:Int}{q:RangeV}{L:List ItemV}(h:TrK look lv n q L):∃c,c≤9 ^ lv∧∀st out m,TravA look st out m→TravA look (n :: st) (L++out) (c+m):=by
 induction h with
 | leaf n q g hl hk _=>exact⟨1,by simp,fun st out m ht=>by rw [Nat.add_comm];exact .leaf n st g out m hl hk ht⟩
 | index lv n q g LL hl hk _ hlen hT ih=>
   have key:∀d,d≤LL.length→∃c,c≤d*9 ^ lv∧∀st out m,TravA look st out m→TravA look (((g.items.drop (LL.length-d)).map (·.child))++st) ((LL.drop (LL.length-d)).flatten++out) (c+m):=by
    intro d;induction d with
    | zero=>exact fun _=>⟨0,by simp,fun st out m ht=>by
      rw [Nat.sub_zero,List.drop_length,hlen,List.drop_length]
      simpa using ht⟩
    | succ d ihd=>
      intro hd;obtain⟨c1,hc1,h1⟩:=ihd (by omega);obtain⟨i,hi⟩:∃i,LL.length-(d+1)=i:=⟨_,rfl⟩;have hi2:LL.length-d=i+1:=by omega
      have hil:i<LL.length:=by omega
      obtain⟨c2,hc2,h2⟩:=ih i hil;rw [hi2] at h1;refine⟨c2+c1,by rw [Nat.succ_mul];omega,fun st out m ht=> ?_⟩;rw [hi,List.drop_eq_getElem_cons hil,List.drop_eq_getElem_cons (by omega:i<g.items.length),List.flatten_cons,List.map_cons,List.cons_append,List.append_assoc,Nat.add_assoc, ← itemAt_get (by omega:i<g.items.length)];exact h2 _ _ _ (h1 st out m ht)
   obtain⟨c,hc,h1⟩:=key LL.length (Nat.le_refl _);refine⟨c+1,pow9_step (a:=LL.length) (by have:=(fit_of_check (ok.chk n g hl)).n;omega) hc,fun st out m ht=> ?_⟩;have h2:=h1 st out m ht;rw [Nat.sub_self,List.drop_zero,List.drop_zero] at h2;rw [show c+1+m=c+m+1 by omega];exact .index n st g _ _ hl hk h2
end Go.Cop



namespace Go.Cop
theorem chain_len {s:VaultS}{V:List Int}:∀ {k j:Nat} {c:Int} {ns:List Int},ChainAt s V k j c ns→ns.length=k:=by
 intro k;induction k with
 | zero=>intro j c ns h;rw [h.2];rfl
 | succ k ih=>
   intro j c ns h;obtain⟨c',ns',rfl,_,_,_,h5⟩:=h;simp [ih h5]
end Go.Cop







