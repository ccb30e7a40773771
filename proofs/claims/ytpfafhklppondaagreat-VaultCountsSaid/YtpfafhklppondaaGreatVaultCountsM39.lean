/- The vault's calls where places lead to pages: what they answer, and that all holds behind them; the conditions stand as hypotheses. -/
import Derived.Test.YtpfafhklppondaaGreatVaultCountsM38
import Derived.Test.YtpfafhklppondaaGreatVaultCountsM31
import Derived.Test.YtpfafhklppondaaGreatVaultCountsM29
import Derived.Test.YtpfafhklppondaaGreatVaultCountsM25
import Derived.Test.YtpfafhklppondaaGreatVaultCountsM17
import Derived.Test.YtpfafhklppondaaGreatVaultCountsM12
import Derived.Test.YtpfafhklppondaaGreatVaultCountsM34
import Derived.Test.YtpfafhklppondaaGreatVaultCountsM01
import Derived.Deep.CutRange
set_option maxRecDepth 100000
set_option maxHeartbeats 16000000
namespace Go.Proofs.YtpfafhklppondaaGreat.Wy
open ChangeShapes WideShapes ChangeAt RowKit Sl Cop M2 P3 X3 G4 Q2 X2 J4 L4 D5 E5 P4 G5 Z7 E7 N9 X6 W7 E4 U7 T7 Y7 E9 G9 X4 W5 F7 Q9 Vy
theorem get_of {s:VaultS}{n:Int}{g:PageV}(h:s.on n=some g):s.get n=g:=by
 unfold VaultS.get;rw [h];rfl
section
variable(v:Nat)(s:VaultS)(X:Int→Int)(ls:List NumV)(k:Nat)
theorem pl_make(h:PInv s X ls (k+1))(g:PageV)(hg:Shape s.pool.counts.length g)(h0:checkP g=0)(hp:Hp)(pv:Value)(hpg:PageIn hp pv g)(hu:∀x∈g.items,U8 x.key)(F:Pr)(w:World)(hF:Sat ((VaultA v s).star ((Pr.own hp).star F)) w):
 Calls Tryz.prog 33 #[.pointer (some ⟨v,0,none⟩),pv] w fun e w'=>Stays w w'∧
  ((s.pool.tally 1=0∧e= .returned (.tuple #[.int .i64 0,.int .i64 12])∧Sat ((VaultA v s).star ((Pr.own hp).star F)) w')∨
   ∃n s',e= .returned (.tuple #[.int .i64 n,.int .i64 0])∧s.pool.there n∧(∀X':Int→Int,(∀m,X' m+(((kidsOf g).count m:Nat):Int)=X m+if m=n then 1 else 0)→(∀m,0≤X' m∧X' m≤1000)→PInv s' X' ls k)∧Sat ((VaultA v s').star ((Pr.own hp).star F)) w'):=by
 have okp:=(vault_ok hF).1;obtain⟨hm1,hm2⟩:=h.hm;refine(vmake_any v s hp pv g hpg hu (by omega) (by omega) F w hF).mono ?_;rintro e w' ⟨st,(⟨h1,_⟩ | ⟨_,z,hz,he,hs⟩)⟩
 · exact absurd h0 h1
 · cases z with
   | none=>exact⟨st,.inl ⟨(tally_free okp).2 hz,he,by rw [if_neg (by decide)] at hs;exact hs⟩⟩
   | some n=>
     refine⟨st,.inr ⟨n,_,he,there_of_state (by have:=hz.1;omega),fun X' hX hx=> ?_,by rw [if_pos (show mkE (some n)=0 from rfl)] at hs;exact hs⟩⟩;exact h.make okp hz.1 hg (fit_of_check h0) hX hx _
theorem pl_keep(h:PInv s X ls (k+1))(n:Int)(hn:s.pool.count n≠0)(hx:X n<1000)(F:Pr)(w:World)(hF:Sat ((VaultA v s).star F) w):
 Calls Tryz.prog 36 #[.pointer (some ⟨v,0,none⟩),.int .i64 n] w fun e w'=>Stays w w'∧e= .returned (.int .i64 0)∧∃s',PInv s' (fun m=>X m+if m=n then 1 else 0) ls k∧Sat ((VaultA v s').star F) w':=by
 have okp:=(vault_ok hF).1;obtain⟨hm1,hm2⟩:=h.hm;have e0:=h.inc hn;refine(vkeep_any v s n (by have:=h.cnt n;omega) (by omega) (by omega) F w hF).mono ?_;rintro e w' ⟨st,he,hs⟩;rw [e0] at he;rw [if_pos e0] at hs;exact⟨st,he,_,h.keep okp hn hx _,hs⟩
theorem pl_drop(h:PInv s X ls (k+1))(n:Int)(hn:X n≠0)(F:Pr)(w:World)(hF:Sat ((VaultA v s).star F) w):
 Calls Tryz.prog 41 #[.pointer (some ⟨v,0,none⟩),.int .i64 n] w fun e w'=>Stays w w'∧e= .returned (.int .i64 0)∧∃s',PInv s' (fun m=>X m-if m=n then 1 else 0) ls k∧Sat ((VaultA v s').star F) w':=by
 have okp:=(vault_ok hF).1;obtain⟨hm1,hm2⟩:=h.hm;refine(vdrop_any v s n h.bare (fun n g hg=>by have:=(h.fit n g hg).n;omega) (by omega) (by omega) F w hF).mono ?_;rintro e w' ⟨st,er,t,W,he,hd,di,far,hs⟩;obtain⟨rfl,hi⟩:=h.drop okp hn hd di far ⟨s.pool.mark,W⟩;rw [if_pos rfl] at hs;exact⟨st,he,_,hi,hs⟩
theorem pl_take(h:PInv s X ls (k+1))(n:Int)(hn:X n≠0)(hx:∀m,X m≤990)(F:Pr)(w:World)(hF:Sat ((VaultA v s).star F) w):
 Calls Tryz.prog 78 #[.pointer (some ⟨v,0,none⟩),.int .i64 n] w fun e w'=>Stays w w'∧∃(t:ToldX) (s':VaultS),e= .returned (.tuple #[t.pv,.int .i64 0])∧t.g=s.get n∧PInv s' (fun m=>X m-(if m=n then 1 else 0)+(((kidsOf (s.get n)).count m:Nat):Int)) ls k∧
  (∀m,s.pool.state m=1→s'.pool.state m=1)∧s'.pool.counts.length=s.pool.counts.length∧Sat ((PgOwn t).star ((VaultA v s').star F)) w':=by
 have okp:=(vault_ok hF).1;obtain⟨hm1,hm2⟩:=h.hm;have hc:=h.root hn;obtain⟨e0,hi,hf,hl⟩:=h.take okp hn hx ⟨s.pool.mark,(leaveR s n).2.2⟩;refine(vtake_any v s n h.fit (fun _=>⟨_,h.on okp hc⟩) h.cr (by omega) (by omega) F w hF).mono ?_;rintro e w' ⟨st,(⟨h1,_⟩ | ⟨_,h1,_⟩ | ⟨_,_,_,t,he,hg,hs⟩)⟩
 · exact absurd h1 hc
 · exact absurd e0 h1
 · exact⟨st,t,_,he,(get_of hg).symm,hi,hf,hl,hs⟩
theorem pl_shadow(h:PInv s X ls (k+1))(n:Int)(hn:X n≠0)(hx:∀m,X m≤990)(F:Pr)(w:World)(hF:Sat ((VaultA v s).star F) w):
 Calls Tryz.prog 37 #[.pointer (some ⟨v,0,none⟩),.int .i64 n] w fun e w'=>Stays w w'∧
  ((s.pool.tally 1=0∧e= .returned (.tuple #[.int .i64 0,.int .i64 12])∧Sat ((VaultA v s).star F) w')∨
   ∃m s',e= .returned (.tuple #[.int .i64 m,.int .i64 0])∧PInv s' (fun x=>X x-(if x=n then 1 else 0)+if x=m then 1 else 0) ls k∧s'.pool.state m=3∧s'.pool.count m=1∧s'.on m=some (s.get n)∧(s'.pool.count n≠0→s'.on n=some (s.get n))∧Sat ((VaultA v s').star F) w'):=by
 have okp:=(vault_ok hF).1;obtain⟨hm1,hm2⟩:=h.hm;have hc:=h.root hn;refine(vshadow_any v s n h.fit (fun _=>⟨_,h.on okp hc⟩) h.cr (by omega) (by omega) F w hF).mono ?_;rintro e w' ⟨st,(⟨h1,_⟩ | ⟨_,ho,he,hs⟩ | ⟨_,_,g,z,hg,hz,_,he,hs⟩)⟩
 · exact absurd h1 hc
 · obtain⟨o1,o2⟩:=own_state ho
   refine⟨st,.inr ⟨n,s,he,?_,o1,o2,h.on okp hc,fun _=>h.on okp hc,hs⟩⟩;have h2:=h.le (Nat.le_succ k)
   have e1:(fun x=>X x-(if x=n then 1 else 0)+if x=n then 1 else 0)=X:=by
    funext x
    split<;>omega
   rw [e1];exact h2
 · obtain rfl:=get_of hg
   cases z with
   | none=>exact⟨st,.inl ⟨(tally_free okp).2 hz,he,by rw [if_neg (show ¬shE s n (s.get n) none=0 from fun e=>(by cases e))] at hs;exact hs⟩⟩
   | some m=>
     obtain⟨e0,hi,f1,f2,f3,f4⟩:=h.shadow okp hn hz.1 hx ⟨s.pool.mark,shW s n (s.get n) (some m)⟩;have e1:shE s n (s.get n) (some m)=0:=e0;rw [if_pos e1] at hs;rw [e1,if_pos rfl] at he;exact⟨st,.inr ⟨m,_,he,hi,f1,f2,f3,f4,hs⟩⟩
theorem pl_settle(h:PInv s X ls (k+1))(F:Pr)(w:World)(hF:Sat ((VaultA v s).star F) w):
 Calls Tryz.prog 43 #[.pointer (some ⟨v,0,none⟩)] w fun e w'=>e= .returned (.tuple #[])∧Stays w w'∧PInv s.settled X (numsOf s.settled (pagesIn s.settled.pool 4)) k∧Sat ((VaultA v s.settled).star F) w':=by
 refine(vsettle_any v s F w hF).mono ?_;rintro e w' ⟨he,hs,st⟩;exact⟨he,st,h.settle (vault_ok hF).1,hs⟩
theorem pl_read(h:PInv s X ls k)(n:Int)(F:Pr)(w:World)(hF:Sat ((VaultA v s).star F) w):
 Calls Tryz.prog 38 #[.pointer (some ⟨v,0,none⟩),.int .i64 n] w fun e w'=>Stays w w'∧∃pv h',e= .returned (.tuple #[pv,.int .i64 (if s.pool.count n=0 then 15 else 0)])∧PageIn h' pv (if s.pool.count n=0 then zeroP else s.get n)∧Sat ((Pr.own h').star ((VaultA v s).star F)) w':=by
 have okp:=(vault_ok hF).1;obtain⟨rs,gs,b⟩:=h.bh;refine(vread_any v s _ (b.tw.looks okp) n F w hF).mono ?_;rintro e w' ⟨st,pv,he,h',hp,hs⟩;unfold lookT at he hp;by_cases hc:s.pool.count n=0
 · rw [if_pos hc] at he hp ⊢
   rw [if_pos hc];exact⟨st,pv,h',he,hp,hs⟩
 · rw [if_neg hc,h.on okp hc] at he hp
   rw [if_neg hc,if_neg hc];exact⟨st,pv,h',he,hp,hs⟩
end
def PgStep(v f:Nat)(n:Int)(s:VaultS)(Q:Int→PageV→VaultS→Prop):Prop:= ∀(F:Pr) (w:World),Sat ((VaultA v s).star F) w→
 Calls Tryz.prog f #[.pointer (some ⟨v,0,none⟩),.int .i64 n] w fun e w'=>Stays w w'∧∃(tai tad:Option Addr) (tci tcd:Nat) (er:Int) (g:PageV) (h':Hp) (s':VaultS),e= .returned (.tuple #[pageV g.kind g.level (.slice tai g.items.length tci) (.slice tad g.data.length tcd) g.next,.int .i64 er])∧Q er g s'∧
  PageIn h' (pageV g.kind g.level (.slice tai g.items.length tci) (.slice tad g.data.length tcd) g.next) g∧Sat ((Pr.own h').star ((VaultA v s').star F)) w'
theorem page_shape {h:Hp}{pv:Value}{g:PageV}(hp:PageIn h pv g):∃(tai tad:Option Addr) (tci tcd:Nat),pv=pageV g.kind g.level (.slice tai g.items.length tci) (.slice tad g.data.length tcd) g.next:=by
 obtain⟨vi,vd,rfl,hi,hb⟩:=hp;obtain⟨a1,d1,rfl,_,_⟩:=items_rd hi;obtain⟨a2,d2,rfl⟩:=bytes_shape hb;exact⟨a1,a2,d1,d2,rfl⟩
theorem read_step {v:Nat}{s:VaultS}{X:Int→Int}{ls:List NumV}{k:Nat}(h:PInv s X ls k)(n:Int):PgStep v 38 n s fun er g s'=>s'=s∧er=(if s.pool.count n=0 then 15 else 0)∧g=if s.pool.count n=0 then zeroP else s.get n:=fun F w hF=>by
 refine(pl_read v s X ls k h n F w hF).mono ?_;rintro e w' ⟨st,pv,h',rfl,hp,hs⟩;obtain⟨a,b,c,d,rfl⟩:=page_shape hp;exact⟨st,a,b,c,d,_,_,h',s,rfl,⟨rfl,rfl,rfl⟩,hp,hs⟩
theorem take_step {v:Nat}{s:VaultS}{X:Int→Int}{ls:List NumV}{k:Nat}(h:PInv s X ls (k+1))(n:Int)(hn:X n≠0)(hx:∀m,X m≤990):PgStep v 78 n s fun er g s'=>er=0∧g=s.get n∧PInv s' (fun m=>X m-(if m=n then 1 else 0)+(((kidsOf (s.get n)).count m:Nat):Int)) ls k∧
 (∀m,s.pool.state m=1→s'.pool.state m=1)∧s'.pool.counts.length=s.pool.counts.length:=fun F w hF=>by
 refine(pl_take v s X ls k h n hn hx F w hF).mono ?_;rintro e w' ⟨st,t,s',rfl,hg,hi,hf,hl,hs⟩;obtain⟨h',hp,hs2⟩:=toArena (Q:=fun x=>PageIn x t.pv t.g) hs (fun x hx=>pgOwn_in hx);obtain⟨a,b,c,d,e1⟩:=page_shape hp;rw [e1];exact⟨st,a,b,c,d,0,t.g,h',s',rfl,⟨rfl,hg,hi,hf,hl⟩,e1 ▸ hp,hs2⟩
end Go.Proofs.YtpfafhklppondaaGreat.Wy
namespace Go.Proofs.YtpfafhklppondaaGreat.Yy
open ChangeShapes WideShapes ChangeAt RowKit Sl Cop M2 P3 X3 G4 Q2 X2 J4 L4 P4 G5 F7 Q9 Sy Vy Wy
theorem run_convert_far {P:Program}(w:World)(t e:TypeId)(C:Array Value)(n c:Nat)(o:Obj)(ht:P.underlying t=some (.slice e))(he:P.underlying e=some (.int .u8)):
 (convert t t (.slice (some ⟨w.heap.size,0,none⟩) n c)).run P ((w.alloc (.cells C e)).alloc o)= .ok (.slice (some ⟨w.heap.size,0,none⟩) n c) ((w.alloc (.cells C e (C.size,C.size+1))).alloc o):=by
 have hsh:((w.alloc (.cells C e)).alloc o).shape? w.heap.size=some (e,C.size):=by
  have:((w.alloc (.cells C e)).alloc o).heap[w.heap.size]? =some (.cells C e):=by
   show ((w.heap.push (.cells C e)).push o)[w.heap.size]? =_
   rw [Array.getElem?_push_lt (by simp)];simp
  unfold World.shape?;rw [this]
 have hfr:∀(k:Nat),((w.alloc (.cells C e)).alloc o).freeze ⟨w.heap.size,k,none⟩ 1=(w.alloc (.cells C e (k,k+1))).alloc o:=fun k=>by
  have hm:∀(a:Array Obj) (x y:Obj) (f:Obj→Obj),((a.push x).push y).modify a.size f=(a.push (f x)).push y:=by
   intro a x y f;apply Array.ext
   · simp
   · intro i h1 h2
     simp only [Array.getElem_modify,Array.getElem_push];by_cases h:a.size=i
     · subst h
       simp
     · rcases Nat.lt_or_ge i a.size with hi | hi
       · have h3:i<a.size+1:=by omega
         simp [h,hi,h3]
       · have h3:¬i<a.size+1:=by omega
         simp [h,h3]
  unfold World.freeze;rw [if_neg (by decide)];show ({ (w.alloc (.cells C e)).alloc o with heap:=((w.heap.push (.cells C e)).push o).modify w.heap.size _ }:World)=_
  rw [hm];rfl
 simp [convert,run_underlying ht,run_underlying he,markStringish,hsh]
 exact hfr _
theorem ints_cell {br cr:Nat}{roots:List Int}{F:Pr}{w:World}{j:Nat}(h:Sat ((IntsRow (.slice (some ⟨br,0,none⟩) roots.length cr) roots).star F) w)(hj:j<roots.length):w.cell? ⟨br,j,none⟩=some (.int .i64 roots[j])∧w.frozen? ⟨br,j,none⟩=false:=by
 obtain⟨_,_,e,_,hc⟩:=Row.read h;cases e;obtain⟨b,e,hd⟩:=hc (by omega);cases e;refine⟨?_,(hd j (by omega)).2⟩;rw [(hd j (by omega)).1,List.getElem?_map,List.getElem?_eq_getElem hj];rfl
theorem read_root {v:Nat}{s:VaultS}{X:Int→Int}{ls:List NumV}{k:Nat}(h:PInv s X ls k){n:Int}(hn:s.pool.count n≠0):PgStep v 38 n s fun er g s'=>s'=s∧er=0∧g=s.get n:=fun F w hF=>by
 have:=read_step (v:=v) h n F w hF
 simp only [if_neg hn] at this;exact this
theorem _root_.Go.Sl.OwnL.ints0 {L:List Pr}{w:World}(h:OwnL L w):OwnL (IntsRow (.slice none 0 0) [] :: L) w:=⟨by
 show Sat ((IntsRow (.slice none 0 0) []).star (starL L)) w
 rw [show IntsRow (.slice none 0 0) []=Pr.emp from Row.nil _ _,Pr.emp_star]
 exact h.sat⟩
def restF(roots:List Int)(a b:Nat):Nat→List Int
 | 0=> []
 | n+1=>if n≠a∧n≠b then restF roots a b n++(roots[n]?).toList else restF roots a b n
theorem restF_len(roots:List Int)(a b:Nat):∀n,(restF roots a b n).length≤n
 | 0=>Nat.le_refl _
 | n+1=>by
   have:=restF_len roots a b n
   unfold restF;split
   · rw [List.length_append]
     have:(roots[n]?).toList.length≤1:=by cases roots[n]? <;>simp
     omega
   · omega
theorem restF_step {roots:List Int}{a b n:Nat}(h1:n≠a)(h2:n≠b)(hn:n<roots.length):restF roots a b (n+1)=restF roots a b n++ [roots[n]]:=by
 show (if n≠a∧n≠b then _ else _)=_
 rw [if_pos ⟨h1,h2⟩,List.getElem?_eq_getElem hn];rfl
theorem restF_skip {roots:List Int}{a b n:Nat}(h:n=a∨n=b):restF roots a b (n+1)=restF roots a b n:=by
 show (if n≠a∧n≠b then _ else _)=_
 rw [if_neg (by omega)]
theorem ite_step(a n:Nat)(p:Prop) [Decidable p]:(if a<n+1∧p then 1 else 0)=(if a<n∧p then 1 else 0)+(if n=a∧p then 1 else 0):=by
 by_cases h:p
 · by_cases h1:a<n
   · rw [if_pos ⟨by omega,h⟩,if_pos ⟨h1,h⟩,if_neg (by omega)]
   · by_cases h2:n=a
     · rw [if_pos ⟨by omega,h⟩,if_neg (by omega),if_pos ⟨h2,h⟩]
     · rw [if_neg (by omega),if_neg (by omega),if_neg (by omega)]
 · rw [if_neg (fun x=>h x.2),if_neg (fun x=>h x.2),if_neg (fun x=>h x.2)]
theorem count_one(m x:Int): [x].count m=if m=x then 1 else 0:=by
 rw [List.count_singleton];by_cases h:m=x
 · rw [if_pos h,if_pos (by simp [h])]
 · rw [if_neg h,if_neg (by simpa using fun e:x=m=>h e.symm)]
theorem restF_count(roots:List Int){a b:Nat}(hab:a≠b)(ha:a<roots.length)(hb:b<roots.length)(m:Int):∀n,n≤roots.length→
 (restF roots a b n).count m+(if a<n∧m=roots[a] then 1 else 0)+(if b<n∧m=roots[b] then 1 else 0)=(roots.take n).count m
 | 0,_=>by simp [restF]
 | n+1,hn=>by
   have ih:=restF_count roots hab ha hb m n (by omega);rw [List.take_add_one,List.getElem?_eq_getElem (by omega:n<roots.length),List.count_append];show _=_+List.count m [roots[n]]
   rw [count_one,ite_step a n,ite_step b n];by_cases h1:n=a
   · subst h1
     rw [restF_skip (.inl rfl),if_neg (show ¬(n=b∧m=roots[b]) from fun h=>hab h.1)];simp only [true_and];omega
   · rw [if_neg (show ¬(n=a∧m=roots[a]) from fun h=>h1 h.1)]
     by_cases h2:n=b
     · subst h2
       rw [restF_skip (.inr rfl)];simp only [true_and];omega
     · rw [if_neg (show ¬(n=b∧m=roots[b]) from fun h=>h2 h.1),restF_step h1 h2 (by omega),List.count_append,count_one]
       omega
theorem restF_all(roots:List Int){a b:Nat}(hab:a≠b)(ha:a<roots.length)(hb:b<roots.length)(m:Int):
 (restF roots a b roots.length).count m+(if m=roots[a] then 1 else 0)+(if m=roots[b] then 1 else 0)=roots.count m:=by
 have h:=restF_count roots hab ha hb m roots.length (Nat.le_refl _);rw [List.take_length] at h;simp only [ha,hb,true_and] at h;exact h
end Go.Proofs.YtpfafhklppondaaGreat.Yy
namespace Go.Proofs.YtpfafhklppondaaGreat.Zy
open ChangeShapes WideShapes ChangeAt RowKit Sl Cop M2 P3 X3 G4 Q2 X2 J4 L4 P4 Q6 X6 G5 F7 Sy K4 E5 Vy Wy
theorem count_set_int {l:List Int}{i:Nat}(h:i<l.length)(a m:Int):(((l.set i a).count m:Nat):Int)=((l.count m:Nat):Int)-(if m=l[i] then 1 else 0)+if m=a then 1 else 0:=by
 have h1:=List.count_set (l:=l) (a:=a) (b:=m) h;have h2:m=l[i]→0<l.count m:=fun e=>List.count_pos_iff.2 (e ▸ List.getElem_mem h)
 rw [h1];by_cases e1:m=l[i]
 · have:=h2 e1
   rw [if_pos e1,if_pos (by simp [e1])];by_cases e2:m=a
   · rw [if_pos e2,if_pos (by simp [e2])];omega
   · rw [if_neg e2,if_neg (by simpa using fun e=>e2 e.symm)];omega
 · rw [if_neg e1,if_neg (by simpa using fun e=>e1 e.symm)]
   by_cases e2:m=a
   · rw [if_pos e2,if_pos (by simp [e2])];omega
   · rw [if_neg e2,if_neg (by simpa using fun e=>e2 e.symm)];omega
theorem again_any(x v k:Nat)(rv lv:Value)(s:VaultS)(roots:List Int)(ls:List NumV)(ok:PlOK s roots ls (k+2))(i:Int)(hi:i= -1∨∃j:Nat,j<roots.length∧i=j)(F:Pr)(w:World)(hF:OwnL (plL x v rv lv s roots ls [F]) w):
 Calls Tryz.prog 42 #[.pointer (some ⟨x,0,none⟩),.int .i64 i] w fun e w'=>e= .returned (.bool true)∧Stays w w'∧PlDone x v k F w':=by
 obtain⟨ar,cr,rfl⟩:=Row.shape (hF.pull1 (A1:=IntsRow rv roots));rcases hi with rfl | ⟨j,hj,rfl⟩
 · have HE:=hQ (show PlDone x v k F w from⟨_,lv,s,roots,ls,ok.le (by omega),hF⟩)
   clear hF ok;go_enter Tryz.func42,Tryz.ntmps42
   go_wp2;go_ret;exact⟨rfl,Stays.refl w,HE.out⟩
 · have hj2:(j:Int)≤120:=by have:=ok.rl;omega
   have okp:=(vault_ok (hF.pull1 (A1:=VaultA v s))).1;obtain⟨xx,okx,hs2⟩:=vault_open (v:=v) (s:=s) hF;have c1:=hs2.facts;simp only [CellsAt,Nat.reduceAdd,and_true] at c1;have T:=hQ (tally_all xx.p s.pool 1 _ _ (hs2.pull1 (A1:=PoolA xx.p s.pool)));clear hs2 okx;by_cases ht:s.pool.tally 1=0
   · have HE:=hQ (show PlDone x v k F w from⟨_,lv,s,roots,ls,ok.le (by omega),hF⟩)
     rw [ht] at T;clear hF ok okp;go_enter Tryz.func42,Tryz.ntmps42
     go_wp2_with fail
     refine T.out.mono ?_;rintro e w1 ⟨rfl,rfl⟩;go_wp2;go_ret;exact⟨rfl,Stays.refl w,HE.out⟩
   · have htb:(s.pool.tally 1 == 0)=false:=by rw [beq_eq_false_iff_ne];exact ht
     have HTF:=hQ (show ¬∀m,s.pool.state m≠1 from fun h=>ht ((tally_free okp).2 h));have HX:∀m,((roots.count m:Nat):Int)≤120:=fun m=>by have:=List.count_le_length (a:=m) (l:=roots);have:=ok.rl;omega
     have HR0:((roots.count roots[j]:Nat):Int)≠0:=by have:=List.count_pos_iff.2 (List.getElem_mem hj);omega
     have TS:=hQ (take_step (v:=v) ok.inv roots[j] HR0 (fun m=>by have:=HX m;omega));have HSH:=hQ (ok.inv.sh roots[j] (ok.inv.root HR0));have HRC:=hQ (And.intro HX (And.intro ok.rl hj));have HN:=hQ (show s.pool.counts.length≤65536 from okp.n2);have HST:=hQ (Stays.refl w);have HS:=hQ hF
     have HB:∃b,ar=some ⟨b,0,none⟩:=by
      obtain⟨_,_,e,_,hc⟩:=Row.read (hF.pull1 (A1:=IntsRow (.slice ar roots.length cr) roots));cases e;obtain⟨b,e,_⟩:=hc (by omega);exact⟨b,e⟩
     obtain⟨br,rfl⟩:=HB
     have HCELL:=hQ (show w.cell? ⟨br,j,none⟩=some (.int .i64 roots[j]) from by
      obtain⟨_,_,e,_,hc⟩:=Row.read (hF.pull1 (A1:=IntsRow (.slice (some ⟨br,0,none⟩) roots.length cr) roots))
      cases e
      obtain⟨b,e,hd⟩:=hc (by omega)
      cases e
      rw [(hd j (by omega)).1,List.getElem?_map,List.getElem?_eq_getElem hj]
      rfl)
     generalize s.pool.tally 1=tl at*;clear hF ok okp HX HR0;go_enter Tryz.func42,Tryz.ntmps42
     go_wp2_with fail
     refine T.out.mono ?_;rintro e w1 ⟨rfl,rfl⟩;clear T;go_wp2_with fail
     go_cut [5,6] from 21 to 35 (fun t1 t2 wx=> ∃(J:Nat) (er:Int) (g:PageV) (h':Hp) (s':VaultS) (tai tad:Option Addr) (tci tcd:Nat),t1= .pointer (some ⟨J,0,none⟩)∧t2= .int .i64 er∧(er=0∧g=s.get roots[j]∧PInv s' (fun m=>((roots.count m:Nat):Int)-(if m=roots[j] then 1 else 0)+(((kidsOf (s.get roots[j])).count m:Nat):Int)) ls (k+1)∧(∀m,s.pool.state m=1→s'.pool.state m=1)∧s'.pool.counts.length=s.pool.counts.length)∧PageIn h' (pageV g.kind g.level (.slice tai g.items.length tci) (.slice tad g.data.length tcd) g.next) g∧Stays w wx∧
      OwnL [Pr.pts J (pageC g.kind g.level (.slice tai g.items.length tci) (.slice tad g.data.length tcd) g.next),Pr.own h',VaultA v s',Pr.pts x (placesC v (.slice (some ⟨br,0,none⟩) roots.length cr) lv),IntsRow (.slice (some ⟨br,0,none⟩) roots.length cr) roots,NumsRow lv ls,F] wx)
     case first=>
      have c1:=HS.out.facts;simp only [CellsAt,Nat.reduceAdd,and_true] at c1;have k1:=HCELL.out;have z1:=World.block_lt_of_cell? _ _ k1
      refine wp_region_forked (sz:=56) (by kernel_rfl) [0,1,2,3,4,5,6,7,8,9,10] [(15,[],[0,1,2,3,4,5,6,7,8,9,10],[(11,[12,13,14],[0,1,2,4,5,6,7,8,9]),(16,[17],[14])]),(11,[12,13,14],[0,1,2,4,5,6,7,8,9],[(15,[],[0,1,2,4,5,6,7,8,9,12,13,14]),(16,[17],[14])])] rfl (by kernel_rfl) (by kernel_rfl) (by kernel_rfl) ?_;refine wpQ_all _ rfl rfl ?_;simp only [pick,pQ];iterate 11 (go_big_quiet_step (fail))
      refine wpQuiet_nil ?_;intro sx hsx;rcases List.mem_cons.1 hsx with rfl | hsx
      · have hs8:=HS.out.drew.alloc (pageC 0 0 (.slice none 0 0) (.slice none 0 0) 0)
        have V:=hQ (TS.out _ _ (hs8.pull1 (A1:=VaultA v s)));have HSTA:=hQ (HST.out.drew.alloc (pageC 0 0 (.slice none 0 0) (.slice none 0 0) 0));clear hs8;refine wpRest_act rfl ?_;go_wp2;refine onN_mk ?_;refine wpQ_nil ⟨?_,?_⟩
        · exact cQ
        refine wpRest_act rfl ?_;go_wp2_with fail
        refine V.out.mono ?_;rintro e w5 ⟨st5,tai,tad,tci,tcd,er,g,h',s',rfl,hq,hp,hs9⟩;rw [show w.drew.heap.size=w.heap.size by simp] at hs9;dsimp only [pageV];have hs10:=OwnL.of2 hs9;clear c1;have c1:=hs10.facts;simp only [CellsAt,Nat.reduceAdd,and_true] at c1
        have hs11:=(((((hs10.set w.heap.size 0 (.int .i64 g.kind)).set w.heap.size 1 (.int .i64 g.level)).set w.heap.size 2 (.slice tai g.items.length tci)).set w.heap.size 3 (.slice tad g.data.length tcd)).set w.heap.size 4 (.int .i64 g.next))
        have HEND:=hQ (And.intro hq (And.intro hp (And.intro ((((((HSTA.out.trans st5).setCell ⟨w.heap.size,0,none⟩ (.int .i64 g.kind)).setCell ⟨w.heap.size,1,none⟩ (.int .i64 g.level)).setCell ⟨w.heap.size,2,none⟩ (.slice tai g.items.length tci)).setCell ⟨w.heap.size,3,none⟩ (.slice tad g.data.length tcd)).setCell ⟨w.heap.size,4,none⟩ (.int .i64 g.next)) hs11)))
        clear hs9 hs10 hs11 hq hp st5 V HSTA;go_wp2;refine onN_mk ?_;refine wpQ_all _ rfl rfl ?_;simp only [pick,pQ];iterate 3 (go_big_quiet_step (fail))
        refine wpQuiet_nil ⟨?_,?_⟩
        · exact cQ
        refine wpRest_act rfl ?_;go_wp2;refine onN_mk ?_;refine wpQ_all _ rfl rfl ?_;simp only [pick,pQ];iterate 1 (go_big_quiet_step (fail))
        refine wpQuiet_nil ⟨?_,?_⟩
        · exact cQ
        refine wpRest_nil ?_;go_wp2;go_meet
        exact⟨_,er,g,h',s',tai,tad,tci,tcd,rfl,rfl,HEND.out.1,HEND.out.2.1,HEND.out.2.2.1,HEND.out.2.2.2.to⟩
      · cases List.mem_singleton.1 hsx
        have V:=hQ (TS.out _ _ (HS.out.drew.pull1 (A1:=VaultA v s)));refine wpRest_act rfl ?_;go_wp2_with fail
        refine V.out.mono ?_;rintro e w5 ⟨st5,tai,tad,tci,tcd,er,g,h',s',rfl,hq,hp,hs9⟩;dsimp only [pageV];have hs10:=OwnL.of2 hs9;clear c1;have c1:=hs10.facts;simp only [CellsAt,Nat.reduceAdd,and_true] at c1;have hs11:=hs10.alloc (pageC g.kind g.level (.slice tai g.items.length tci) (.slice tad g.data.length tcd) g.next)
        have HEND:=hQ (And.intro hq (And.intro hp (And.intro ((HST.out.drew.trans st5).alloc (pageC g.kind g.level (.slice tai g.items.length tci) (.slice tad g.data.length tcd) g.next)) hs11)));clear hs9 hs10 hs11 hq hp st5 V;go_wp2;refine onN_mk ?_;refine wpQ_all _ rfl rfl ?_;simp only [pick,pQ];iterate 3 (go_big_quiet_step (fail))
        refine wpQuiet_nil ⟨?_,?_⟩
        · exact cQ
        refine wpRest_act rfl ?_;go_wp2;refine onN_mk ?_;refine wpQ_nil ⟨?_,?_⟩
        · exact cQ
        refine wpRest_act rfl ?_;go_wp2;refine onN_mk ?_;refine wpQ_all _ rfl rfl ?_;simp only [pick,pQ];iterate 1 (go_big_quiet_step (fail))
        refine wpQuiet_nil ⟨?_,?_⟩
        · exact cQ
        refine wpRest_nil ?_;go_wp2;go_meet
        exact⟨_,er,g,h',s',tai,tad,tci,tcd,rfl,rfl,HEND.out.1,HEND.out.2.1,HEND.out.2.2.1,HEND.out.2.2.2.to⟩
     case rest=>
      obtain⟨J,er,g,h',s',tai,tad,tci,tcd,rfl,rfl,⟨rfl,rfl,hi,hfr,hln⟩,hpg,st1,hs2⟩:=hcut;have okp':=(vault_ok (hs2.pull1 (A1:=VaultA v s'))).1;have hshape:Shape s'.pool.counts.length (s.get roots[j]):=by rw [hln];exact HSH.out
      have M:=hQ (pl_make v s' _ ls k hi (s.get roots[j]) hshape (hshape.check (by rw [hln];exact HN.out)) h' _ hpg hshape.u8 _ wc.drew (hs2.drew.pull2 (A1:=VaultA v s') (A2:=Pr.own h')));have HNT:=hQ (show s'.pool.tally 1≠0 from fun e=>HTF.out fun m hm=>(tally_free okp').1 e m (hfr m hm));have HST1:=hQ st1;clear c1;have c1:=hs2.facts;simp only [CellsAt,Nat.reduceAdd,and_true] at c1
      generalize s.get roots[j]=g at*;clear hi hfr hln hpg st1 hs2 okp' hshape HS HST TS HSH HN HTF HCELL;go_wp2_with fail
      refine wS 56 [0,1,2,3,4] [(5,[6,7,8,9,10],[0,1,2])] ?_;refine wpQ_all _ rfl rfl ?_;simp only [pick,pQ];iterate 5 (go_big_quiet_step (fail))
      refine wpQuiet_nil ?_;refine wpRest_act rfl ?_;go_wp2_with fail
      refine M.out.mono ?_;rintro e w6 ⟨st6,(⟨htl,_⟩ | ⟨n,s'',rfl,_,hInv,hs3⟩)⟩
      · exact absurd htl HNT.out
      · have hs4:=OwnL.of2 hs3
        obtain⟨HX,hrl,hj⟩:=HRC.out
        have INV:=hQ (hInv (fun m=>(((roots.set j n).count m:Nat):Int)) (fun m=>by rw [count_set_int hj];omega) (fun m=>by
         have:=List.count_le_length (a:=m) (l:=roots.set j n)
         rw [List.length_set] at this
         omega))
        have hrow:=hs4.pull1 (A1:=IntsRow (.slice (some ⟨br,0,none⟩) roots.length cr) roots);obtain⟨_,_,e1,_,hc⟩:=Row.read hrow;cases e1;obtain⟨b1,e1,hd⟩:=hc (by omega);cases e1;obtain⟨k1,kf⟩:=hd j (by omega);rw [List.getElem?_map,List.getElem?_eq_getElem hj] at k1;have z1:=World.block_lt_of_cell? _ _ k1;have hset:=Row.set hrow j (by rw [List.length_map];exact hj) (.int .i64 n)
        rw [← List.map_set] at hset;have HSET:=hQ hset;clear c1;have c1:=hs4.facts;simp only [CellsAt,Nat.reduceAdd,and_true] at c1;have HST6:=hQ (HST1.out.drew.trans st6);clear hs3 hs4 hInv hrow hset hc hd st6 HST1 M HNT HX hrl;go_wp2;refine onN_mk ?_;refine wpQ_all _ rfl rfl ?_;simp only [pick,pQ];iterate 5 (go_big_quiet_step (fail))
        refine wpQuiet_nil ⟨?_,?_⟩
        · exact cQ
        refine wpRest_nil ?_;go_wp2;go_ret;obtain⟨HX,hrl,hj⟩:=HRC.out;refine⟨rfl,HST6.out.setCell _ _,⟨.slice (some ⟨br,0,none⟩) roots.length cr,lv,s'',roots.set j n,ls,⟨INV.out,by rw [List.length_set];omega⟩,?_⟩⟩
        have h7:OwnL [IntsRow (.slice (some ⟨br,0,none⟩) roots.length cr) (roots.set j n),VaultA v s'',Pr.own h',Pr.pts J (pageC g.kind g.level (.slice tai g.items.length tci) (.slice tad g.data.length tcd) g.next),Pr.pts x (placesC v (.slice (some ⟨br,0,none⟩) roots.length cr) lv),NumsRow lv ls,F] (w6.setCell ⟨br,j,none⟩ (.int .i64 n)):=by
         refine⟨?_⟩;show Sat ((Row 3 1 (.slice (some ⟨br,0,none⟩) roots.length cr) (roots.set j n).length ((roots.set j n).map (Value.int .i64))).star _) _
         rw [List.length_set];exact HSET.out
        exact h7.to
end Go.Proofs.YtpfafhklppondaaGreat.Zy
