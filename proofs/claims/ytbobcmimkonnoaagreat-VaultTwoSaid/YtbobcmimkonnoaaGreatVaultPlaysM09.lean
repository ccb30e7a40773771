/- A map with integer keys as a function, owned whole: read, written, struck. Plain lemmas over any program. -/
import Derived.Test.YtbobcmimkonnoaaGreatVaultPlaysM01
import Derived.Maps.Own
import Derived.Test.YtbobcmimkonnoaaGreatVaultPlaysM03
import Derived.Test.YtbobcmimkonnoaaGreatVaultPlaysM08
import Derived.Laws.Rows
import Derived.Laws.ResultCell
set_option maxRecDepth 100000
set_option maxHeartbeats 16000000
namespace Go.Sl
open Go.Maps Go.ChangeMaps Go.MapKept Go.WideShapes
open Go.WideElems (Fit rd rg pl rd_key rd_val rg_of)
def heldR(v:Value):Option (DataW Value × List MemPlace):=some (.held v,[])
def MapFn(P:Program)(k:TypeId)(es:Array MapEntry)(f:Int→Option Value):Prop:=
 ∀n v,f n=some v↔(Lit.int .i64 n,DataW.held v)∈(es.toList.map (rg P k heldR)).foldr DataW.insert []
def SmallKeys(f:Int→Option Value):Prop:= ∀n v,f n=some v→1≤n∧n≤65536
def MapA(P:Program)(k:TypeId)(b:Nat)(f:Int→Option Value):Pr:=
 Pr.ex fun x:Array MapEntry × Nat=>(Pr.pure (Fit P k heldR x.1 x.2∧MapFn P k x.1 f∧SmallKeys f)).star (Pr.pts b (.map x.1 x.2))
section
variable {P:Program}{k:TypeId}{b:Nat}{f:Int→Option Value}{F:Pr}{w:World}
theorem mapA_iff:Sat ((MapA P k b f).star F) w↔∃es clock,Fit P k heldR es clock∧MapFn P k es f∧SmallKeys f∧Sat ((Pr.pts b (.map es clock)).star F) w:=by
 unfold MapA
 rw [Sat.ex]
 constructor
 · rintro⟨⟨es,c⟩,h⟩
   rw [Pr.star_assoc] at h
   obtain⟨⟨h1,h2,h3⟩,h4⟩:=Sat.pure.1 h
   exact⟨es,c,h1,h2,h3,h4⟩
 · rintro⟨es,c,h1,h2,h3,h4⟩
   refine⟨(es,c),?_⟩
   rw [Pr.star_assoc]
   exact Sat.pure.2 ⟨⟨h1,h2,h3⟩,h4⟩
theorem key_int(hk:P.underlying k=some (.int .i64)){v:Value}{l:Lit}(h:keyOf P k v=some l):∃n,v= .int .i64 n∧l= .int .i64 n:=by
 simp only [keyOf,hk] at h
 cases v<;>simp [mapKey,hk] at h
 obtain⟨h1,h2⟩:=h
 obtain⟨h3,_⟩:=h1
 subst h3
 exact⟨_,rfl,h2.symm⟩
theorem key_mk(hk:P.underlying k=some (.int .i64)){n:Int}(hn:1≤n∧n≤65536):keyOf P k (.int .i64 n)=some (.int .i64 n):=by
 refine keyOf_int_mk hk ?_
 have h1:IntKind.i64.min= -9223372036854775808:=by decide
 have h2:IntKind.i64.max=9223372036854775807:=by decide
 simp only [Lit.wf,Bool.and_eq_true,decide_eq_true_eq,h1,h2]
 omega
theorem mem_sorted(hk:P.underlying k=some (.int .i64)){es:Array MapEntry}{clock:Nat}(hF:Fit P k heldR es clock){p:Lit × DataW Value}:
 p∈(es.toList.map (rg P k heldR)).foldr DataW.insert []↔∃x n,x∈es.toList∧x.key= .int .i64 n∧p=(.int .i64 n,.held x.val):=by
 rw [(sorted_perm _).mem_iff,List.mem_map]
 constructor
 · rintro⟨x,hx,rfl⟩
   obtain⟨y,hy⟩:=hF.reads x hx
   obtain⟨n,h1,h2⟩:=key_int hk (rd_key hy)
   obtain⟨z,h3,h4⟩:=rd_val hy
   cases h3
   refine⟨x,n,hx,h1,?_⟩
   rw [rg_of hy]
   exact Prod.ext h2 h4
 · rintro⟨x,n,hx,h1,rfl⟩
   obtain⟨y,hy⟩:=hF.reads x hx
   obtain⟨m,h2,h3⟩:=key_int hk (rd_key hy)
   obtain⟨z,h4,h5⟩:=rd_val hy
   cases h4
   refine⟨x,hx,?_⟩
   rw [rg_of hy]
   rw [h1] at h2
   cases h2
   exact Prod.ext h3 h5
theorem sorted_len(L:List (Lit × DataW Value)):∀a:Int,L.Pairwise (fun p q=>p.1.before q.1=true)→(∀p∈L,∃n,p.1= .int .i64 n∧a≤n∧n≤65536)→(L.length:Int)≤max 0 (65537-a):=by
 induction L with
 | nil=>intro a _ _;simp;omega
 | cons p L ih=>
   intro a hp hm
   obtain⟨h1,h2⟩:=List.pairwise_cons.1 hp
   obtain⟨n,e,ha,hb⟩:=hm p (by simp)
   have:=ih (n+1) h2 (fun q hq=>by
    obtain⟨m,e2,_,h4⟩:=hm q (by simp [hq])
    have h5:=h1 q hq
    rw [e,e2] at h5
    simp [Lit.before] at h5
    exact⟨m,e2,by omega,h4⟩)
   simp only [List.length_cons]
   omega
theorem fit_small(hk:P.underlying k=some (.int .i64)){es:Array MapEntry}{clock:Nat}(hF:Fit P k heldR es clock)(hM:MapFn P k es f)(hs:SmallKeys f):es.size<maxLen:=by
 have K:=int_keyed (P:=P) hk
 have h1:=sorted_len _ 1 (sorted_sorted K.one _ (fit_keys hF) (fit_apart K hF)) (fun p hp=>by
  obtain⟨x,n,hx,hkx,rfl⟩:=(mem_sorted hk hF).1 hp
  have:=hs n x.val ((hM n x.val).2 hp)
  exact⟨n,rfl,this.1,this.2⟩)
 rw [length_sorted] at h1
 simp only [List.length_map,Array.length_toList] at h1
 simp only [maxLen]
 omega
theorem map_look(hk:P.underlying k=some (.int .i64)){t e:TypeId}(ht:P.underlying t=some (.map k e)){z:Value}(hz:(zeroValue e).run P w= .ok z w)(c:Bool){n:Int}(hn:1≤n∧n≤65536)(h:Sat ((MapA P k b f).star F) w):
 (Instr.lookup t (.map (some b)) (.int .i64 n) c).run P w= .ok (if c then .tuple #[(f n).getD z,.bool (f n).isSome] else(f n).getD z) w:=by
 obtain⟨es,clock,hF,hM,hs,hp⟩:=mapA_iff.1 h
 rcases fit_look c (int_keyed hk) ht hz hp.pts_heap hF (key_mk hk hn) with⟨h1,h2,_⟩ | ⟨e0,y,h1,h2,h3,_⟩
 · have:f n=none:=by
    cases hf:f n with
    | none=>rfl
    | some v=>
      obtain⟨x,m,hx,hkx,hpx⟩:=(mem_sorted hk hF).1 ((hM n v).1 hf)
      cases hpx
      exact absurd hkx (h2 x hx)
   rw [h1,this];rfl
 · have:f n=some e0.val:=(hM n e0.val).2 ((mem_sorted hk hF).2 ⟨e0,n,h1,h2,rfl⟩)
   rw [h3,this];rfl
theorem notKey_int {n m:Int}{v:DataW Value}:notKey (Lit.int .i64 n) (Lit.int .i64 m,v)=true↔m≠n:=by
 simp [notKey,Lit.sameKey]
theorem map_put(hk:P.underlying k=some (.int .i64)){t e:TypeId}(ht:P.underlying t=some (.map k e)){n:Int}(hn:1≤n∧n≤65536)(v:Value)(h:Sat ((MapA P k b f).star F) w):
 ∃w',(Instr.mapUpdate t (.map (some b)) (.int .i64 n) v).run P w= .ok () w'∧Sat ((MapA P k b (fun m=>if m=n then some v else f m)).star F) w'∧w.grownBy w' (some b):=by
 obtain⟨es,clock,hF,hM,hs,hp⟩:=mapA_iff.1 h
 have hb:=hp.pts_heap
 obtain⟨es',clock',hrun,F',hput,_⟩:=fit_store (R':=heldR) (int_keyed hk) ht hb hF (fit_small hk hF hM hs) (fun _ _ _ _ hz=>hz) (key_mk hk hn) (yv:=(.held v,[])) (val:=v) rfl
 refine⟨_,hrun,mapA_iff.2 ⟨es',clock',F',fun m u=> ?_,fun m u hu=> ?_,?_⟩,⟨rfl,rfl,rfl,by simp [setBlock],fun i _ hi=>heap_setBlock_other hb _ (fun e=>hi (by rw [e]))⟩⟩
 · rw [hput]
   unfold putKey
   rw [mem_insert_iff,List.mem_filter,notKey_int, ← hM]
   by_cases hm:m=n
   · subst hm;simp;exact eq_comm
   · simp [hm]
 · by_cases hm:m=n
   · subst hm;exact hn
   · exact hs m u (by simpa [hm] using hu)
 · exact hp.put (heap_setBlock_same hb _) (fun i _ hi=>heap_setBlock_other hb _ hi)
theorem map_del(hk:P.underlying k=some (.int .i64)){t e ty:TypeId}(ht:P.underlying t=some (.map k e)){n:Int}(hn:1≤n∧n≤65536)(h:Sat ((MapA P k b f).star F) w):
 ∃w',(Builtin.delete_ #[t,k] ty #[.map (some b),.int .i64 n]).run P w= .ok (.tuple #[]) w'∧Sat ((MapA P k b (fun m=>if m=n then none else f m)).star F) w'∧w.grownBy w' (some b):=by
 obtain⟨es,clock,hF,hM,hs,hp⟩:=mapA_iff.1 h
 have hb:=hp.pts_heap
 obtain⟨es',hrun,F',_,hput,_⟩:=fit_drop (ty:=ty) (int_keyed hk) ht hb hF (key_mk hk hn)
 refine⟨_,hrun,mapA_iff.2 ⟨es',clock,F',fun m u=> ?_,fun m u hu=> ?_,?_⟩,⟨rfl,rfl,rfl,by simp [setBlock],fun i _ hi=>heap_setBlock_other hb _ (fun e=>hi (by rw [e]))⟩⟩
 · rw [hput]
   unfold delKey
   rw [List.mem_filter,notKey_int, ← hM]
   by_cases hm:m=n
   · subst hm;simp
   · simp [hm]
 · by_cases hm:m=n
   · simp [hm] at hu
   · exact hs m u (by simpa [hm] using hu)
 · exact hp.put (heap_setBlock_same hb _) (fun i _ hi=>heap_setBlock_other hb _ hi)
theorem map_made(h:Sat F w):Sat ((MapA P k w.heap.size fun _=>none).star F) (w.alloc (.map #[] 0)):=
 mapA_iff.2 ⟨#[],0,⟨by simp,stamped_empty 0,by simp⟩,fun n v=>by simp,(fun n v h=>by cases h),h.alloc _⟩
theorem wpList_look {ops:Array Oper}{rest:List Oper}{o:Oper}{a:Act}{Q:Exit→Act→World→Prop}(hgd:o.guard=none)(m x:Operand)(t:TypeId)(c:Bool)(hop:o.op=Op.lookup t m x c)
 (hk:P.underlying k=some (.int .i64)) {e:TypeId} (ht:P.underlying t=some (.map k e)) (z:Value) (hz:(zeroValue e).run P w= .ok z w) (n:Int) (hn:1≤n∧n≤65536)
 (hm:a.eval m= .map (some b)) (hx:a.eval x= .int .i64 n) (h:Sat ((MapA P k b f).star F) w)
 (hK:wpList P ops Q rest (a.put o.dst (if c then .tuple #[(f n).getD z,.bool (f n).isSome] else(f n).getD z)) w):wpList P ops Q (o :: rest) a w:=by
 refine wpList_plain hgd fun K' hK'=> ?_
 have hrun:=map_look hk ht hz c hn h
 unfold Oper.wp
 simp [execOp,hop,hm,hx,hrun,Result.andThen]
 exact hK' _ _ hK
theorem wpList_put {ops:Array Oper}{rest:List Oper}{o:Oper}{a:Act}{Q:Exit→Act→World→Prop}(hgd:o.guard=none)(m x u:Operand)(t:TypeId)(hop:o.op=Op.mapUpdate t m x u)
 (hk:P.underlying k=some (.int .i64)) {e:TypeId} (ht:P.underlying t=some (.map k e)) (n:Int) (hn:1≤n∧n≤65536) (v:Value)
 (hm:a.eval m= .map (some b)) (hx:a.eval x= .int .i64 n) (hv:a.eval u=v) (h:Sat ((MapA P k b f).star F) w)
 (hK:∀w',Sat ((MapA P k b (fun m=>if m=n then some v else f m)).star F) w'→w.grownBy w' (some b)→wpList P ops Q rest (a.put o.dst undef) w'):wpList P ops Q (o :: rest) a w:=by
 refine wpList_plain hgd fun K' hK'=> ?_
 obtain⟨w',hrun,h1,h2⟩:=map_put hk ht hn v h
 unfold Oper.wp
 simp [execOp,hop,hm,hx,hv,hrun,Result.andThen]
 exact hK' _ _ (hK w' h1 h2)
theorem wpList_del {ops:Array Oper}{rest:List Oper}{o:Oper}{a:Act}{Q:Exit→Act→World→Prop}(hgd:o.guard=none)(m x:Operand)(t:TypeId)
 (hop:o.op= .call { callee:= .builtin .delete,args:= #[m,x],argTypes:= #[t,k] })
 (hk:P.underlying k=some (.int .i64)) {e:TypeId} (ht:P.underlying t=some (.map k e)) (n:Int) (hn:1≤n∧n≤65536)
 (hm:a.eval m= .map (some b)) (hx:a.eval x= .int .i64 n) (h:Sat ((MapA P k b f).star F) w)
 (hK:∀w',Sat ((MapA P k b (fun m=>if m=n then none else f m)).star F) w'→w.grownBy w' (some b)→wpList P ops Q rest (a.put o.dst (.tuple #[])) w'):wpList P ops Q (o :: rest) a w:=by
 refine wpList_plain hgd fun K' hK'=> ?_
 obtain⟨w',hrun,h1,h2⟩:=map_del (ty:=o.type) hk ht hn h
 unfold Oper.wp execOp
 simp only [hop,resolve,invoke,builtin,Sem.run_bind,Sem.run_pure,Result.andThen_ok,List.map_toArray,List.map_cons,List.map_nil,hm,hx,hrun]
 exact hK' _ _ (hK w' h1 h2)
end
end Go.Sl
namespace Go.Cop
structure ItemV where
 key:List Int
 value:List Int
 child:Int
 size:Int
structure PageV where
 kind:Int
 level:Int
 items:List ItemV
 data:List Int
 next:Int
abbrev blobV(d:List Int)(next:Int):PageV:=⟨3,0,[],d,next⟩
structure ActV where
 mark:Int
 was:List (Int × Option PageV)
structure VaultS where
 pool:PoolS
 on:Int→Option PageV
 acts:List ActV
 floor:Int
end Go.Cop
namespace Go.Proofs.YtbobcmimkonnoaaGreat.U3
open ChangeShapes WideShapes ChangeAt RowKit Sl Cop D2 K3 N3 Q3 G2 M2
theorem infoPage:(Tryz.prog.info? 31).map (·.size)=some 5:=by kernel_rfl
theorem infoItem:(Tryz.prog.info? 58).map (fun i=>(i.zero,i.size,i.bytes))=some (some (.agg #[.slice none 0 0,.slice none 0 0,.int .i64 0,.int .i64 0]),4,64):=by kernel_rfl
theorem infoWas:(Tryz.prog.info? 172).map (fun i=>(i.zero,i.size,i.bytes))=some (some (.agg #[.int .i64 0,.int .i64 0,.int .i64 0,.slice none 0 0,.slice none 0 0,.int .i64 0,.bool false]),7,88):=by kernel_rfl
theorem infoVAct:(Tryz.prog.info? 158).map (fun i=>(i.zero,i.size,i.bytes))=some (some (.agg #[.int .i64 0,.slice none 0 0]),2,32):=by kernel_rfl
def ItemsIn(h:Hp)(vi:Value)(l:List ItemV):Prop:=
 ∃xs:List (Value × Value),xs.length=l.length∧RowIn h 4 vi l.length ((xs.zip l).flatMap fun x=> [x.1.1,x.1.2,.int .i64 x.2.child,.int .i64 x.2.size])∧
  ∀i (hx:i<xs.length) (hl:i<l.length),Bytes h xs[i].1 l[i].key∧Bytes h xs[i].2 l[i].value
def PageIn(h:Hp)(v:Value)(g:PageV):Prop:= ∃vi vd,v=pageV g.kind g.level vi vd g.next∧ItemsIn h vi g.items∧Bytes h vd g.data
theorem ItemsIn.sub {a b:Hp}(hs:a.sub b){v:Value}{l:List ItemV}(h:ItemsIn a v l):ItemsIn b v l:=by
 obtain⟨xs,h1,h2,h3⟩:=h
 exact⟨xs,h1,h2.sub hs,fun i hx hl=>⟨(h3 i hx hl).1.sub hs,(h3 i hx hl).2.sub hs⟩⟩
theorem PageIn.sub {a b:Hp}(hs:a.sub b){v:Value}{g:PageV}(h:PageIn a v g):PageIn b v g:=by
 obtain⟨vi,vd,h1,h2,h3⟩:=h
 exact⟨vi,vd,h1,h2.sub hs,h3.sub hs⟩
theorem Row.bd {T k:Nat}{a:Option Addr}{m c n:Nat}{xs:List Value}{F:Pr}{w:World}(h:Sat ((Row T k (.slice a m c) n xs).star F) w):c≤maxLen:=by
 obtain⟨_,(⟨e,_,_⟩ | ⟨b,cap,sp,e,_,_,h3,_⟩)⟩:=Row.open' h
 · cases e;exact Nat.zero_le _
 · cases e;exact h3
theorem sat_emp(w:World):Sat Pr.emp w:=⟨Hp.nil,rfl,fun k o e=>by cases e⟩
theorem items_mk {h:Hp}{a:Option Addr}{c:Nat}(hc:c≤maxLen):ItemsIn h (.slice a 0 c) []:=
 ⟨[],rfl,⟨by simp,a,c,rfl,Nat.zero_le _,hc,fun h=>absurd h (by simp)⟩,fun i hx=>absurd hx (by simp)⟩
theorem toArena {A F:Pr}{w:World}(h:Sat (A.star F) w){Q:Hp→Prop}(hq:∀x,A x→Q x):∃h',Q h'∧Sat ((Pr.own h').star F) w:=by
 obtain⟨x,⟨a,f,ha,hf,hd,rfl⟩,hw⟩:=h
 exact⟨a,hq a ha,_,⟨a,f,rfl,hf,hd,rfl⟩,hw⟩
end Go.Proofs.YtbobcmimkonnoaaGreat.U3
namespace Go.Cop
open Go.Proofs.YtbobcmimkonnoaaGreat.X2
def keyOk(k:Int)(i:Nat)(x:ItemV):Bool:=if k=2∧i=0 then decide (x.key.length=0) else decide (1≤x.key.length∧x.key.length≤24)
def ordOk(i:Nat)(prev:List Int)(x:ItemV):Bool:=decide (i=0∨0<cmpI x.key prev)
def valOk(k:Int)(x:ItemV):Bool:=
 if k=2 then decide (x.value.length=0∧x.size=0)
 else if 0≤x.size∧x.size≤3840 then(if x.size≤32 then decide ((x.value.length:Int)=x.size) else decide (x.value.length=0)) else false
def kidOk(k:Int)(x:ItemV):Bool:=if k=1∧x.size≤32 then decide (x.child=0) else isPg x.child
def itemE(k:Int)(i:Nat)(prev:List Int)(x:ItemV):Int:=
 if keyOk k i x=false then 7 else if ordOk i prev x=false then 11 else if valOk k x=false then 8 else if kidOk k x=false then 15 else 0
def itemsE(k:Int):Nat→List Int→List ItemV→Int
 | _,_,[]=>0
 | i,prev,x :: l=>if itemE k i prev x=0 then itemsE k (i+1) x.key l else itemE k i prev x
def kindOk(k:Int):Bool:=decide (1≤k∧k≤3)
def nextOk(n:Int):Bool:=decide (n=0) || isPg n
def thenE(e f:Int):Int:=if e=0 then f else e
def checkP(g:PageV):Int:=
 if kindOk g.kind=false then 22 else if formP g.kind g.level g.items.length g.data.length g.next=false then 5
 else thenE (itemsE g.kind 0 [] g.items) (if nextOk g.next then 0 else 15)
structure Fit(g:PageV):Prop where
 n:g.items.length≤8
 d:g.data.length≤480
 k:∀x∈g.items,x.key.length≤24∧x.value.length≤32
theorem mustP_then(f:Int)(b:Bool)(e:Int):mustP f b e=thenE f (if b then 0 else e):=by
 unfold mustP thenE
 cases b
 · simp
 · by_cases h:f=0<;>simp [h]
theorem thenE_assoc(a b c:Int):thenE (thenE a b) c=thenE a (thenE b c):=by
 unfold thenE
 by_cases h:a=0<;>by_cases h2:b=0<;>simp [h,h2]
theorem thenE_zero(a:Int):thenE a 0=a:=by
 unfold thenE
 by_cases h:a=0<;>simp [h]
theorem zero_thenE(a:Int):thenE 0 a=a:=rfl
theorem itemsE_cons(k:Int)(i:Nat)(p:List Int)(x:ItemV)(l:List ItemV):itemsE k i p (x :: l)=thenE (itemE k i p x) (itemsE k (i+1) x.key l):=rfl
theorem itemE_then(k:Int)(i:Nat)(p:List Int)(x:ItemV):itemE k i p x=thenE (if keyOk k i x then 0 else 7) (thenE (if ordOk i p x then 0 else 11) (thenE (if valOk k x then 0 else 8) (if kidOk k x then 0 else 15))):=by
 unfold itemE thenE
 cases keyOk k i x<;>cases ordOk i p x<;>cases valOk k x<;>cases kidOk k x<;>simp
theorem drop_at {l:List ItemV}{i:Nat}(h:i<l.length):l.drop i=l[i] :: l.drop (i+1):=List.drop_eq_getElem_cons h
theorem fit_items(k:Int):∀(l:List ItemV) (i:Nat) (p:List Int),itemsE k i p l=0→∀x∈l,x.key.length≤24∧x.value.length≤32
 | [],_,_,_,x,hx=>by cases hx
 | y :: l,i,p,h,x,hx=>by
   rw [itemsE_cons] at h
   have h1:itemE k i p y=0:=by
    unfold thenE at h;split at h
    · assumption
    · exact absurd h (by assumption)
   have h2:itemsE k (i+1) y.key l=0:=by unfold thenE at h;rw [if_pos h1] at h;exact h
   rcases List.mem_cons.1 hx with rfl | hx
   · unfold itemE at h1
     split at h1
     · cases h1
     · rename_i hk
       split at h1
       · cases h1
       · split at h1
         · cases h1
         · rename_i hv
           constructor
           · unfold keyOk at hk
             split at hk<;>simp only [decide_eq_false_iff_not,Decidable.not_not] at hk<;>omega
           · unfold valOk at hv
             split at hv
             · simp only [decide_eq_false_iff_not,Decidable.not_not] at hv;omega
             · split at hv
               · split at hv<;>simp only [decide_eq_false_iff_not,Decidable.not_not] at hv<;>omega
               · simp at hv
   · exact fit_items k l (i+1) y.key h2 x hx
theorem fit_of_check {g:PageV}(h:checkP g=0):Fit g:=by
 unfold checkP at h
 split at h
 · cases h
 · rename_i hk
   split at h
   · cases h
   · rename_i hf
     have h1:itemsE g.kind 0 [] g.items=0:=by
      unfold thenE at h;split at h
      · assumption
      · exact absurd h (by assumption)
     have hb:g.items.length≤8∧g.data.length≤480:=by
      unfold formP at hf
      split at hf
      · simp only [decide_eq_false_iff_not,Decidable.not_not] at hf;omega
      · split at hf<;>simp only [decide_eq_false_iff_not,Decidable.not_not] at hf<;>omega
     exact⟨hb.1,hb.2,fit_items _ _ _ _ h1⟩
end Go.Cop
namespace Go.Sl
theorem flat_at {α:Type}(f:α→List Value)(k:Nat)(hf:∀x,(f x).length=k):∀(l:List α) (i j:Nat) (hi:i<l.length),j<k→(l.flatMap f)[i*k+j]? =(f l[i])[j]?
 | [],i,j,hi,_=>absurd hi (by simp)
 | x :: l,0,j,_,hj=>by
   simp only [List.flatMap_cons,Nat.zero_mul,Nat.zero_add,List.getElem_cons_zero]
   rw [List.getElem?_append_left (by rw [hf];exact hj)]
 | x :: l,i+1,j,hi,hj=>by
   have hx:=hf x
   simp only [List.flatMap_cons,List.getElem_cons_succ]
   rw [List.getElem?_append_right (by rw [hx,Nat.succ_mul];omega),hx,show (i+1)*k+j-k=i*k+j by rw [Nat.succ_mul];omega]
   exact flat_at f k hf l i j (by simpa using hi) hj
theorem flat_len {α:Type}(f:α→List Value)(k:Nat)(hf:∀x,(f x).length=k):∀(l:List α),(l.flatMap f).length=l.length*k
 | []=>by simp
 | x :: l=>by simp only [List.flatMap_cons,List.length_append,List.length_cons,flat_len f k hf l,hf x,Nat.succ_mul];omega
theorem flat_set {α:Type}(f:α→List Value)(k:Nat)(hf:∀x,(f x).length=k)(j:Nat)(v:Value)(y:α)(hj:j<k):∀(l:List α) (i:Nat) (hi:i<l.length),(f l[i]).set j v=f y→(l.flatMap f).set (i*k+j) v=(l.set i y).flatMap f
 | [],i,hi,_=>absurd hi (by simp)
 | x :: l,0,_,e=>by
   simp only [List.flatMap_cons,Nat.zero_mul,Nat.zero_add,List.set_cons_zero,List.getElem_cons_zero] at e ⊢
   rw [List.set_append_left _ _ (by rw [hf];exact hj),e]
 | x :: l,i+1,hi,e=>by
   have hx:=hf x
   simp only [List.flatMap_cons,List.set_cons_succ,List.getElem_cons_succ] at e ⊢
   rw [List.set_append_right _ _ (by rw [hx,Nat.succ_mul];omega),hx,show (i+1)*k+j-k=i*k+j by rw [Nat.succ_mul];omega]
   rw [flat_set f k hf j v y hj l i (by simpa using hi) e]
theorem Row.set {T k b c n:Nat}{xs:List Value}{F:Pr}{w:World}(h:Sat ((Row T k (.slice (some ⟨b,0,none⟩) n c) n xs).star F) w)(i:Nat)(hi:i<xs.length)(v:Value):
 Sat ((Row T k (.slice (some ⟨b,0,none⟩) n c) n (xs.set i v)).star F) (w.setCell ⟨b,i,none⟩ v):=by
 obtain⟨hl,(⟨e,_,_⟩ | ⟨b',cap,sp,e,h1,h2,h3,h4⟩)⟩:=Row.open' h
 · cases e
 · cases e
   have h5:=h4.setCell (i:=i) v
   refine Row.mk' (sp:=sp) (by simpa using hl) (by simpa using h1) h2 h3 ?_
   have e6:(xs.set i v++sp).toArray=(xs++sp).toArray.setIfInBounds i v:=by
    rw [List.setIfInBounds_toArray,List.set_append_left _ _ hi]
   rw [e6]
   exact h5
end Go.Sl
namespace Go.Proofs.YtbobcmimkonnoaaGreat.X3
open ChangeShapes WideShapes ChangeAt RowKit Sl Cop G2 M2 U3
abbrev itemV(kv vv:Value)(c s:Int):Value:= .agg #[kv,vv,.int .i64 c,.int .i64 s]
def ItemIn(h:Hp)(v:Value)(x:ItemV):Prop:= ∃kv vv,v=itemV kv vv x.child x.size∧Bytes h kv x.key∧Bytes h vv x.value
theorem ItemIn.sub {a b:Hp}(hs:a.sub b){v:Value}{x:ItemV}(h:ItemIn a v x):ItemIn b v x:=by
 obtain⟨kv,vv,e,h1,h2⟩:=h
 exact⟨kv,vv,e,h1.sub hs,h2.sub hs⟩
theorem bytes_shape {h:Hp}{v:Value}{l:List Int}(hb:Bytes h v l):∃a c,v= .slice a l.length c:=by
 obtain⟨_,a,c,e,_⟩:=hb
 exact⟨a,c,e⟩
def itCells(x:(Value × Value) × ItemV):List Value:= [x.1.1,x.1.2,.int .i64 x.2.child,.int .i64 x.2.size]
theorem items_rd {h:Hp}{vi:Value}{l:List ItemV}(hi:ItemsIn h vi l):∃a c,vi= .slice a l.length c∧c≤maxLen∧∀i (hl:i<l.length),∃b off ak ck av cv,a=some ⟨b,off,none⟩∧
 Bytes h (.slice ak l[i].key.length ck) l[i].key∧Bytes h (.slice av l[i].value.length cv) l[i].value∧
 ∀w,h.le w→w.cell? ⟨b,off+i*4,none⟩=some (.slice ak l[i].key.length ck)∧w.cell? ⟨b,off+i*4+1,none⟩=some (.slice av l[i].value.length cv)∧
  w.cell? ⟨b,off+i*4+2,none⟩=some (.int .i64 l[i].child)∧w.cell? ⟨b,off+i*4+3,none⟩=some (.int .i64 l[i].size):=by
 obtain⟨xs,hxl,⟨hlen,a,c,e,_,hcm,hc⟩,hb⟩:=hi
 refine⟨a,c,e,hcm,fun i hl=> ?_⟩
 obtain⟨b,off,ea,hcell⟩:=hc (by omega)
 have hxi:i<xs.length:=by omega
 obtain⟨h1,h2⟩:=hb i hxi hl
 obtain⟨ak,ck,e1⟩:=bytes_shape h1
 obtain⟨av,cv,e2⟩:=bytes_shape h2
 have hz:i<(xs.zip l).length:=by simp;omega
 have ez:(xs.zip l)[i]=(xs[i],l[i]):=by simp
 refine⟨b,off,ak,ck,av,cv,ea,e1 ▸ h1,e2 ▸ h2,fun w hw=> ?_⟩
 have at':∀j,j<4→∀v,(itCells (xs[i],l[i]))[j]? =some v→w.cell? ⟨b,off+i*4+j,none⟩=some v:=by
  intro j hj v hv
  have h3:=hcell (i*4+j) (by omega)
  have h4:=flat_at itCells 4 (fun _=>rfl) (xs.zip l) i j hz hj
  rw [ez,hv] at h4
  rw [Nat.add_assoc]
  exact Hp.cell_le hw (h3.trans h4)
 have k0:=at' 0 (by omega) _ rfl
 have k1:=at' 1 (by omega) _ rfl
 have k2:=at' 2 (by omega) _ rfl
 have k3:=at' 3 (by omega) _ rfl
 dsimp only at k0 k1
 rw [e1] at k0
 rw [e2] at k1
 exact⟨k0,k1,k2,k3⟩
theorem items_mk' {h:Hp}{vi:Value}{l:List ItemV}(xs:List (Value × Value))(hxl:xs.length=l.length)(hr:RowIn h 4 vi l.length ((xs.zip l).flatMap itCells))
 (hb:∀i (hx:i<xs.length) (hl:i<l.length),Bytes h xs[i].1 l[i].key∧Bytes h xs[i].2 l[i].value):ItemsIn h vi l:=⟨xs,hxl,hr,hb⟩
end Go.Proofs.YtbobcmimkonnoaaGreat.X3
namespace Go.Cop
structure NumV where
 no:Int
 page:PageV
abbrev zeroP:PageV:=⟨0,0,[],[],0⟩
def rangeOk(pages refs:Int):Bool:=decide (1≤pages∧pages≤65536∧2≤refs∧refs<65536)
def cntL(cs:List Int)(n:Int):Int:=if 1≤n∧n≤cs.length then cs.getD (n.toNat-1) 0 else 0
def lay(cs:List Int):List NumV→(Int→Option PageV)→Int × (Int→Option PageV)
 | [],on=>(0,on)
 | x :: l,on=>if cntL cs x.no=0 then(15,on) else if(on x.no).isSome then(10,on) else if checkP x.page≠0 then(checkP x.page,on) else lay cs l (fun m=>if m=x.no then some x.page else on m)
def lacks(cs:List Int)(on:Int→Option PageV):Bool:=(List.range cs.length).any fun i=>decide (cs.getD i 0≠0) && (on ((i:Int)+1)).isNone
def badC(refs:Int)(cs:List Int):Bool:=cs.any fun c=>decide (c<0∨refs<c)
def loadE(refs:Int)(cs:List Int)(l:List NumV):Int × (Int→Option PageV):=
 if rangeOk cs.length refs=false then(1,fun _=>none)
 else if badC refs cs=true then(13,fun _=>none)
 else if(lay cs l fun _=>none).1≠0 then lay cs l fun _=>none
 else if lacks cs (lay cs l fun _=>none).2=true then(9,fun _=>none) else lay cs l fun _=>none
structure OnOk(cs:List Int)(on:Int→Option PageV):Prop where
 there:∀n g,on n=some g→cntL cs n≠0
 fit:∀n g,on n=some g→Fit g
theorem OnOk.none(cs:List Int):OnOk cs fun _=>none:=⟨fun _ _ e=>(by cases e),fun _ _ e=>(by cases e)⟩
theorem OnOk.put {cs:List Int}{on:Int→Option PageV}(h:OnOk cs on){x:NumV}(h1:cntL cs x.no≠0)(h2:checkP x.page=0):OnOk cs fun m=>if m=x.no then some x.page else on m:=by
 constructor
 · intro n g e
   split at e
   · rename_i hn;rw [hn];exact h1
   · exact h.there n g e
 · intro n g e
   split at e
   · cases e;exact fit_of_check h2
   · exact h.fit n g e
def lookL(cs:List Int)(on:Int→Option PageV)(n:Int):Option PageV:=if cntL cs n=0 then none else some ((on n).getD zeroP)
def chainL(look:Int→Option PageV)(size:Nat):Nat→List Int→Int→List Int × Int
 | 0,out,_=>(out,0)
 | k+1,out,n=>if size≤out.length then(out,0) else match look n with
   | none=>([],15)
   | some g=>if g.kind≠3 then([],15)
     else if(g.data.length=min (size-out.length) 480∧((g.next=0)↔(size-out.length≤480))) then chainL look size k (out++g.data) g.next else([],5)
def valueL(look:Int→Option PageV)(size child:Int)(value:List Int):List Int × Int:=
 if size<0∨3840<size∨(size≤32∧(value.length:Int)≠size) then([],8)
 else if size≤32 then(value,0) else chainL look size.toNat size.toNat [] child
end Go.Cop
namespace Go.Proofs.YtbobcmimkonnoaaGreat.Y3
open ChangeShapes WideShapes ChangeAt RowKit Sl Cop D2 K3 N3 Q3 G2 M2 U3
structure WasX where
 no:Int
 pk:Int
 pl:Int
 vi:Value
 vd:Value
 nx:Int
 th:Bool
def WasX.cells(x:WasX):List Value:= [.int .i64 x.no,.int .i64 x.pk,.int .i64 x.pl,x.vi,x.vd,.int .i64 x.nx,.bool x.th]
def IsSl(v:Value):Prop:= ∃a m c,v= .slice a m c
def WasRel(h:Hp)(x:WasX)(y:Int × Option PageV):Prop:=
 x.no=y.1∧IsSl x.vi∧IsSl x.vd∧match y.2 with | some g=>x.th=true∧PageIn h (pageV x.pk x.pl x.vi x.vd x.nx) g | none=>x.th=false
def WasIn(h:Hp)(xs:List WasX)(was:List (Int × Option PageV)):Prop:=xs.length=was.length∧∀i (h1:i<xs.length) (h2:i<was.length),WasRel h xs[i] was[i]
def ActRel(h:Hp)(x:Int × Value)(y:ActV):Prop:=x.1=y.mark∧∃xs:List WasX,RowIn h 7 x.2 y.was.length (xs.flatMap WasX.cells)∧WasIn h xs y.was
def ActsIn2(h:Hp)(xs:List (Int × Value))(acts:List ActV):Prop:=xs.length=acts.length∧∀i (h1:i<xs.length) (h2:i<acts.length),ActRel h xs[i] acts[i]
def actCells(xs:List (Int × Value)):List Value:=xs.flatMap fun x=> [.int .i64 x.1,x.2]
def OnIn(h:Hp)(f:Int→Option Value)(on:Int→Option PageV):Prop:= ∀n,match on n with | none=>f n=none | some g=> ∃v,f n=some v∧PageIn h v g
theorem WasRel.sub {a b:Hp}(hs:a.sub b){x:WasX}{y:Int × Option PageV}(h:WasRel a x y):WasRel b x y:=by
 obtain⟨h1,h2,h3,h4⟩:=h
 refine⟨h1,h2,h3,?_⟩
 cases hy:y.2 with
 | none=>rw [hy] at h4;exact h4
 | some g=>rw [hy] at h4;exact⟨h4.1,h4.2.sub hs⟩
theorem WasIn.sub {a b:Hp}(hs:a.sub b){xs:List WasX}{was:List (Int × Option PageV)}(h:WasIn a xs was):WasIn b xs was:=⟨h.1,fun i h1 h2=>(h.2 i h1 h2).sub hs⟩
theorem ActsIn2.sub {a b:Hp}(hs:a.sub b){xs:List (Int × Value)}{acts:List ActV}(h:ActsIn2 a xs acts):ActsIn2 b xs acts:=
 ⟨h.1,fun i h1 h2=>⟨(h.2 i h1 h2).1,by obtain⟨ys,e1,e2⟩:=(h.2 i h1 h2).2;exact⟨ys,e1.sub hs,e2.sub hs⟩⟩⟩
theorem OnIn.sub {a b:Hp}(hs:a.sub b){f:Int→Option Value}{on:Int→Option PageV}(h:OnIn a f on):OnIn b f on:=by
 intro n
 have:=h n
 cases hy:on n with
 | none=>rw [hy] at this;exact this
 | some g=>rw [hy] at this;obtain⟨v,e1,e2⟩:=this;exact⟨v,e1,e2.sub hs⟩
theorem OnIn.put {h:Hp}{f:Int→Option Value}{on:Int→Option PageV}(hO:OnIn h f on){n:Int}{v:Value}{g:PageV}(hp:PageIn h v g):OnIn h (fun m=>if m=n then some v else f m) (fun m=>if m=n then some g else on m):=by
 intro m
 dsimp only
 by_cases hm:m=n
 · simp only [hm,if_true];exact⟨v,rfl,hp⟩
 · simp only [hm,if_false];exact hO m
structure VX where
 p:Nat
 mb:Nat
 av:Value
 f:Int→Option Value
 axs:List (Int × Value)
 h:Hp
def VaultAt(v:Nat)(s:VaultS)(x:VX):Pr:=
 (Pr.pts v (.cells #[.pointer (some ⟨x.p,0,none⟩),.map (some x.mb),x.av,.int .i64 s.floor] 71)).star ((PoolA x.p s.pool).star ((MapA Tryz.prog 3 x.mb x.f).star ((Row 158 2 x.av s.acts.length (actCells x.axs)).star (Pr.own x.h))))
structure VOk(s:VaultS)(x:VX):Prop where
 on:OnIn x.h x.f s.on
 acts:ActsIn2 x.h x.axs s.acts
 f0:0≤s.floor
 fb:s.floor+s.acts.length≤1099511627776
def VaultA(v:Nat)(s:VaultS):Pr:=Pr.ex fun x:VX=>(Pr.pure (VOk s x)).star (VaultAt v s x)
theorem vaultA_iff {v:Nat}{s:VaultS}{F:Pr}{w:World}:Sat ((VaultA v s).star F) w↔∃x,VOk s x∧Sat ((VaultAt v s x).star F) w:=by
 unfold VaultA
 rw [Sat.ex]
 constructor
 · rintro⟨x,h⟩
   rw [Pr.star_assoc] at h
   obtain⟨h1,h2⟩:=Sat.pure.1 h
   exact⟨x,h1,h2⟩
 · rintro⟨x,h1,h2⟩
   refine⟨x,?_⟩
   rw [Pr.star_assoc]
   exact Sat.pure.2 ⟨h1,h2⟩
def VMAt(v:Nat)(s:VaultS)(x:VX)(ab:Nat)(mark:Int)(wv:Value)(ws:List WasX):Pr:=
 (VaultAt v s x).star ((Pr.pts ab (.cells #[.int .i64 mark,wv] 158)).star (Row 172 7 wv ws.length (ws.flatMap WasX.cells)))
theorem new_cells(w:World)(l:List Value)(T:TypeId)(b:Nat)(hb:b=w.heap.size):∀j u,l[j]? =some u→(w.alloc (.cells l.toArray T)).cell? ((⟨b,0,none⟩:Addr).add j)=some u:=by
 intro j u hj
 subst hb
 rw [add_cell,cell_of_heap (heap_new _ _)]
 simpa using hj
abbrev zeroPage:Value:=pageV 0 0 (.slice none 0 0) (.slice none 0 0) 0
theorem zero_page(w:World):(zeroValue 31).run Tryz.prog w= .ok zeroPage w:=by kernel_rfl
theorem look_shape {h:Hp}{f:Int→Option Value}{on:Int→Option PageV}(hO:OnIn h f on)(n:Int):
 ∃pk pl ai mi ci ad md cd nx th,(f n).getD zeroPage=pageV pk pl (.slice ai mi ci) (.slice ad md cd) nx∧(f n).isSome=th∧WasRel h ⟨n,pk,pl,.slice ai mi ci,.slice ad md cd,nx,th⟩ (n,on n):=by
 have:=hO n
 cases hy:on n with
 | none=>
   rw [hy] at this
   dsimp only at this
   exact⟨0,0,none,0,0,none,0,0,0,false,by rw [this];rfl,by rw [this];rfl,rfl,⟨_,_,_,rfl⟩,⟨_,_,_,rfl⟩,rfl⟩
 | some g=>
   rw [hy] at this
   obtain⟨v,e1,e2⟩:=this
   obtain⟨vi,vd,e3,e4,e5⟩:=id e2
   obtain⟨xs,_,⟨_,ai,ci,e6,_⟩,_⟩:=id e4
   obtain⟨_,ad,cd,e7,_⟩:=id e5
   subst e6
   subst e7
   exact⟨g.kind,g.level,ai,_,ci,ad,_,cd,g.next,true,by rw [e1,e3];rfl,by rw [e1];rfl,rfl,⟨_,_,_,rfl⟩,⟨_,_,_,rfl⟩,rfl,by rw [← e3];exact e2⟩
theorem note_at(v:Nat)(s:VaultS)(x:VX)(ab:Nat)(mark:Int)(wv:Value)(ws:List WasX)(n:Int)(hn:1≤n∧n≤65536)(hO:OnIn x.h x.f s.on)(hl:ws.length≤65536)(F:Pr)(w:World)
 (hF:Sat ((VMAt v s x ab mark wv ws).star F) w):
 Calls Tryz.prog 153 #[.pointer (some ⟨v,0,none⟩),.pointer (some ⟨ab,0,none⟩),.int .i64 n] w fun e w'=>
  e= .returned (.tuple #[])∧(∃wv' X,WasRel x.h X (n,s.on n)∧Sat ((VMAt v s x ab mark wv' (ws++ [X])).star F) w')∧Stays w w':=by
 have h1:Sat ((MapA Tryz.prog 3 x.mb x.f).star ((Pr.pts v (.cells #[.pointer (some ⟨x.p,0,none⟩),.map (some x.mb),x.av,.int .i64 s.floor] 71)).star ((Row 172 7 wv ws.length (ws.flatMap WasX.cells)).star ((Pr.pts ab (.cells #[.int .i64 mark,wv] 158)).star
  (((PoolA x.p s.pool).star ((Row 158 2 x.av s.acts.length (actCells x.axs)).star (Pr.own x.h))).star F))))) w:=hF.perm (by unfold VMAt VaultAt;ac_rfl)
 obtain⟨pk,pl,ai,mi,ci,ad,md,cd,nx,th,e1,e2,hrel⟩:=look_shape hO n
 have q1:w.cell? ⟨v,1,none⟩=some (.map (some x.mb)):=by rw [cell_of_heap h1.right.pts_heap];rfl
 obtain⟨aw,cw,ew,_,_⟩:=Row.read h1.right.right
 subst ew
 have z0:=h1.right.right.right.lt
 have qb:w.cell? ⟨ab,1,none⟩=some (.slice aw ws.length cw):=by rw [cell_of_heap h1.right.right.right.pts_heap];rfl
 have H1:=hQ h1
 have HR:=hQ hrel
 clear h1 hF hrel hO
 go_enter Tryz.func153,Tryz.ntmps153
 go_wp2_with (at_lookup;refine wpList_look rfl _ _ _ true rfl Tryz.underlying3 Tryz.underlying68 zeroPage (zero_page _) n hn rfl rfl H1.out ?_;rw [e1,e2])
 have es:(w.alloc (.cells #[.int .i64 pk,.int .i64 pl,.slice ai mi ci,.slice ad md cd,.int .i64 nx] 31)).heap.size=w.heap.size+1:=by simp
 have h2:=H1.out.alloc (.cells #[.int .i64 pk,.int .i64 pl,.slice ai mi ci,.slice ad md cd,.int .i64 nx] 31)
 have hb:=h2.pts_heap
 generalize hw1:w.alloc (.cells #[.int .i64 pk,.int .i64 pl,.slice ai mi ci,.slice ad md cd,.int .i64 nx] 31)=w1 at*
 have p0:w1.cell? ⟨w.heap.size,0,none⟩=some (.int .i64 pk):=by rw [cell_of_heap hb];rfl
 have p1:w1.cell? ⟨w.heap.size,1,none⟩=some (.int .i64 pl):=by rw [cell_of_heap hb];rfl
 have p2:w1.cell? ⟨w.heap.size,2,none⟩=some (.slice ai mi ci):=by rw [cell_of_heap hb];rfl
 have p3:w1.cell? ⟨w.heap.size,3,none⟩=some (.slice ad md cd):=by rw [cell_of_heap hb];rfl
 have p4:w1.cell? ⟨w.heap.size,4,none⟩=some (.int .i64 nx):=by rw [cell_of_heap hb];rfl
 have h3:=h2.right
 have qb:w1.cell? ⟨ab,1,none⟩=some (.slice aw ws.length cw):=by rw [cell_of_heap h3.right.right.right.pts_heap];rfl
 have zb:=h3.right.right.right.lt
 have zB:=h2.lt
 have hsb:=(hw1 ▸ ((Stays.refl w).alloc _):Stays w w1)
 clear hw1 qb q1 hb
 have qb:w1.cell? ⟨ab,1,none⟩=some (.slice aw ws.length cw):=by rw [cell_of_heap h3.right.right.right.pts_heap];rfl
 rw [← es] at*
 have h4:Sat ((Row 172 7 (.slice aw ws.length cw) ws.length (ws.flatMap WasX.cells)).star ((Pr.pts ab (.cells #[.int .i64 mark,.slice aw ws.length cw] 158)).star ((MapA Tryz.prog 3 x.mb x.f).star ((Pr.pts v (.cells #[.pointer (some ⟨x.p,0,none⟩),.map (some x.mb),x.av,.int .i64 s.floor] 71)).star
  ((Pr.pts w.heap.size (.cells #[.int .i64 pk,.int .i64 pl,.slice ai mi ci,.slice ad md cd,.int .i64 nx] 31)).star (((PoolA x.p s.pool).star ((Row 158 2 x.av s.acts.length (actCells x.axs)).star (Pr.own x.h))).star F)))))) w1:=h2.perm (by ac_rfl)
 have hnew:=hQ (new_cells w1 [.int .i64 n,.int .i64 pk,.int .i64 pl,.slice ai mi ci,.slice ad md cd,.int .i64 nx,.bool th] 172 _ rfl)
 have H5:=hQ (h4.alloc (.cells #[.int .i64 n,.int .i64 pk,.int .i64 pl,.slice ai mi ci,.slice ad md cd,.int .i64 nx,.bool th] 172)).right
 have HST:=hQ hsb
 clear h2 h3 h4 H1 hsb
 go_wp2
 refine wp_region_staged (sz:=30) (by kernel_rfl) [0,1,2,3,4,5,6,7,8] [(9,[],[0,1,2,3,4,5,6,7]),(10,[11,12],[0,1,2,3,5,6,7]),(13,[],[11])] rfl (by kernel_rfl) (by kernel_rfl) (by kernel_rfl) ?_
 iterate 9 (refine wpQ_step rfl rfl (fun K hK=> ?_);go_simp;refine hK _ ?_;clear hK K)
 refine wpQ_nil ?_
 refine wpRest_act rfl ?_
 go_wp2
 refine onN_mk (wpQ_nil ⟨?_,?_⟩)
 · refine chk_cons ?_ (chk_cons ?_ (chk_cons ?_ (chk_cons ?_ (chk_cons ?_ (chk_cons ?_ (chk_cons ?_ (chk_cons ?_ chk_nil)))))))<;>(refine yieldF_of rfl rfl rfl rfl ?_;go_simp;try omega)
 refine wpRest_act rfl ?_
 obtain⟨i0,hi,hz0,hz1,hz2⟩:=info_parts infoWas
 refine wpList_append_sl rfl _ _ _ rfl 172 i0 (.agg #[.int .i64 0,.int .i64 0,.int .i64 0,.slice none 0 0,.slice none 0 0,.int .i64 0,.bool false]) 7 88 Tryz.underlying156 hi hz0 hz1 hz2 rfl _ _ _ rfl H5.out ⟨w1.heap.size,0,none⟩ 1 1 _ rfl rfl hnew.out (by simp [Value.oneCell']) (by simp only [maxLen];omega) (by omega) ?_
 intro v' w2 hsat hgr _
 obtain⟨a2,c2,hv2,_,_⟩:=Row.read hsat
 subst hv2
 have hp:=hsat.right
 have hpb:=hsat.right.right.right.right
 have r0:w2.cell? ⟨w.heap.size,0,none⟩=some (.int .i64 pk):=by rw [cell_of_heap hpb.pts_heap];rfl
 have r1:w2.cell? ⟨w.heap.size,1,none⟩=some (.int .i64 pl):=by rw [cell_of_heap hpb.pts_heap];rfl
 have r2:w2.cell? ⟨w.heap.size,2,none⟩=some (.slice ai mi ci):=by rw [cell_of_heap hpb.pts_heap];rfl
 have r3:w2.cell? ⟨w.heap.size,3,none⟩=some (.slice ad md cd):=by rw [cell_of_heap hpb.pts_heap];rfl
 have r4:w2.cell? ⟨w.heap.size,4,none⟩=some (.int .i64 nx):=by rw [cell_of_heap hpb.pts_heap];rfl
 have y1:=frozen_of_heap hp.pts_heap 1
 have y1c:w2.cell? ⟨ab,1,none⟩=some (.slice aw ws.length cw):=by rw [cell_of_heap hp.pts_heap];rfl
 have yp:=hp.lt
 have yB:=hpb.lt
 have HSAT:=hQ hsat
 have HG:=hQ (((HST.out.alloc (.cells #[.int .i64 n,.int .i64 pk,.int .i64 pl,.slice ai mi ci,.slice ad md cd,.int .i64 nx,.bool th] 172)).drew).of_grown hgr)
 clear hsat hp hpb hgr p0 p1 p2 p3 p4 qb zb zB H5 hnew es
 go_wp2
 refine onN_mk ?_
 iterate 2 (refine wpQ_step rfl rfl (fun K hK=> ?_);go_simp;refine hK _ ?_;clear hK K)
 refine wpQ_nil ⟨?_,?_⟩
 · refine chk_cons ?_ (chk_cons ?_ (chk_cons ?_ (chk_cons ?_ (chk_cons ?_ (chk_cons ?_ (chk_cons ?_ chk_nil))))))<;>(refine yieldF_of rfl rfl rfl rfl ?_;go_simp;try omega)
 refine wpRest_act rfl ?_
 go_wp2
 refine onN_mk (wpQ_nil ⟨?_,wpRest_nil ?_⟩)
 · refine chk_cons ?_ chk_nil<;>(refine yieldF_of rfl rfl rfl rfl ?_;go_simp;try omega)
 go_wp2
 first | refine bodyPost_ret (results_none rfl _ _ _) rfl ?_ | go_end0
 refine⟨rfl,⟨.slice a2 (ws.length+1) c2,⟨n,pk,pl,.slice ai mi ci,.slice ad md cd,nx,th⟩,HR.out,?_⟩,HG.out.setCell _ _⟩
 have h6:Sat ((Pr.pts ab (.cells #[.int .i64 mark,.slice a2 (ws.length+1) c2] 158)).star ((Row 172 7 (.slice a2 (ws.length+1) c2) (ws.length+1) (ws.flatMap WasX.cells++ [.int .i64 n,.int .i64 pk,.int .i64 pl,.slice ai mi ci,.slice ad md cd,.int .i64 nx,.bool th])).star ((MapA Tryz.prog 3 x.mb x.f).star ((Pr.pts v (.cells #[.pointer (some ⟨x.p,0,none⟩),.map (some x.mb),x.av,.int .i64 s.floor] 71)).star ((Pr.pts w.heap.size (.cells #[.int .i64 pk,.int .i64 pl,.slice ai mi ci,.slice ad md cd,.int .i64 nx] 31)).star (((PoolA x.p s.pool).star ((Row 158 2 x.av s.acts.length (actCells x.axs)).star (Pr.own x.h))).star F)))))) _:=(HSAT.out.perm (Pr.left_comm _ _ _)).setCell (i:=1) (.slice a2 (ws.length+1) c2)
 have h7:Sat ((Pr.pts w.heap.size (.cells #[.int .i64 pk,.int .i64 pl,.slice ai mi ci,.slice ad md cd,.int .i64 nx] 31)).star ((((Pr.pts v (.cells #[.pointer (some ⟨x.p,0,none⟩),.map (some x.mb),x.av,.int .i64 s.floor] 71)).star ((PoolA x.p s.pool).star ((MapA Tryz.prog 3 x.mb x.f).star ((Row 158 2 x.av s.acts.length (actCells x.axs)).star (Pr.own x.h))))).star ((Pr.pts ab (.cells #[.int .i64 mark,.slice a2 (ws.length+1) c2] 158)).star (Row 172 7 (.slice a2 (ws.length+1) c2) (ws.length+1) (ws.flatMap WasX.cells++ [.int .i64 n,.int .i64 pk,.int .i64 pl,.slice ai mi ci,.slice ad md cd,.int .i64 nx,.bool th])))).star F)) _:=h6.perm (by ac_rfl)
 have e:VMAt v s x ab mark (.slice a2 (ws.length+1) c2) (ws++ [⟨n,pk,pl,.slice ai mi ci,.slice ad md cd,nx,th⟩])=((Pr.pts v (.cells #[.pointer (some ⟨x.p,0,none⟩),.map (some x.mb),x.av,.int .i64 s.floor] 71)).star ((PoolA x.p s.pool).star ((MapA Tryz.prog 3 x.mb x.f).star ((Row 158 2 x.av s.acts.length (actCells x.axs)).star (Pr.own x.h))))).star ((Pr.pts ab (.cells #[.int .i64 mark,.slice a2 (ws.length+1) c2] 158)).star (Row 172 7 (.slice a2 (ws.length+1) c2) (ws.length+1) (ws.flatMap WasX.cells++ [.int .i64 n,.int .i64 pk,.int .i64 pl,.slice ai mi ci,.slice ad md cd,.int .i64 nx,.bool th]))):=by
  unfold VMAt VaultAt
  rw [List.flatMap_append,List.length_append]
  rfl
 rw [e]
 exact h7.right
end Go.Proofs.YtbobcmimkonnoaaGreat.Y3
namespace Go.Proofs.YtbobcmimkonnoaaGreat.Z3
open ChangeShapes WideShapes ChangeAt RowKit Sl Cop D2 K3 N3 Q3 G2 M2 U3 Y3
theorem page_shape {h:Hp}{pv:Value}{g:PageV}(hg:PageIn h pv g):∃pk pl ai mi ci ad md cd nx,pv=pageV pk pl (.slice ai mi ci) (.slice ad md cd) nx:=by
 obtain⟨vi,vd,e3,e4,e5⟩:=id hg
 obtain⟨xs,_,⟨_,ai,ci,e6,_⟩,_⟩:=id e4
 obtain⟨_,ad,cd,e7,_⟩:=id e5
 subst e6
 subst e7
 exact⟨_,_,ai,_,ci,ad,_,cd,_,e3⟩
theorem put_at(v:Nat)(s:VaultS)(x:VX)(ab:Nat)(mark:Int)(wv:Value)(ws:List WasX)(n:Int)(hn:1≤n∧n≤65536)(pv:Value)(g:PageV)(hg:PageIn x.h pv g)(hO:OnIn x.h x.f s.on)(hl:ws.length≤65536)(F:Pr)(w:World)
 (hF:Sat ((VMAt v s x ab mark wv ws).star F) w):
 Calls Tryz.prog 101 #[.pointer (some ⟨v,0,none⟩),.pointer (some ⟨ab,0,none⟩),.int .i64 n,pv] w fun e w'=>
  e= .returned (.tuple #[])∧(∃wv' X,WasRel x.h X (n,s.on n)∧Sat ((VMAt v s { x with f:=fun m=>if m=n then some pv else x.f m } ab mark wv' (ws++ [X])).star F) w')∧Stays w w':=by
 obtain⟨pk,pl,ai,mi,ci,ad,md,cd,nx,rfl⟩:=page_shape hg
 have h2:=hF.alloc (.cells #[.int .i64 pk,.int .i64 pl,.slice ai mi ci,.slice ad md cd,.int .i64 nx] 31)
 have h3:=h2.perm (B:=(VMAt v s x ab mark wv ws).star ((Pr.pts w.heap.size (.cells #[.int .i64 pk,.int .i64 pl,.slice ai mi ci,.slice ad md cd,.int .i64 nx] 31)).star F)) (by ac_rfl)
 have C:=hQ (note_at v s x ab mark wv ws n hn hO hl _ _ h3)
 clear h2 h3 hF hO
 go_enter Tryz.func101,Tryz.ntmps101
 go_wp2_with fail
 refine C.out.mono ?_
 rintro e w1 ⟨rfl,⟨wv',X,hX,h4⟩,hst⟩
 have h5:Sat ((MapA Tryz.prog 3 x.mb x.f).star ((Pr.pts v (.cells #[.pointer (some ⟨x.p,0,none⟩),.map (some x.mb),x.av,.int .i64 s.floor] 71)).star ((Pr.pts w.heap.size (.cells #[.int .i64 pk,.int .i64 pl,.slice ai mi ci,.slice ad md cd,.int .i64 nx] 31)).star
  (((PoolA x.p s.pool).star ((Row 158 2 x.av s.acts.length (actCells x.axs)).star (Pr.own x.h))).star (((Pr.pts ab (.cells #[.int .i64 mark,wv'] 158)).star (Row 172 7 wv' (ws++ [X]).length ((ws++ [X]).flatMap WasX.cells))).star F))))) w1:=h4.perm (by unfold VMAt VaultAt;ac_rfl)
 have q1:w1.cell? ⟨v,1,none⟩=some (.map (some x.mb)):=by rw [cell_of_heap h5.right.pts_heap];rfl
 have hb:=h5.right.right.pts_heap
 have p0:w1.cell? ⟨w.heap.size,0,none⟩=some (.int .i64 pk):=by rw [cell_of_heap hb];rfl
 have p1:w1.cell? ⟨w.heap.size,1,none⟩=some (.int .i64 pl):=by rw [cell_of_heap hb];rfl
 have p2:w1.cell? ⟨w.heap.size,2,none⟩=some (.slice ai mi ci):=by rw [cell_of_heap hb];rfl
 have p3:w1.cell? ⟨w.heap.size,3,none⟩=some (.slice ad md cd):=by rw [cell_of_heap hb];rfl
 have p4:w1.cell? ⟨w.heap.size,4,none⟩=some (.int .i64 nx):=by rw [cell_of_heap hb];rfl
 have H5:=hQ h5
 have HX:=hQ hX
 have HST:=hQ (((Stays.refl w).alloc _).trans hst)
 clear h5 h4 hb hX hst C
 go_wp2
 refine wp_region_staged (sz:=18) (by kernel_rfl) [0,1,2,3,4,5] [(6,[],[])] rfl (by kernel_rfl) (by kernel_rfl) (by kernel_rfl) ?_
 iterate 6 (refine wpQ_step rfl rfl (fun K hK=> ?_);go_simp;refine hK _ ?_;clear hK K)
 refine wpQ_nil ?_
 refine wpRest_act rfl ?_
 refine wpList_put rfl _ _ _ _ rfl Tryz.underlying3 Tryz.underlying68 n hn _ rfl rfl rfl H5.out ?_
 intro w2 hs2 hg2
 have HS2:=hQ hs2
 have HG:=hQ ((HST.out.drew).of_grown hg2)
 clear hs2 hg2
 go_wp2
 refine onN_mk (wpQ_nil ⟨chk_nil,wpRest_nil ?_⟩)
 go_wp2
 first | refine bodyPost_ret (results_none rfl _ _ _) rfl ?_ | go_end0
 refine⟨rfl,⟨wv',X,HX.out,?_⟩,HG.out⟩
 have h6:Sat ((Pr.pts w.heap.size (.cells #[.int .i64 pk,.int .i64 pl,.slice ai mi ci,.slice ad md cd,.int .i64 nx] 31)).star ((VMAt v s { x with f:=fun m=>if m=n then some (pageV pk pl (.slice ai mi ci) (.slice ad md cd) nx) else x.f m } ab mark wv' (ws++ [X])).star F)) w2:=HS2.out.perm (by unfold VMAt VaultAt;dsimp only;ac_rfl)
 exact h6.right
end Go.Proofs.YtbobcmimkonnoaaGreat.Z3
