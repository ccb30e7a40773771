/- Clones of rows of one-cell elements; the conditions stand as hypotheses. -/
import Derived.Test.YtbobcmimkonnoaaGreatVaultPlaysM01
import Derived.Test.YtbobcmimkonnoaaGreatVaultPlaysM02
import Derived.Lib.Hide
import Derived.Lib.SliceRun
import Derived.BigFrame
import Derived.BigQuiet
import Derived.Lib.Bytealg
import Derived.Lib.BytesEntry
import Derived.Test.YtbobcmimkonnoaaGreatRows
import Derived.ProofKit
import Derived.OpenShut
import Derived.WalkSpells
import Derived.WalkLawsBesides
set_option maxRecDepth 100000
set_option maxHeartbeats 16000000
namespace Go.Proofs.YtbobcmimkonnoaaGreat.G2
open ChangeShapes WideShapes ChangeAt RowKit Sl Cop
theorem infoByte:(Tryz.prog.info? 5).map (fun i=>(i.zero,i.size,i.bytes))=some (some (.int .u8 0),1,1):=by kernel_rfl
theorem infoInt:(Tryz.prog.info? 3).map (fun i=>(i.zero,i.size,i.bytes))=some (some (.int .i64 0),1,8):=by kernel_rfl
abbrev byteV(b:Int):Value:= .int .u8 b
abbrev Bytes(h:Hp)(v:Value)(l:List Int):Prop:=RowIn h 1 v l.length (l.map (Value.int .u8))
abbrev BytesRow(v:Value)(l:List Int):Pr:=Row 5 1 v l.length (l.map (Value.int .u8))
theorem clone_bytes(h:Hp)(v:Value)(l:List Int)(F:Pr)(w:World)(hF:Sat F w)(hh:h.le w)(hx:Bytes h v l)(hn:l.length≤65536):
 Calls Tryz.prog 141 #[v] w fun e w'=> ∃v',e= .returned v'∧Sat ((BytesRow v' l).star F) w'∧Stays w w':=by
 obtain⟨_,ad,c,rfl,hnc,hcm,hcell⟩:=id hx
 have he:∀wx:World,(binOp .eql 29 (.slice ad l.length c) (.slice none 0 0)).run Tryz.prog wx= .ok (.bool ad.isNone) wx:=fun wx=>Lib.run_eql_slice_nil wx _ _ ad _ c 0 0 Tryz.underlying29
 cases ad with
 | none=>
   have hl:l.length=0:=by
    rcases Nat.eq_zero_or_pos l.length with h0 | h0
    · exact h0
    · obtain⟨b,off,e1,_⟩:=hcell (by omega);cases e1
   have hl2:l= []:=List.eq_nil_of_length_eq_zero hl
   have HF:=hQ hF
   have HL:=hQ hl2
   clear hF hx hcell hh hl2 hl
   go_enter Tryz.func141,Tryz.ntmps141
   go_wp2
   go_ret
   refine⟨_,rfl,?_,Stays.refl w⟩
   have h1:=HF.out
   have h2:=HL.out
   subst h2
   rw [← Sat.emp, ← Row.nil 5 1] at h1
   exact h1
 | some ad=>
   have hnew:Sat ((Row 5 1 (.slice (some ⟨w.heap.size,0,none⟩) 0 0) 0 []).star F) (w.alloc (.cells #[] 5)):=
    Row.mk' (xs:= []) (sp:= []) (by simp) (by simp) (Nat.le_refl _) (by simp) (by simpa using hF.alloc (.cells #[] 5))
   have hle:h.le (w.alloc (.cells #[] 5)):=fun k o e=>(Below.heap_alloc w _ k (Array.getElem?_eq_some_iff.1 (hh k o e)).1).trans (hh k o e)
   have HF:=hQ hnew
   have HX:=hQ hx
   have HH:=hQ hle
   clear hF hx hcell hh hnew hle
   go_enter Tryz.func141,Tryz.ntmps141
   obtain⟨i0,hi,hz0,hz1,hz2⟩:=info_parts infoByte
   go_wp2_with (at_builtin;refine wpList_append_row rfl _ _ _ rfl 5 i0 (.int .u8 0) 1 1 Tryz.underlying29 hi hz0 hz1 hz2 rfl _ _ _ rfl HF.out h HH.out _ _ _ rfl HX.out (by simp [Value.oneCell']) (by simp only [maxLen];omega) (by omega) ?_;intro v' w1 hsat hgr _;have HSAT:=hQ hsat;clear hsat)
   go_ret
   refine⟨_,rfl,?_,((Stays.refl w).alloc _).of_grown hgr⟩
   have h1:=HSAT.out
   rw [Nat.zero_add,List.nil_append] at h1
   exact h1
end Go.Proofs.YtbobcmimkonnoaaGreat.G2
namespace Go.Sl
structure Only(w w':World):Prop where
 st:Stays w w'
 heap:∀k,k<w.heap.size→w'.heap[k]? =w.heap[k]?
theorem Only.refl(w:World):Only w w:=⟨Stays.refl w,fun _ _=>rfl⟩
theorem Only.trans {a b c:World}(h:Only a b)(k:Only b c):Only a c:=⟨h.st.trans k.st,fun i hi=>(k.heap i (Nat.lt_of_lt_of_le hi h.st.size)).trans (h.heap i hi)⟩
theorem Only.alloc {a w:World}(h:Only a w)(o:Obj):Only a (w.alloc o):=h.trans ⟨(Stays.refl w).alloc o,fun k hk=>Go.RowKit.Below.heap_alloc w o k hk⟩
theorem Only.drew {a w:World}(h:Only a w):Only a w.drew:=h.trans ⟨(Stays.refl w).drew,fun _ _=>rfl⟩
theorem Only.drewN {a w:World}(h:Only a w)(n:Nat):Only a (w.drewN n):=h.trans ⟨(Stays.refl w).drewN n,fun _ _=>rfl⟩
theorem Only.setCell {a w:World}(h:Only a w){b i:Nat}(hb:a.heap.size≤b)(v:Value):Only a (w.setCell ⟨b,i,none⟩ v):=
 ⟨h.st.setCell _ _,fun k hk=>(Go.RowKit.Below.heap_setCell _ _ _ _ (by dsimp only;omega)).trans (h.heap k hk)⟩
theorem Only.cell {w w':World}(h:Only w w'){b i:Nat}{v:Value}(hc:w.cell? ⟨b,i,none⟩=some v):w'.cell? ⟨b,i,none⟩=some v:=by
 have hb:b<w.heap.size:=by
  rcases Nat.lt_or_ge b w.heap.size with h1 | h1
  · exact h1
  · unfold World.cell? at hc;simp [Array.getElem?_eq_none h1] at hc
 unfold World.cell? at hc ⊢
 dsimp only at hc ⊢
 rw [h.heap b hb]
 exact hc
theorem Sat.only {A:Pr}{w w':World}(h:Sat A w)(ho:Only w w'):Sat A w':=h.ext ho.heap
end Go.Sl
namespace Go.Proofs.YtbobcmimkonnoaaGreat.M2
open ChangeShapes WideShapes ChangeAt RowKit Sl Cop G2
abbrev pageV(kind level:Int)(vi vd:Value)(next:Int):Value:= .agg #[.int .i64 kind,.int .i64 level,vi,vd,.int .i64 next]
theorem isPage_any(n:Int)(w:World):Calls Tryz.prog 139 #[.int .i64 n] w fun e w'=>e= .returned (.bool (decide (1≤n∧n≤65536)))∧w=w':=by
 by_cases h1:1≤n
 · by_cases h2:n≤65536
   · go_enter Tryz.func139,Tryz.ntmps139
     go_wp2
     go_ret
     simp [h1,h2]
   · go_enter Tryz.func139,Tryz.ntmps139
     go_wp2
     go_ret
     simp [h2]
 · go_enter Tryz.func139,Tryz.ntmps139
   go_wp2
   go_ret
   simp;omega
end Go.Proofs.YtbobcmimkonnoaaGreat.M2
namespace Go.Proofs.YtbobcmimkonnoaaGreat.N2
open ChangeShapes WideShapes ChangeAt RowKit Sl Cop G2 M2
theorem bytes_rd {h:Hp}{v:Value}{V:List Int}(hb:Bytes h v V):∃a c,v= .slice a V.length c∧∀i,i<V.length→∃b off,a=some ⟨b,off,none⟩∧∀w,h.le w→w.cell? ⟨b,off+i,none⟩=some (.int .u8 (V.getD i 0)):=by
 obtain⟨hl,a,c,e,_,_,hc⟩:=hb
 refine⟨a,c,e,fun i hi=> ?_⟩
 obtain⟨b,off,e1,e2⟩:=hc (by omega)
 refine⟨b,off,e1,fun w hw=> ?_⟩
 refine Hp.cell_le hw ((e2 i (by omega)).trans ?_)
 simp [hi]
theorem compare_same(ha hb:Hp)(va vb:Value)(V:List Int)(h1:Bytes ha va V)(h2:Bytes hb vb V)(hn:V.length≤9000000000000000000)(w:World)(l1:ha.le w)(l2:hb.le w):
 Calls Tryz.prog 81 #[va,vb] w fun e w'=>e= .returned (.int .i64 0)∧Only w w':=by
 obtain⟨a,c,rfl,r1⟩:=bytes_rd h1
 obtain⟨a',c',rfl,r2⟩:=bytes_rd h2
 have R1:=hQ r1
 have R2:=hQ r2
 have L1:=hQ l1
 have L2:=hQ l2
 clear r1 r2 h1 h2 l1 l2
 go_enter Tryz.func81,Tryz.ntmps81
 go_wp2
 go_loopw [5] (fun i wr=> ∃k:Nat,k≤V.length∧i= .int .i64 k∧Only w wr) (fun i _=>V.length-(intOf i).toNat)
 case atStart=>exact⟨0,Nat.zero_le _,rfl,Only.refl w⟩
 case round=>
  obtain⟨k,hk,rfl,ho⟩:=hrel
  rcases Nat.lt_or_ge k V.length with hlt | hge
  · obtain⟨b,off,rfl,c1⟩:=R1.out k hlt
    obtain⟨b',off',rfl,c2⟩:=R2.out k hlt
    have q1:=c1 wr (fun k o e=>(ho.heap k (Array.getElem?_eq_some_iff.1 (L1.out k o e)).1).trans (L1.out k o e))
    have q2:=c2 wr (fun k o e=>(ho.heap k (Array.getElem?_eq_some_iff.1 (L2.out k o e)).1).trans (L2.out k o e))
    have HO:=hQ ho
    clear c1 c2 ho
    generalize V.getD k 0=x at*
    go_wp2
    go_region
    go_wp2
    go_region
    go_wp2
    go_roundw
    case rel=>exact⟨k+1,by omega,by go_num,HO.out.drew.drew⟩
    case measure=>simp [intOf];omega
  · have hkl:k=V.length:=by omega
    subst hkl
    go_wp2
    go_ret
    exact⟨rfl,ho⟩
theorem eq_same(ha hb:Hp)(va vb:Value)(V:List Int)(h1:Bytes ha va V)(h2:Bytes hb vb V)(hn:V.length≤9000000000000000000)(w:World)(l1:ha.le w)(l2:hb.le w):
 Calls Tryz.prog 22 #[va,vb] w fun e w'=>e= .returned (.bool true)∧Only w w':=by
 have C:=hQ (compare_same ha hb va vb V h1 h2 hn w l1 l2)
 clear h1 h2 l1 l2
 go_enter Tryz.func22,Tryz.ntmps22
 go_wp2_with fail
 refine C.out.mono ?_
 rintro e w' ⟨rfl,ho⟩
 go_wp2
 go_ret
 exact⟨rfl,ho⟩
end Go.Proofs.YtbobcmimkonnoaaGreat.N2
namespace Go.Cop
def cmpI:List Int→List Int→Int
 | [],[]=>0
 | [],_ :: _=> -1
 | _ :: _,[]=>1
 | x :: a,y :: b=>if x<y then -1 else if y<x then 1 else cmpI a b
def U8(l:List Int):Prop:= ∀z∈l,0≤z∧z≤255
theorem u8_lt {x y:Int}(hx:0≤x∧x≤255)(hy:0≤y∧y≤255):(x.toNat.toUInt8<y.toNat.toUInt8)↔x<y:=by
 rw [UInt8.lt_iff_toNat_lt]
 have e1:x.toNat.toUInt8.toNat=x.toNat:=by simp;omega
 have e2:y.toNat.toUInt8.toNat=y.toNat:=by simp;omega
 rw [e1,e2]
 omega
theorem cmp_map:∀ {a b:List Int},U8 a→U8 b→Lib.compareBytes (a.map fun z=>z.toNat.toUInt8) (b.map fun z=>z.toNat.toUInt8)=cmpI a b
 | [],[],_,_=>rfl
 | [],_ :: _,_,_=>rfl
 | _ :: _,[],_,_=>rfl
 | x :: a,y :: b,ha,hb=>by
   have ih:=cmp_map (a:=a) (b:=b) (fun z hz=>ha z (by simp [hz])) (fun z hz=>hb z (by simp [hz]))
   have hx:=ha x (by simp)
   have hy:=hb y (by simp)
   simp only [List.map_cons,Lib.compareBytes,cmpI,u8_lt hx hy,u8_lt hy hx,ih]
theorem cmp_step {A B:List Int}{k:Nat}(ha:k<A.length)(hb:k<B.length)(h:cmpI A B=cmpI (A.drop k) (B.drop k)):
 cmpI A B=if A.getD k 0<B.getD k 0 then -1 else if B.getD k 0<A.getD k 0 then 1 else cmpI (A.drop (k+1)) (B.drop (k+1)):=by
 rw [h,List.drop_eq_getElem_cons ha,List.drop_eq_getElem_cons hb]
 simp [cmpI,ha,hb]
theorem cmp_end {A B:List Int}{k:Nat}(hk:k≤A.length∧k≤B.length)(he:k=A.length∨k=B.length)(h:cmpI A B=cmpI (A.drop k) (B.drop k)):
 cmpI A B=if A.length<B.length then -1 else if B.length<A.length then 1 else 0:=by
 rw [h]
 rcases he with rfl | rfl
 · rw [List.drop_length]
   by_cases h1:A.length<B.length
   · rw [if_pos h1,List.drop_eq_getElem_cons h1];rfl
   · rw [if_neg h1,if_neg (by omega),List.drop_of_length_le (by omega)];rfl
 · rw [List.drop_length]
   by_cases h1:B.length<A.length
   · rw [if_neg (by omega),if_pos h1,List.drop_eq_getElem_cons h1];rfl
   · rw [if_neg (by omega),if_neg h1,List.drop_of_length_le (by omega)];rfl
end Go.Cop
namespace Go.Proofs.YtbobcmimkonnoaaGreat.Q2
open ChangeShapes WideShapes ChangeAt RowKit Sl Cop G2 M2 N2
theorem compare_any(ha hb:Hp)(va vb:Value)(A B:List Int)(h1:Bytes ha va A)(h2:Bytes hb vb B)(hn:A.length≤9000000000000000000)(w:World)(l1:ha.le w)(l2:hb.le w):
 Calls Tryz.prog 81 #[va,vb] w fun e w'=>e= .returned (.int .i64 (cmpI A B))∧Only w w':=by
 obtain⟨a,c,rfl,r1⟩:=bytes_rd h1
 obtain⟨a',c',rfl,r2⟩:=bytes_rd h2
 have R1:=hQ r1
 have R2:=hQ r2
 have L1:=hQ l1
 have L2:=hQ l2
 clear r1 r2 h1 h2 l1 l2
 go_enter Tryz.func81,Tryz.ntmps81
 go_wp2
 go_loopw [5] (fun i wr=> ∃k:Nat,k≤A.length∧k≤B.length∧i= .int .i64 k∧Only w wr∧Hid (cmpI A B=cmpI (A.drop k) (B.drop k))) (fun i _=>A.length-(intOf i).toNat)
 case atStart=>exact⟨0,Nat.zero_le _,Nat.zero_le _,rfl,Only.refl w,hQ rfl⟩
 case round=>
  obtain⟨k,hk,hk2,rfl,ho,hc⟩:=hrel
  by_cases hlt:k<A.length∧k<B.length
  · obtain⟨hlt1,hlt2⟩:=hlt
    obtain⟨b,off,rfl,c1⟩:=R1.out k hlt1
    obtain⟨b',off',rfl,c2⟩:=R2.out k hlt2
    have q1:=c1 wr (fun k o e=>(ho.heap k (Array.getElem?_eq_some_iff.1 (L1.out k o e)).1).trans (L1.out k o e))
    have q2:=c2 wr (fun k o e=>(ho.heap k (Array.getElem?_eq_some_iff.1 (L2.out k o e)).1).trans (L2.out k o e))
    have HO:=hQ ho
    have HC:=hQ (cmp_step hlt1 hlt2 hc.out)
    clear c1 c2 ho hc
    generalize A.getD k 0=x at*
    generalize B.getD k 0=y at*
    by_cases hxy:x<y
    · go_wp2
      go_region
      go_wp2
      go_ret
      have:=HC.out
      rw [if_pos hxy] at this
      rw [this]
      exact⟨rfl,HO.out.drew⟩
    · by_cases hyx:y<x
      · go_wp2
        go_region
        go_wp2
        go_region
        go_wp2
        go_ret
        have:=HC.out
        rw [if_neg (by omega),if_pos hyx] at this
        rw [this]
        exact⟨rfl,HO.out.drew.drew⟩
      · go_wp2
        go_region
        go_wp2
        go_region
        go_wp2
        go_roundw
        case rel=>
         have:=HC.out
         rw [if_neg (by omega),if_neg (by omega)] at this
         exact⟨k+1,by omega,by omega,congrArg (Value.int .i64) (by omega),HO.out.drew.drew,hQ this⟩
        case measure=>simp [intOf];omega
  · have HC:=hQ (cmp_end ⟨hk,hk2⟩ (by omega) hc.out)
    clear hc
    have hlt2:¬(k<A.length∧k<B.length):=hlt
    rcases Nat.lt_trichotomy A.length B.length with h | h | h
    · have hkA:k=A.length:=by omega
      subst hkA
      go_wp2
      go_ret
      have:=HC.out
      rw [if_pos h] at this
      rw [this]
      exact⟨rfl,ho⟩
    · have hkA:k=A.length:=by omega
      subst hkA
      have hE:=HC.out
      rw [if_neg (by omega),if_neg (by omega)] at hE
      rw [hE]
      have h9:=hQ h
      have hd1:¬((A.length:Int)<(B.length:Int)):=by omega
      have hd2:¬((B.length:Int)<(A.length:Int)):=by omega
      clear h
      go_wp2
      go_ret
      exact⟨rfl,ho⟩
    · have hkA:k=B.length:=by omega
      subst hkA
      go_wp2
      go_ret
      have:=HC.out
      rw [if_neg (by omega),if_pos h] at this
      rw [this]
      exact⟨rfl,ho⟩
theorem run_bytesOf_slice(h:Hp)(v:Value)(l:List Int)(hx:Bytes h v l)(w:World)(hl:h.le w):
 ∃b:ByteArray,(Extern.Bytes.bytesOf v).run Tryz.prog w= .ok b w∧b.data.toList=l.map fun z=>z.toNat.toUInt8:=by
 obtain⟨a,c,rfl,r⟩:=bytes_rd hx
 cases a with
 | none=>
   have:l= []:=by
    rcases Nat.eq_zero_or_pos l.length with h0 | h0
    · exact List.eq_nil_of_length_eq_zero h0
    · obtain⟨b,off,e,_⟩:=r 0 h0;cases e
   subst this
   exact⟨.empty,rfl,rfl⟩
 | some ad=>
   refine⟨⟨ByteArray.empty.data++(Lib.bytesOf l).toArray⟩,Lib.run_loadBytesX (P:=Tryz.prog) w l ad .empty (fun j x hj=> ?_),?_⟩
   · have hjl:j<l.length:=(List.getElem?_eq_some_iff.1 hj).1
     obtain⟨b,off,e,hc⟩:=r j hjl
     cases e
     have e:(⟨b,off,none⟩:Addr).add j=⟨b,off+j,none⟩:=by unfold Addr.add;split<;>simp_all
     rw [e,hc w hl,List.getD_eq_getElem?_getD,hj]
     rfl
   · simp [Lib.bytesOf,ByteArray.empty,ByteArray.emptyWithCapacity]
     rfl
theorem run_compareSlices(ha hb:Hp)(va vb:Value)(A B:List Int)(h1:Bytes ha va A)(h2:Bytes hb vb B)(u1:U8 A)(u2:U8 B)(w:World)(l1:ha.le w)(l2:hb.le w):
 (Extern.BytealgCompare.compare #[va,vb]).run Tryz.prog w= .ok (.int .i64 (cmpI A B)) w:=by
 obtain⟨x,hx,ex⟩:=run_bytesOf_slice ha va A h1 w l1
 obtain⟨y,hy,ey⟩:=run_bytesOf_slice hb vb B h2 w l2
 change Sem.run Tryz.prog (do pure (goInt (Extern.BytealgCompare.cmp (← Extern.Bytes.bytesOf va) (← Extern.Bytes.bytesOf vb)))) w=_
 simp only [Sem.run_bind,Sem.run_pure,hx,hy,Result.andThen]
 rw [Lib.cmp_eq,ex,ey,cmp_map u1 u2]
 rfl
theorem bcompare_any(ha hb:Hp)(va vb:Value)(A B:List Int)(h1:Bytes ha va A)(h2:Bytes hb vb B)(u1:U8 A)(u2:U8 B)(w:World)(l1:ha.le w)(l2:hb.le w):
 Calls Tryz.prog 138 #[va,vb] w fun e w'=>e= .returned (.int .i64 (cmpI A B))∧w=w':=by
 have hr:=run_compareSlices ha hb va vb A B h1 h2 u1 u2 w l1 l2
 obtain⟨a,c,rfl,_⟩:=bytes_rd h1
 obtain⟨a',c',rfl,_⟩:=bytes_rd h2
 have HR:=hQ hr
 clear h1 h2 u1 u2 l1 l2 hr
 go_enter Tryz.func138,Tryz.ntmps138
 go_wp2
 rw [run_callFunc_extern Tryz.func161 (by kernel_rfl) (by kernel_rfl) (by kernel_rfl) (e:=Extern.BytealgCompare.compare) (by kernel_rfl),HR.out]
 simp only [Result.andThen]
 rw [Oper.upon_value]
 go_wp2
 go_ret
 exact⟨rfl,rfl⟩
end Go.Proofs.YtbobcmimkonnoaaGreat.Q2
namespace Go.Cop
def isPg(n:Int):Bool:=decide (1≤n∧n≤65536)
def formP(k l:Int)(n d:Nat)(nx:Int):Bool:=
 if k=1 then decide (d=0∧nx=0∧l=0∧1≤n∧n≤8)
 else if k=2 then decide (d=0∧nx=0∧1≤l∧l<12∧2≤n∧n≤8)
 else decide (l=0∧n=0∧1≤d∧d≤480)
def mustP(f:Int)(b:Bool)(e:Int):Int:=if b then f else if f=0 then e else f
end Go.Cop
namespace Go.Proofs.YtbobcmimkonnoaaGreat.X2
open ChangeShapes WideShapes ChangeAt RowKit Sl Cop G2 M2 N2 Q2
theorem risPage_any(n:Int)(w:World):Calls Tryz.prog 146 #[.int .i64 n] w fun e w'=>e= .returned (.bool (isPg n))∧w=w':=by
 unfold isPg
 by_cases h1:1≤n
 · by_cases h2:n≤65536
   · go_enter Tryz.func146,Tryz.ntmps146
     go_wp2
     go_ret
     simp [h1,h2]
   · go_enter Tryz.func146,Tryz.ntmps146
     go_wp2
     go_ret
     simp [h2]
 · go_enter Tryz.func146,Tryz.ntmps146
   go_wp2
   go_ret
   simp;omega
theorem must_any(f x:Int)(h:Bool)(b:Nat)(F:Pr)(w:World)(hF:Sat ((Pr.pts b (.cells #[.int .i64 f] 36)).star F) w):
 Calls Tryz.prog 136 #[.bool h,.int .i64 x,.pointer (some ⟨b,0,none⟩)] w fun e w'=>e= .returned (.tuple #[])∧Sat ((Pr.pts b (.cells #[.int .i64 (mustP f h x)] 36)).star F) w'∧Stays w w':=by
 have q:=hF.pts_heap
 have q0:w.cell? ⟨b,0,none⟩=some (.int .i64 f):=by rw [cell_of_heap q];rfl
 have z0:=frozen_of_heap q 0
 have HF:=hQ hF
 clear hF q
 cases h with
 | true=>
   go_enter Tryz.func136,Tryz.ntmps136
   go_wp2
   first | refine bodyPost_ret (results_none rfl _ _ _) rfl ?_ | go_end0
   exact⟨rfl,HF.out,Stays.refl w⟩
 | false=>
   by_cases h0:f=0
   · subst h0
     go_enter Tryz.func136,Tryz.ntmps136
     go_wp2
     first | refine bodyPost_ret (results_none rfl _ _ _) rfl ?_ | go_end0
     exact⟨rfl,HF.out.setCell (i:=0) (.int .i64 x),(Stays.refl w).setCell _ _⟩
   · have hb:(f == 0)=false:=by rw [beq_eq_false_iff_ne];exact h0
     go_enter Tryz.func136,Tryz.ntmps136
     go_wp2
     first | refine bodyPost_ret (results_none rfl _ _ _) rfl ?_ | go_end0
     have e:mustP f false x=f:=by unfold mustP;rw [if_neg (by simp),if_neg h0]
     rw [e]
     exact⟨rfl,HF.out,Stays.refl w⟩
theorem form_any(ai ad:Option Addr)(n ci d cd:Nat)(k l nx:Int)(w:World):
 Calls Tryz.prog 137 #[pageV k l (.slice ai n ci) (.slice ad d cd) nx] w fun e w'=>e= .returned (.bool (formP k l n d nx))∧Only w w':=by
 have fin:∀(b:Bool),b=formP k l n d nx→Ending.returned (Value.bool b)=Ending.returned (Value.bool (formP k l n d nx)):=fun b e=>by rw [e]
 have hk:(k=1∨k=2)∨(k≠1∧k≠2):=by omega
 rcases Nat.eq_zero_or_pos d with hd | hd
 · subst hd
   rcases hk with(rfl | rfl) | ⟨h1,h2⟩
   · go_enter Tryz.func137,Tryz.ntmps137
     go_wp2
     go_region
     go_wp2
     all_goals (go_ret;refine⟨fin _ ?_,((Only.refl w).alloc _).drew⟩;rw [Bool.eq_iff_iff];simp [formP];try omega)
   · go_enter Tryz.func137,Tryz.ntmps137
     go_wp2
     go_region
     go_wp2
     all_goals (go_ret;refine⟨fin _ ?_,((Only.refl w).alloc _).drew⟩;rw [Bool.eq_iff_iff];simp [formP];try omega)
   · have e1:(k == 1)=false:=by rw [beq_eq_false_iff_ne];exact h1
     have e2:(k == 2)=false:=by rw [beq_eq_false_iff_ne];exact h2
     go_enter Tryz.func137,Tryz.ntmps137
     go_wp2
     go_region
     go_wp2
     all_goals (go_ret;refine⟨fin _ ?_,((Only.refl w).alloc _).drew⟩;rw [Bool.eq_iff_iff];simp [formP,h1,h2];try omega)
 · have h0:((d:Int) == 0)=false:=by rw [beq_eq_false_iff_ne];omega
   rcases hk with(rfl | rfl) | ⟨h1,h2⟩
   · go_enter Tryz.func137,Tryz.ntmps137
     go_wp2
     go_region
     go_wp2
     all_goals (go_ret;refine⟨fin _ ?_,((Only.refl w).alloc _).drew⟩;rw [Bool.eq_iff_iff];simp [formP];try omega)
   · go_enter Tryz.func137,Tryz.ntmps137
     go_wp2
     go_region
     go_wp2
     all_goals (go_ret;refine⟨fin _ ?_,((Only.refl w).alloc _).drew⟩;rw [Bool.eq_iff_iff];simp [formP];try omega)
   · have e1:(k == 1)=false:=by rw [beq_eq_false_iff_ne];exact h1
     have e2:(k == 2)=false:=by rw [beq_eq_false_iff_ne];exact h2
     go_enter Tryz.func137,Tryz.ntmps137
     go_wp2
     go_region
     go_wp2
     all_goals (go_ret;refine⟨fin _ ?_,((Only.refl w).alloc _).drew⟩;rw [Bool.eq_iff_iff];simp [formP,h1,h2];try omega)
theorem rform_any(ai ad:Option Addr)(n ci d cd:Nat)(k l nx:Int)(hk:k=1∨k=2∨k=3)(w:World):
 Calls Tryz.prog 142 #[pageV k l (.slice ai n ci) (.slice ad d cd) nx] w fun e w'=>e= .returned (.bool (formP k l n d nx))∧Only w w':=by
 have fin:∀(b:Bool),b=formP k l n d nx→Ending.returned (Value.bool b)=Ending.returned (Value.bool (formP k l n d nx)):=fun b e=>by rw [e]
 rcases hk with rfl | rfl | rfl
 · go_enter Tryz.func142,Tryz.ntmps142
   go_wp2
   all_goals (go_ret;refine⟨fin _ ?_,((Only.refl w).alloc _)⟩;rw [Bool.eq_iff_iff];simp [formP];try omega)
 · go_enter Tryz.func142,Tryz.ntmps142
   go_wp2
   all_goals (go_ret;refine⟨fin _ ?_,((Only.refl w).alloc _)⟩;rw [Bool.eq_iff_iff];simp [formP];try omega)
 · go_enter Tryz.func142,Tryz.ntmps142
   go_wp2
   all_goals (go_ret;refine⟨fin _ ?_,((Only.refl w).alloc _)⟩;rw [Bool.eq_iff_iff];simp [formP];try omega)
end Go.Proofs.YtbobcmimkonnoaaGreat.X2
namespace Go.Cop
def PoolS.turn(s:PoolS)(n b:Int):PoolS:= { s with counts:=s.counts.set (n.toNat-1) (s.count n+b) }
structure PoolOk(s:PoolS):Prop where
 n1:1≤s.counts.length
 n2:s.counts.length≤65536
 len:s.last.length=s.counts.length
 r1:2≤s.refs
 r2:s.refs<65536
 cs:∀c∈s.counts,0≤c∧c≤65536
 fl:0≤s.floor
 mb:s.floor+s.acts.length≤1099511627776
theorem count_bd {s:PoolS}(h:PoolOk s)(n:Int):0≤s.count n∧s.count n≤65536:=by
 unfold PoolS.count
 split
 · rename_i ht
   obtain⟨h1,h2⟩:=ht
   have hlt:n.toNat-1<s.counts.length:=by omega
   rw [List.getD_eq_getElem?_getD,List.getElem?_eq_getElem hlt]
   exact h.cs _ (List.getElem_mem hlt)
 · omega
theorem turn_there {s:PoolS}{n b m:Int}:(s.turn n b).there m↔s.there m:=by simp [PoolS.there,PoolS.turn]
theorem turn_count {s:PoolS}{n b m:Int}(h:s.there n):(s.turn n b).count m=if m=n then s.count n+b else s.count m:=by
 obtain⟨h1,h2⟩:=h
 by_cases hm:s.there m
 · have hm':(s.turn n b).there m:=turn_there.2 hm
   have e1:(s.turn n b).count m=(s.turn n b).counts.getD (m.toNat-1) 0:=by unfold PoolS.count;rw [if_pos hm']
   have e2:s.count m=s.counts.getD (m.toNat-1) 0:=by unfold PoolS.count;rw [if_pos hm]
   obtain⟨m1,m2⟩:=hm
   rw [e1]
   simp only [PoolS.turn,List.getD_eq_getElem?_getD]
   by_cases he:m=n
   · subst he
     rw [List.getElem?_set_self (by omega),if_pos rfl];rfl
   · rw [List.getElem?_set_ne (by omega),if_neg he,e2,List.getD_eq_getElem?_getD]
 · have hm':¬(s.turn n b).there m:=fun h=>hm (turn_there.1 h)
   have hne:m≠n:=fun e=>hm (e ▸ ⟨h1,h2⟩)
   unfold PoolS.count
   rw [if_neg hm',if_neg hm,if_neg hne]
theorem turn_state {s:PoolS}{n b m:Int}(h:s.there n):(s.turn n b).state m=if m=n then stateOf (s.count n+b) (s.lasts n) else s.state m:=by
 unfold PoolS.state
 by_cases hm:s.there m
 · rw [if_pos (turn_there.2 hm),if_pos hm,turn_count h]
   by_cases he:m=n
   · rw [if_pos he,if_pos he,he];rfl
   · rw [if_neg he,if_neg he];rfl
 · have hne:m≠n:=fun e=>hm (e ▸ h)
   rw [if_neg (fun h=>hm (turn_there.1 h)),if_neg hm,if_neg hne]
theorem state_there {s:PoolS}{n:Int}(h:s.there n):s.state n=stateOf (s.count n) (s.lasts n):=by unfold PoolS.state;rw [if_pos h]
theorem turn_ok {s:PoolS}(h:PoolOk s){n b:Int}(h0:0≤s.count n+b)(h1:s.count n+b≤65536):PoolOk (s.turn n b):=by
 refine⟨by simpa [PoolS.turn] using h.n1,by simpa [PoolS.turn] using h.n2,by simpa [PoolS.turn] using h.len,h.r1,h.r2,fun c hc=> ?_,h.fl,h.mb⟩
 rcases List.mem_or_eq_of_mem_set hc with h2 | h2
 · exact h.cs c h2
 · rw [h2];exact⟨h0,h1⟩
theorem filter_set {α:Type}(p:α→Bool):∀(l:List α) (i:Nat) (x:α) (h:i<l.length),
 ((l.set i x).filter p).length+(if p l[i] then 1 else 0)=(l.filter p).length+(if p x then 1 else 0):=by
 intro l
 induction l with
 | nil=>intro i x h;simp at h
 | cons a l ih=>
   intro i x h
   cases i with
   | zero=>simp only [List.set_cons_zero,List.filter_cons,List.getElem_cons_zero];split<;>split<;>simp
   | succ i=>
     have:=ih i x (by simpa using h)
     simp only [List.set_cons_succ,List.filter_cons,List.getElem_cons_succ]
     split
     · simp only [List.length_cons];omega
     · exact this
theorem zip_set {α β:Type}:∀(l:List α) (m:List β) (i:Nat) (x:α),(l.set i x).zip m=match m[i]? with
 | some y=>(l.zip m).set i (x,y)
 | none=>l.zip m:=by
 intro l
 induction l with
 | nil=>intro m i x;cases m[i]? <;>simp
 | cons a l ih=>
   intro m i x
   cases m with
   | nil=>simp
   | cons b m=>
     cases i with
     | zero=>simp
     | succ i=>
       have:=ih m i x
       simp only [List.set_cons_succ,List.zip_cons_cons,List.getElem?_cons_succ,this]
       cases m[i]? <;>simp
theorem turn_many {s:PoolS}(h:PoolOk s){n b:Int}(hn:s.there n)(k:Int):
 (s.turn n b).many k+(if s.state n=k then 1 else 0)=s.many k+(if stateOf (s.count n+b) (s.lasts n)=k then 1 else 0):=by
 obtain⟨h1,h2⟩:=hn
 have hi:n.toNat-1<s.counts.length:=by omega
 have hj:n.toNat-1<s.last.length:=by rw [h.len];exact hi
 have hlast:s.lasts n=s.last[n.toNat-1]:=by unfold PoolS.lasts;rw [List.getD_eq_getElem?_getD,List.getElem?_eq_getElem hj];rfl
 have hcount:s.count n=s.counts[n.toNat-1]:=by
  unfold PoolS.count;rw [if_pos ⟨h1,h2⟩,List.getD_eq_getElem?_getD,List.getElem?_eq_getElem hi];rfl
 have hz:n.toNat-1<(s.counts.zip s.last).length:=by simp;omega
 have e:=filter_set (fun x:Int × Bool=>stateOf x.1 x.2 == k) (s.counts.zip s.last) (n.toNat-1) (s.count n+b,s.last[n.toNat-1]) hz
 have hset:((s.turn n b).counts.zip (s.turn n b).last)=(s.counts.zip s.last).set (n.toNat-1) (s.count n+b,s.last[n.toNat-1]):=by
  show (s.counts.set _ _).zip s.last=_
  rw [zip_set,List.getElem?_eq_getElem hj]
 unfold PoolS.many
 rw [hset,state_there ⟨h1,h2⟩]
 simp only [List.getElem_zip,beq_iff_eq] at e
 rw [← hcount, ← hlast] at e
 rw [hlast] at e ⊢
 exact e
end Go.Cop
namespace Go.Proofs.YtbobcmimkonnoaaGreat.Y2
open ChangeShapes WideShapes ChangeAt RowKit Sl Go.Shelf
attribute [local go_sem] Oper.semAt_some
def runCells(rs:List (Int × Int)):List Value:=rs.flatMap fun r=> [.int .i64 r.1,.int .i64 r.2]
theorem runCells_at(rs:List (Int × Int))(k:Nat)(h:k<rs.length):
 (runCells rs)[k*2]? =some (.int .i64 rs[k].1)∧(runCells rs)[k*2+1]? =some (.int .i64 rs[k].2):=by
 induction rs generalizing k with
 | nil=>simp at h
 | cons r rs ih=>
   cases k with
   | zero=>simp [runCells]
   | succ k=>
     have:=ih k (by simpa using h)
     have e1:(k+1)*2=k*2+2:=by omega
     rw [e1]
     simp only [runCells,List.flatMap_cons,List.cons_append,List.nil_append,List.getElem?_cons_succ,List.getElem_cons_succ]
     exact this
theorem runCells_append(a b:List (Int × Int)):runCells (a++b)=runCells a++runCells b:=by simp [runCells]
def I64(x:Int):Prop:= -9223372036854775808≤x∧x≤9223372036854775807
def SetAt(p:Nat)(v:Value)(rs:List (Int × Int)):Pr:=
 (Pr.pts p (.cells #[v] 175)).star (Row 177 2 v rs.length (runCells rs))
def cutRun(lo hi:Int)(x:Int × Int):Option (Int × Int):=if max x.1 lo≤min x.2 hi then some (max x.1 lo,min x.2 hi) else none
def cutRuns(rs:List (Int × Int))(lo hi:Int):List (Int × Int):=rs.filterMap (cutRun lo hi)
theorem cut_list {lo hi:Int}{x m:Int × Int}(h1:max x.1 lo=m.1)(h2:min x.2 hi=m.2)(h3:m.1≤m.2):(cutRun lo hi x).toList= [m]:=by
 unfold cutRun
 rw [h1,h2,if_pos h3]
 rfl
def encRun(x:Int × Int):Array Value:= #[.agg #[.int .i64 x.1,.int .i64 x.2]]
abbrev PtrBx(b p:Nat):Pr:=Pr.pts b (.cells #[.pointer (some ⟨p,0,none⟩)] 120)
abbrev RunBx(b:Nat)(lo hi:Int):Pr:=Pr.pts b (.cells #[.int .i64 lo,.int .i64 hi] 177)
def WithinOwn(p bs br:Nat)(v:Value)(rs:List (Int × Int))(lo hi:Int):Pr:=
 (PtrBx bs p).star ((RunBx br lo hi).star (SetAt p v rs))
theorem within1(p bs br:Nat)(v:Value)(rs:List (Int × Int))(lo hi:Int)(hl:rs.length≤4294967296):
 IterSl Tryz.prog 174 #[.pointer (some ⟨bs,0,none⟩),.pointer (some ⟨br,0,none⟩)] encRun (cutRuns rs lo hi) (WithinOwn p bs br v rs lo hi):=by
 intro l J Jx W hY h0
 refine(callsIn_wide (n:=3)).1 ?_
 refine callsIn_of_wp Tryz.func174 rfl trivial ?_ rfl
 simp only [Tryz.ntmps174,List.size_toArray,List.length_cons,List.length_nil,Nat.reduceAdd,Nat.reduceSub,Array.replicate_succ,Array.replicate_zero,List.push_toArray,List.append_toArray,List.nil_append,List.cons_append]
 have facts:∀(A:Pr) (wr:World),Sat (A.star (WithinOwn p bs br v rs lo hi)) wr→
  wr.cell? ⟨bs,0,none⟩=some (.pointer (some ⟨p,0,none⟩))∧wr.cell? ⟨br,0,none⟩=some (.int .i64 lo)∧wr.cell? ⟨br,1,none⟩=some (.int .i64 hi)∧
  wr.cell? ⟨p,0,none⟩=some v∧bs<wr.heap.size∧br<wr.heap.size∧p<wr.heap.size∧
  Sat ((Row 177 2 v rs.length (runCells rs)).star Pr.emp) wr:=by
  intro A wr h
  unfold WithinOwn SetAt at h
  have h1:Sat ((PtrBx bs p).star (A.star ((RunBx br lo hi).star ((Pr.pts p (.cells #[v] 175)).star (Row 177 2 v rs.length (runCells rs)))))) wr:=h.perm (by ac_rfl)
  have h2:Sat ((RunBx br lo hi).star (A.star ((Pr.pts p (.cells #[v] 175)).star (Row 177 2 v rs.length (runCells rs))))) wr:=h1.right.perm (by ac_rfl)
  have h3:Sat ((Pr.pts p (.cells #[v] 175)).star ((Row 177 2 v rs.length (runCells rs)).star A)) wr:=h2.right.perm (by ac_rfl)
  refine⟨by rw [cell_of_heap h1.pts_heap];rfl,by rw [cell_of_heap h2.pts_heap];rfl,by rw [cell_of_heap h2.pts_heap];rfl,by rw [cell_of_heap h3.pts_heap];rfl,h1.lt,h2.lt,h3.lt,?_⟩
  rw [Pr.star_emp];exact h3.right.left
 obtain⟨a0,c0,rfl,hxl,hrow0⟩:=Row.read (facts _ _ h0).2.2.2.2.2.2.2
 have F0:=facts _ _ h0
 obtain⟨q1,_,_,q4,_⟩:=F0
 have HF:=hQ facts
 have HY:=hQ hY
 have H0:=hQ h0
 clear facts hY h0 hrow0 hxl
 gi_wp2
 gi_loopw [11] (fun i wr=> ∃k:Nat,k≤rs.length∧i= .int .i64 k∧Stays W wr∧Sat ((J (cutRuns (rs.take k) lo hi)).star (WithinOwn p bs br (.slice a0 rs.length c0) rs lo hi)) wr) (fun i _=>rs.length-(intOf i).toNat)
 case atStart=>exact⟨0,Nat.zero_le _,rfl,Stays.refl _,H0.out⟩
 case round=>
  obtain⟨k,hk,rfl,hR,hs⟩:=hrel
  by_cases hlt:k<rs.length
  · obtain⟨q1,q2,q3,q4,z1,z2,z3,hr⟩:=HF.out _ _ hs
    obtain⟨a1,c1,e1,_,hrow⟩:=Row.read hr
    cases e1
    obtain⟨b,rfl,hc⟩:=hrow (by omega)
    have hk1:=(runCells_at rs k hlt).1
    have hk2:=(runCells_at rs k hlt).2
    have c1:=(hc (k*2) (by omega)).1.trans hk1
    have c2:=(hc (k*2+1) (by omega)).1.trans hk2
    have zb:=World.block_lt_of_cell? _ _ c1
    have hcat:cutRuns (rs.take (k+1)) lo hi=cutRuns (rs.take k) lo hi++(cutRun lo hi rs[k]).toList:=by
     unfold cutRuns
     rw [List.take_succ_eq_append_getElem hlt,List.filterMap_append]
     cases h:cutRun lo hi rs[k]<;>simp [h]
    have hpre:cutRuns (rs.take (k+1)) lo hi<+:cutRuns rs lo hi:=by
     unfold cutRuns
     exact(List.take_prefix _ _).filterMap _
    rw [hcat] at hpre
    have HC:=hQ hcat
    have HP:=hQ hpre
    clear hcat hpre
    have HS:=hQ hs
    clear hc hk1 hk2 hs hr hrow
    generalize rs[k]=x at*
    obtain⟨x1,x2⟩:=x
    dsimp only at c1 c2
    gi_wp2
    gi_region
    all_goals gi_wp2
    all_goals first
     | (refine⟨fun _ h=>(by cases h),?_⟩
        gi_wp2
        go_roundw
        case rel=>
         refine⟨k+1,by omega,by go_num,((hR.alloc _).drew),?_⟩
         have hn:cutRun lo hi (x1,x2)=none:=by simp only [cutRun];rw [if_neg (by omega)]
         rw [HC.out,hn]
         simpa using (HS.out.alloc _).right.drew
        case measure=>simp [intOf];omega)
     | (refine at_yield (HY.out Pr.emp (cutRuns (rs.take k) lo hi) (_,_) _ ?_ (((HS.out.alloc _).right.drew).perm (Pr.star_emp _).symm)) ?_
        · rw [← cut_list (lo:=lo) (hi:=hi) (x:=(x1,x2)) (by simp only [];omega) (by simp only [];omega) (by simp only [];omega)]
          exact HP.out
        · rintro e w' ⟨hR',(⟨rfl,hs'⟩ | ⟨rfl,hs'⟩)⟩<;>rw [Pr.star_emp] at hs'
          · refine⟨_,rfl,?_⟩
            rw [← cut_list (lo:=lo) (hi:=hi) (x:=(x1,x2)) (by simp only [];omega) (by simp only [];omega) (by simp only [];omega), ← HC.out] at hs'
            have HS':=hQ hs'
            clear hs'
            gi_wp2
            go_roundw
            case rel=>exact⟨k+1,by omega,by go_num,((hR.alloc _).drew).trans hR',HS'.out⟩
            case measure=>simp [intOf];omega
          · refine⟨_,rfl,?_⟩
            rw [← cut_list (lo:=lo) (hi:=hi) (x:=(x1,x2)) (by simp only [];omega) (by simp only [];omega) (by simp only [];omega)] at hs'
            have HS':=hQ hs'
            clear hs'
            gi_wp2
            refine bodyPost_ret (results_none rfl _ _ _) rfl ?_
            exact⟨⟨_,rfl⟩,((hR.alloc _).drew).trans hR',.inr ⟨_,HP.out,HS'.out⟩⟩)
  · gi_wp2
    go_end0
    have:k=rs.length:=by omega
    subst this
    refine⟨⟨_,rfl⟩,hR,.inl ⟨_,rfl,?_⟩⟩
    simpa using hs
end Go.Proofs.YtbobcmimkonnoaaGreat.Y2
