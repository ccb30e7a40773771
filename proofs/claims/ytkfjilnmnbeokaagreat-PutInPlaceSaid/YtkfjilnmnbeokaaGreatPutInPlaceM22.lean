/- The program's isKey, Has and Meet of ranges; the conditions stand as hypotheses. -/
import Derived.Test.YtkfjilnmnbeokaaGreatPutInPlaceM20
import Derived.Test.YtkfjilnmnbeokaaGreatPutInPlaceM03
import Derived.Test.YtkfjilnmnbeokaaGreatPutInPlaceM17
import Derived.Deep.CutRange
import Derived.Test.YtkfjilnmnbeokaaGreatPutInPlaceM13
import Derived.Test.YtkfjilnmnbeokaaGreatPutInPlaceM11
import Derived.Test.YtkfjilnmnbeokaaGreatPutInPlaceM05
import Derived.Test.YtkfjilnmnbeokaaGreatPutInPlaceM02
import Derived.Test.YtkfjilnmnbeokaaGreatPutInPlaceM10
import Derived.Test.YtkfjilnmnbeokaaGreatPutInPlaceM01
set_option maxRecDepth 100000
set_option maxHeartbeats 16000000
namespace Go.Proofs.YtkfjilnmnbeokaaGreat.E6
open ChangeShapes WideShapes ChangeAt RowKit Sl Cop D3 G2 J2 N2 P2 D5 Y5 Z5
theorem bcompare_only(ha hb:Hp)(va vb:Value)(A B:List Int)(h1:Bytes ha va A)(h2:Bytes hb vb B)(u1:U8 A)(u2:U8 B)(w:World)(l1:ha.le w)(l2:hb.le w):
 Calls Tryz.prog 100 #[va,vb] w fun e w'=>e= .returned (.int .i64 (cmpI A B))∧Only w w':=
 (bcompare_any ha hb va vb A B h1 h2 u1 u2 w l1 l2).mono fun _ _ ⟨h1,h2⟩=>⟨h1,h2 ▸ Only.refl _⟩
end Go.Proofs.YtkfjilnmnbeokaaGreat.E6
namespace Go.Proofs.YtkfjilnmnbeokaaGreat.F6
open ChangeShapes WideShapes ChangeAt RowKit Sl Cop G2 J2 N2 X3 Z3 D4 J4 Y5
end Go.Proofs.YtkfjilnmnbeokaaGreat.F6
namespace Go.Cop
def stemN(k:List Int):Nat→Nat
 | 0=>0
 | n+1=>if k.getD n 0=255 then stemN k n else n+1
end Go.Cop
namespace Go.Proofs.YtkfjilnmnbeokaaGreat.G6
open ChangeShapes WideShapes ChangeAt RowKit Sl Cop D3 G2 J2 N2 Z5 E6
end Go.Proofs.YtkfjilnmnbeokaaGreat.G6
namespace Go.Cop
theorem skip_drop(key:List Int)(l:List ItemV)(k:Nat)(hk:k<l.length):skipR key (l.drop k)=if 0<cmpI (itemAt l k).key key then 0 else skipR key (l.drop (k+1))+1:=by
 rw [List.drop_eq_getElem_cons hk, ← itemAt_get hk];rfl
end Go.Cop
namespace Go.Proofs.YtkfjilnmnbeokaaGreat.J6
open ChangeShapes WideShapes ChangeAt RowKit Sl Cop D3 G2 J2 X3 Y3 Z3 Y5 N2 P2 Z5 E6 M2
theorem wpList_max {ops:Array Oper}{rest:List Oper}{o:Oper}{ac:Act}{Q:Exit→Act→World→Prop}{w:World}(hgd:o.guard=none)(x y:Operand)(hop:o.op= .call { callee:= .builtin .max,args:= #[x,y],argTypes:= #[3,3] })
 (hty:o.type=3) (a b n:Int) (hn:n=max a b) (hx:ac.eval x= .int .i64 a) (hy:ac.eval y= .int .i64 b) (hK:wpList Tryz.prog ops Q rest (ac.put o.dst (.int .i64 n)) w):wpList Tryz.prog ops Q (o :: rest) ac w:=by
 refine wpList_plain hgd fun K' hK'=> ?_
 subst hn;unfold Oper.wp execOp;simp only [hop,resolve,invoke,builtin,Sem.run_bind,Sem.run_pure,Result.andThen_ok,List.map_toArray,List.map_cons,List.map_nil,hx,hy,hty];by_cases h:a<b
 · have e:max a b=b:=by omega
   rw [e] at hK;go_simp;exact hK' _ _ hK
 · have e:max a b=a:=by omega
   rw [e] at hK;go_simp;exact hK' _ _ hK
theorem route_any(ha hb:Hp)(pv kv:Value)(g:PageV)(hp:PageIn ha pv g)(hfit:Fit g)(hu8:∀x∈g.items,U8 x.key)(key:List Int)(hk:Bytes hb kv key)(uk:U8 key)(w:World)(la:ha.le w)(lb:hb.le w):
 Calls Tryz.prog 53 #[pv,kv] w fun e w'=>e= .returned (.int .i64 (routeK g.items key))∧Only w w':=by
 obtain⟨vi,vd,rfl,hit,hb'⟩:=hp;obtain⟨tad,tcd,rfl⟩:=bytes_shape hb';obtain⟨tai,tci,rfl,_,rd⟩:=items_rd hit;obtain⟨kak,kck,rfl⟩:=bytes_shape hk;have hn8:(g.items.length:Int)≤8:=by have:=hfit.n;omega
 have HH:=hQ (And.intro hk (And.intro uk (And.intro hu8 hfit)));have RD:=hQ rd;have HL:=hQ (And.intro la lb);clear rd hit hb' hk uk hu8 hfit la lb;have HA:=hQ (HL.out.1.only ((Only.refl w).alloc (pageC g.kind g.level (.slice tai g.items.length tci) (.slice tad g.data.length tcd) g.next)))
 have HB:=hQ (HL.out.2.only ((Only.refl w).alloc (pageC g.kind g.level (.slice tai g.items.length tci) (.slice tad g.data.length tcd) g.next)));have HO:=hQ ((Only.refl w).alloc (pageC g.kind g.level (.slice tai g.items.length tci) (.slice tad g.data.length tcd) g.next))
 have c0:(w.alloc (pageC g.kind g.level (.slice tai g.items.length tci) (.slice tad g.data.length tcd) g.next)).cell? ⟨w.heap.size,2,none⟩=some (.slice tai g.items.length tci):=by simp
 go_enter Tryz.func53,Tryz.ntmps53
 go_wp2;generalize hw1:w.alloc (pageC g.kind g.level (.slice tai g.items.length tci) (.slice tad g.data.length tcd) g.next)=w1 at*;have FC:=hQ (fun(wr:World) (ho:Only w1 wr)=>(ho.cell c0:wr.cell? ⟨w.heap.size,2,none⟩=some (.slice tai g.items.length tci)));clear c0 hw1;generalize w.heap.size=J at*
 go_loopw [5] (fun t wr=> ∃k:Nat,1≤k∧(k≤g.items.length∨k=1)∧t= .int .i64 k∧Only w1 wr∧Hid (routeK g.items key=(k-1)+skipR key (g.items.drop k))) (fun t _=>g.items.length+1-(intOf t).toNat)
 case atStart=>exact⟨1,Nat.le_refl _,.inr rfl,rfl,Only.refl _,hQ (by unfold routeK;rw [← List.drop_one];omega)⟩
 case round=>
  obtain⟨k,hk1,hk2,rfl,ho,heq⟩:=hrel;rename World=>wr
  have c0:=FC.out wr ho;have cz:=World.block_lt_of_cell? _ _ c0;simp only at cz;rcases Nat.lt_or_ge k g.items.length with hlt | hge
  · obtain⟨b,off,ak,ck,av,cv,rfl,hbk,_,hc⟩:=RD.out k hlt
    obtain⟨d0,_,_,_⟩:=hc wr (HA.out.only ho);have dz:=World.block_lt_of_cell? _ _ d0;simp only at dz;rw [← itemAt_get hlt] at hbk d0;have BC:=hQ (bcompare_any ha hb _ _ (itemAt g.items k).key key hbk HH.out.1 (HH.out.2.2.1 _ (getD_mem hlt)) HH.out.2.1 wr (HA.out.only ho) (HB.out.only ho));have HEQ:=hQ (heq.out.trans (by rw [skip_drop key g.items k hlt]));have HO1:=hQ ho
    have hkl:(k:Int)<(g.items.length:Int):=by omega
    clear hbk hc heq ho hk2;generalize itemAt g.items k=y at*;by_cases hcmp:0<cmpI y.key key
    · have HQ:=hQ (HEQ.out.trans (by rw [if_pos hcmp]))
      go_wp2_with fail
      refine BC.out.mono ?_;rintro e w2 ⟨rfl,rfl⟩;go_wp2;go_ret;rw [HQ.out];exact⟨congrArg (fun z=>Ending.returned (Value.int .i64 z)) (by omega),HO.out.trans HO1.out⟩
    · have HQ:=hQ (HEQ.out.trans (by rw [if_neg hcmp]))
      go_wp2_with fail
      refine BC.out.mono ?_;rintro e w2 ⟨rfl,rfl⟩;go_wp2;go_roundw
      case rel=>exact⟨k+1,by omega,.inl (by omega),congrArg (Value.int .i64) (by omega),HO1.out,hQ (by rw [HQ.out];omega)⟩
      case measure=>simp [intOf];omega
  · obtain⟨m,hm⟩:∃m,m=max ((g.items.length:Int)-1) 0:=⟨_,rfl⟩
    have HQ:=hQ (show ((routeK g.items key:Nat):Int)=m from by
     rw [heq.out,List.drop_eq_nil_of_le hge]
     show (((k-1)+0:Nat):Int)=m
     omega)
    have HM:=hQ hm;have HO1:=hQ ho;have hkl:¬(k:Int)<(g.items.length:Int):=by omega
    clear hm heq ho hk2;go_wp2_with (refine wpList_max rfl _ _ rfl rfl ((g.items.length:Int)-1) 0 m HM.out rfl rfl ?_)
    go_ret;rw [HQ.out];exact⟨rfl,HO.out.trans HO1.out⟩
end Go.Proofs.YtkfjilnmnbeokaaGreat.J6
namespace Go.Cop
theorem search_drop(key:List Int)(l:List ItemV)(k:Nat)(hk:k<l.length):searchK key (l.drop k)=if 0≤cmpI (itemAt l k).key key then(0,cmpI (itemAt l k).key key == 0) else((searchK key (l.drop (k+1))).1+1,(searchK key (l.drop (k+1))).2):=by
 rw [List.drop_eq_getElem_cons hk, ← itemAt_get hk];rfl
end Go.Cop
namespace Go.Proofs.YtkfjilnmnbeokaaGreat.K6
open ChangeShapes WideShapes ChangeAt RowKit Sl Cop D3 G2 J2 X3 Y3 Z3 Y5 N2 P2 Z5 E6 M2
theorem search_any(ha hb:Hp)(pv kv:Value)(g:PageV)(hp:PageIn ha pv g)(hfit:Fit g)(hu8:∀x∈g.items,U8 x.key)(key:List Int)(hk:Bytes hb kv key)(uk:U8 key)(w:World)(la:ha.le w)(lb:hb.le w):
 Calls Tryz.prog 66 #[pv,kv] w fun e w'=>e= .returned (.tuple #[.int .i64 (searchK key g.items).1,.bool (searchK key g.items).2])∧Only w w':=by
 obtain⟨vi,vd,rfl,hit,hb'⟩:=hp;obtain⟨tad,tcd,rfl⟩:=bytes_shape hb';obtain⟨tai,tci,rfl,_,rd⟩:=items_rd hit;obtain⟨kak,kck,rfl⟩:=bytes_shape hk;have hn8:(g.items.length:Int)≤8:=by have:=hfit.n;omega
 have HH:=hQ (And.intro hk (And.intro uk (And.intro hu8 hfit)));have RD:=hQ rd;have HL:=hQ (And.intro la lb);clear rd hit hb' hk uk hu8 hfit la lb;have HA:=hQ (HL.out.1.only ((Only.refl w).alloc (pageC g.kind g.level (.slice tai g.items.length tci) (.slice tad g.data.length tcd) g.next)))
 have HB:=hQ (HL.out.2.only ((Only.refl w).alloc (pageC g.kind g.level (.slice tai g.items.length tci) (.slice tad g.data.length tcd) g.next)));have HO:=hQ ((Only.refl w).alloc (pageC g.kind g.level (.slice tai g.items.length tci) (.slice tad g.data.length tcd) g.next))
 have c0:(w.alloc (pageC g.kind g.level (.slice tai g.items.length tci) (.slice tad g.data.length tcd) g.next)).cell? ⟨w.heap.size,2,none⟩=some (.slice tai g.items.length tci):=by simp
 go_enter Tryz.func66,Tryz.ntmps66
 go_wp2;generalize hw1:w.alloc (pageC g.kind g.level (.slice tai g.items.length tci) (.slice tad g.data.length tcd) g.next)=w1 at*;have FC:=hQ (fun(wr:World) (ho:Only w1 wr)=>(ho.cell c0:wr.cell? ⟨w.heap.size,2,none⟩=some (.slice tai g.items.length tci)));clear c0 hw1;generalize w.heap.size=J at*
 go_loopw [12] (fun t wr=> ∃k:Nat,k≤g.items.length∧t= .int .i64 k∧Only w1 wr∧Hid (searchK key g.items=(k+(searchK key (g.items.drop k)).1,(searchK key (g.items.drop k)).2))) (fun t _=>g.items.length-(intOf t).toNat)
 case atStart=>exact⟨0,Nat.zero_le _,rfl,Only.refl _,hQ (by rw [List.drop_zero,Nat.zero_add])⟩
 case round=>
  obtain⟨k,hk2,rfl,ho,heq⟩:=hrel;rename World=>wr
  have c0:=FC.out wr ho;have cz:=World.block_lt_of_cell? _ _ c0;simp only at cz;rcases Nat.lt_or_ge k g.items.length with hlt | hge
  · obtain⟨b,off,ak,ck,av,cv,rfl,hbk,_,hc⟩:=RD.out k hlt
    obtain⟨d0,d1,d2,d3⟩:=hc wr (HA.out.only ho);have dz:=World.block_lt_of_cell? _ _ d0;simp only at dz;rw [← itemAt_get hlt] at hbk d0 d1 d2 d3;have HEQ:=hQ (heq.out.trans (by rw [search_drop key g.items k hlt]));have hkl:(k:Int)<(g.items.length:Int):=by omega
    have uy:=HH.out.2.2.1 _ (getD_mem hlt);generalize itemAt g.items k=y at*
    have BC:=hQ (bcompare_any ha hb _ _ y.key key hbk HH.out.1 uy HH.out.2.1 _ ((HA.out.only ho).only ((Only.refl wr).alloc (.cells #[.slice ak y.key.length ck,.slice av y.value.length cv,.int .i64 y.child,.int .i64 y.size] 89))) ((HB.out.only ho).only ((Only.refl wr).alloc (.cells #[.slice ak y.key.length ck,.slice av y.value.length cv,.int .i64 y.child,.int .i64 y.size] 89))))
    have HO1:=hQ (ho.alloc (.cells #[.slice ak y.key.length ck,.slice av y.value.length cv,.int .i64 y.child,.int .i64 y.size] 89));clear hbk hc heq ho hk2 uy;generalize cmpI y.key key=q at*;by_cases hcmp:0≤q
    · have HQ:=hQ (HEQ.out.trans (by rw [if_pos hcmp]))
      go_wp2_with fail
      refine BC.out.mono ?_;rintro e w2 ⟨rfl,rfl⟩;go_wp2;go_ret2;rw [HQ.out];exact⟨by simp,HO.out.trans HO1.out⟩
    · have HQ:=hQ (HEQ.out.trans (by rw [if_neg hcmp]))
      go_wp2_with fail
      refine BC.out.mono ?_;rintro e w2 ⟨rfl,rfl⟩;go_wp2;go_roundw
      case rel=>exact⟨k+1,by omega,congrArg (Value.int .i64) (by omega),HO1.out,hQ (by rw [HQ.out];exact congrArg (fun z=>(z,_)) (by omega))⟩
      case measure=>simp [intOf];omega
  · have hke:k=g.items.length:=by omega
    have HQ:=hQ (show searchK key g.items=(g.items.length,false) from by
     rw [heq.out,List.drop_eq_nil_of_le hge,hke]
     rfl)
    have HO1:=hQ ho;clear heq ho hk2;subst hke;go_wp2;go_ret2;rw [HQ.out];exact⟨rfl,HO.out.trans HO1.out⟩
end Go.Proofs.YtkfjilnmnbeokaaGreat.K6
namespace Go.Cop
end Go.Cop
namespace Go.Sl
theorem RowIn.take {h:Hp}{k:Nat}{a:Option Addr}{n c:Nat}{xs:List Value}(hr:RowIn h k (.slice a n c) n xs)(m:Nat)(hm:m≤n):RowIn h k (.slice a m m) m (xs.take (m*k)):=by
 obtain⟨hl,a',c',e,h1,h2,h3⟩:=hr;cases e;have hmk:m*k≤n*k:=Nat.mul_le_mul_right k hm;refine⟨by rw [List.length_take];omega,a,m,rfl,Nat.le_refl _,by omega,fun h0=> ?_⟩;obtain⟨b,off,e,hc⟩:=h3 (by omega);refine⟨b,off,e,fun i hi=> ?_⟩;rw [hc i (by omega),List.getElem?_take,if_pos hi]
end Go.Sl
namespace Go.Proofs.YtkfjilnmnbeokaaGreat.L6
open ChangeShapes WideShapes ChangeAt RowKit Sl Cop D3 V3 G2 J2 N2 P2 Z5 E6 G6 X3 Y3
theorem bytes_take {h:Hp}{a:Option Addr}{k:List Int}{c:Nat}(hk:Bytes h (.slice a k.length c) k)(m:Nat)(hm:m≤k.length):Bytes h (.slice a m m) (k.take m):=by
 have:=hk.take m hm
 unfold Bytes;rw [List.length_take,Nat.min_eq_left hm,List.map_take];rwa [Nat.mul_one] at this
theorem fresh_room(h:Hp)(v:Value)(l:List Int)(hx:Bytes h v l)(hn:l.length≤140737488355000)(F:Pr)(w:World)(hF:Sat ((Pr.own h).star F) w):
 Calls Tryz.prog 185 #[v,.int .i64 1] w fun e w'=> ∃o,e= .returned o∧Stays w w'∧Sat ((BytesRow o l).star ((Pr.own h).star F)) w':=by
 obtain⟨a,c,rfl,rd⟩:=bytes_rd hx;obtain⟨i0,hi,hz0,hz1,hz2⟩:=info_parts infoByte;obtain⟨Z,hZ⟩:∃Z:List Value,Z=List.replicate (l.length+1) (Value.int .u8 0):=⟨_,rfl⟩;have hZl:Z.length=l.length+1:=by rw [hZ];simp
 have hmk:∀wx:World,(Instr.makeSlice 39 (.int .i64 (l.length:Int)) (.int .i64 ((l.length:Int)+1))).run Tryz.prog wx= .ok (.slice (some ⟨wx.heap.size,0,none⟩) l.length (l.length+1)) (wx.alloc (.cells Z.toArray 5)):=by
  intro wx;have:=run_make (P:=Tryz.prog) wx 39 5 i0 (.int .u8 0) Tryz.underlying39 hi hz0 .i64 .i64 l.length ((l.length:Int)+1) (by omega) (by omega) (by rw [hz2];omega) (by omega)
  rw [hz1,Int.toNat_natCast,show ((l.length:Int)+1).toNat=l.length+1 by omega,Nat.mul_one,show (Value.int .u8 0).cells= #[Value.int .u8 0] from rfl,made_rep, ← hZ] at this;exact this
 have hn2:(l.length:Int)≤140737488355000:=by omega
 have h2:=hF.alloc (.cells Z.toArray 5);have hle:=h2.right.own;have hsz:(Tryz.prog.info? 5).map (·.size)=some 1:=by rw [hi,Option.map_some,hz1]
 have hpos:0<(l.map (Value.int .u8)).length→(some (⟨w.heap.size,0,none⟩:Addr)=some ⟨w.heap.size,0,none⟩∧∃ad,a=some ad∧∀j u,(l.map (Value.int .u8))[j]? =some u→(w.alloc (.cells Z.toArray 5)).cell? (ad.add j)=some u):=by
  intro h0;rw [List.length_map] at h0;obtain⟨b,off,e0,_⟩:=rd 0 h0;refine⟨rfl,⟨b,off,none⟩,e0,fun j u hj=> ?_⟩;obtain⟨hj1,hj2⟩:=List.getElem?_eq_some_iff.1 hj;rw [List.length_map] at hj1;obtain⟨b2,off2,e,hc⟩:=rd j hj1;rw [e0] at e;cases e;have:=hc _ hle
  rw [show (⟨b,off,none⟩:Addr).add j=⟨b,off+j,none⟩ by unfold Addr.add;simp,this, ← hj2,List.getElem_map,List.getD_eq_getElem?_getD,List.getElem?_eq_getElem hj1];rfl
 have HPOS:=hQ hpos;have H2:=hQ h2;have hZL:=hQ hZl;have HZ:=hQ hZ;have HN:=hQ hn;have HB:=hQ (show Below w.heap.size w (w.alloc (.cells Z.toArray 5)) from(Below.refl w.heap.size w).alloc (Nat.le_refl _) _);clear hF hx h2 rd hle hpos hZ hZl;go_enter Tryz.func185,Tryz.ntmps185
 go_wp2_with
  (refine wpList_copy_splice rfl _ _ _ _ rfl 5 Tryz.underlying39 hsz _ _ _ _ _ _ rfl rfl w.heap.size 0 Z 5 H2.out.pts_heap (l.map (Value.int .u8)) (by simp) HPOS.out (by rw [hZL.out];simp) (by simp [Value.oneCell']) w.heap.size w HB.out (Nat.le_refl _) ?_
   intro w4 hg4 hb4
   have HG4:=hQ (And.intro hg4.out hb4)
   clear hg4 hb4)
 go_ret;obtain⟨g1,g2⟩:=HG4.out;refine⟨_,rfl,Stays.of_below g2,?_⟩
 have h3:=H2.out.put g1 fun k hk hne=>by
  have hk2:k<w.heap.size:=by simp at hk;omega
  rw [g2.block k hk2];exact(Below.heap_alloc w _ k hk2).symm
 refine Row.mk' (sp:= [.int .u8 0]) (by simp) (by simp) (by omega) (by have:=HN.out;simp only [maxLen];omega) ?_
 have e1:splice Z 0 (l.map (Value.int .u8))=l.map (Value.int .u8)++ [.int .u8 0]:=by
  unfold splice;rw [List.take_zero,List.nil_append,Nat.zero_add,List.length_map,HZ.out,List.drop_replicate,show l.length+1-l.length=1 by omega];rfl
 rw [← e1];exact h3
end Go.Proofs.YtkfjilnmnbeokaaGreat.L6
