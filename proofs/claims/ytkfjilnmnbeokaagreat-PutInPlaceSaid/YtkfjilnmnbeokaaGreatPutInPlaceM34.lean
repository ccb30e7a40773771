/- What both loaded vaults tell is the same; the conditions stand as hypotheses. -/
import Derived.Test.YtkfjilnmnbeokaaGreatPutInPlaceM32
import Derived.Test.YtkfjilnmnbeokaaGreatPutInPlaceM03
import Derived.Test.YtkfjilnmnbeokaaGreatPutInPlaceM22
import Derived.Test.YtkfjilnmnbeokaaGreatPutInPlaceM20
import Derived.Test.YtkfjilnmnbeokaaGreatPutInPlaceM11
import Derived.Test.YtkfjilnmnbeokaaGreatPutInPlaceM05
import Derived.BigQuiet
import Derived.Deep.QuietTactic
import Derived.Lib.SmallJoins
import Derived.Test.YtkfjilnmnbeokaaGreatPutInPlaceM13
import Derived.Test.YtkfjilnmnbeokaaGreatPutInPlaceM29
import Derived.Test.YtkfjilnmnbeokaaGreatPutInPlaceM18
import Derived.Test.YtkfjilnmnbeokaaGreatPutInPlaceM01
set_option maxRecDepth 100000
set_option maxHeartbeats 16000000
namespace Go.Proofs.YtkfjilnmnbeokaaGreat.E8
open ChangeShapes WideShapes ChangeAt RowKit Sl Cop M3 V3 M4 Q4 D7 L7 U7 N7 Y7
structure Right(cs:List Int)(on:Int→Option PageV):Prop where
 ok:OnOk cs on
 full:∀n,cntL cs n≠0→∃g,on n=some g
 n2:cs.length≤65536
end Go.Proofs.YtkfjilnmnbeokaaGreat.E8
namespace Go.Proofs.YtkfjilnmnbeokaaGreat.F8
open ChangeShapes WideShapes ChangeAt RowKit Sl Cop D3 V3 G2 J2 N2 X3 Y3 U4 Q5 Z3 U7
def markB(i:Nat):Int:=bits .xor .i64 165 (i:Int) % 256
def spareL(l:List Int):List Int:=l++(List.range 64).map fun i=>markB (l.length+i)
theorem spareL_len(l:List Int):(spareL l).length=l.length+64:=by simp [spareL]
theorem spareL_low {l:List Int}{k:Nat}(h:k<l.length):(spareL l)[k]'(by rw [spareL_len];omega)=l.getD k 0:=by
 unfold spareL;rw [List.getElem_append_left h];simp [h]
theorem spareL_high {l:List Int}{k:Nat}(h:l.length≤k)(h2:k<l.length+64):(spareL l)[k]'(by rw [spareL_len];omega)=markB k:=by
 unfold spareL;rw [List.getElem_append_right h];simp only [List.getElem_map,List.getElem_range];rw [show l.length+(k-l.length)=k by omega]
abbrev WholeRow(b:Nat)(l:List Int):Pr:=Row 5 1 (.slice (some ⟨b,0,none⟩) (l.length+64) (l.length+64)) (l.length+64) ((spareL l).map (Value.int .u8))
theorem row_made1 {F:Pr}{w:World}(T:Nat)(z:Value)(n:Nat)(hn:n≤maxLen)(h:Sat F w):
 Sat ((Row T 1 (.slice (some ⟨w.heap.size,0,none⟩) n n) n (List.replicate n z)).star F) (w.alloc (.cells (madeCells #[z] n) T)):=row_made T z n hn h
theorem spare_any(h:Hp)(v:Value)(l:List Int)(F:Pr)(w:World)(hF:Sat ((Pr.own h).star F) w)(hx:Bytes h v l)(hn:l.length≤140737488351232):
 Calls Tryz.prog 49 #[v] w fun e w'=> ∃b,e= .returned (.slice (some ⟨b,0,none⟩) l.length (l.length+64))∧Sat ((WholeRow b l).star ((Pr.own h).star F)) w'∧Stays w w':=by
 obtain⟨a,c,rfl,r1⟩:=bytes_rd hx;obtain⟨i0,hi,hz0,hz1,hz2⟩:=info_parts infoByte
 have hmk:∀wx:World,(Instr.makeSlice 39 (.int .i64 ((l.length:Int)+64)) (.int .i64 ((l.length:Int)+64))).run Tryz.prog wx= .ok (.slice (some ⟨wx.heap.size,0,none⟩) (l.length+64) (l.length+64)) (wx.alloc (.cells (madeCells #[.int .u8 0] (l.length+64)) 5)):=by
  intro wx;have:=run_make (P:=Tryz.prog) wx 39 5 i0 (.int .u8 0) Tryz.underlying39 hi hz0 .i64 .i64 ((l.length:Int)+64) ((l.length:Int)+64) (by omega) (by omega) (by rw [hz2];omega) (by omega)
  rw [hz1,show ((l.length:Int)+64).toNat=l.length+64 by omega,Nat.mul_one] at this;exact this
 have h2:=hQ (row_made1 5 (.int .u8 0) (l.length+64) (by simp only [maxLen];omega) hF);have R1:=hQ r1;have hn0:(l.length:Int)≤140737488351232:=by omega
 clear hF hx r1;go_enter Tryz.func49,Tryz.ntmps49
 go_wp2;go_loopw [4] (fun i wr=> ∃(k:Nat) (zs:List Int),k≤l.length+64∧i= .int .i64 k∧Stays w wr∧zs.length=l.length+64∧Hid (∀i,i<k→zs[i]? =(spareL l)[i]?)∧Sat ((Row 5 1 (.slice (some ⟨w.heap.size,0,none⟩) (l.length+64) (l.length+64)) (l.length+64) (zs.map (Value.int .u8))).star ((Pr.own h).star F)) wr) (fun i _=>l.length+64-(intOf i).toNat)
 case atStart=>
  refine⟨0,List.replicate (l.length+64) 0,Nat.zero_le _,rfl,(Stays.refl w).alloc _,by simp,hQ (fun i hi=>absurd hi (by omega)),?_⟩;rw [List.map_replicate];exact h2.out
 case round=>
  obtain⟨k,zs,hk,rfl,hst,hzl,hfill,hs⟩:=hrel;have HZL:=hQ hzl;clear hzl;rcases Nat.lt_or_ge k (l.length+64) with hlt | hge
  · obtain⟨_,_,e,_,hc⟩:=Row.read hs
    cases e;obtain⟨b,eb,hd⟩:=hc (by omega);cases eb
    have k0:∃u,wr.cell? ⟨w.heap.size,k,none⟩=some u:=by
     have:=(hd k (by omega)).1
     rw [List.getElem?_eq_getElem (by rw [List.length_map,HZL.out];omega)] at this;exact⟨_,this⟩
    obtain⟨u,k0⟩:=k0;have kf:=(hd k (by omega)).2;have kz:=World.block_lt_of_cell? _ _ k0;clear hc hd;have HS:=hQ hs;have HSTK:=hQ hst;clear hst;rcases Nat.lt_or_ge k l.length with hl1 | hl1
    · obtain⟨b,off,rfl,c1⟩:=R1.out k hl1
      have q1:=c1 wr hs.right.own;have HLO:=hQ (spareL_low hl1);clear c1 hs;generalize l.getD k 0=x at*;go_wp2;refine⟨⟨k+1,zs.set k (x),by omega,congrArg (Value.int .i64) (by omega),HSTK.out.setCell _ _,by rw [List.length_set];exact HZL.out,hQ ?_,?_⟩,by simp [intOf];omega⟩
      · have e:x=(spareL l)[k]'(by rw [spareL_len];omega):=HLO.out.symm
        rw [e];exact fill_step (by rw [spareL_len];exact HZL.out) (by rw [spareL_len];exact hlt) hfill.out
      · rw [List.map_set]
        exact Row.set HS.out k (by rw [List.length_map,HZL.out];exact hlt) _
    · have HHI:=hQ (spareL_high hl1 hlt)
      clear hs;go_wp2;refine⟨⟨k+1,zs.set k (bits .xor .i64 165 (k:Int) % 256),by omega,congrArg (Value.int .i64) (by omega),HSTK.out.setCell _ _,by rw [List.length_set];exact HZL.out,hQ ?_,?_⟩,by simp [intOf];omega⟩
      · have e:bits .xor .i64 165 (k:Int) % 256=(spareL l)[k]'(by rw [spareL_len];omega):=HHI.out.symm
        rw [e];exact fill_step (by rw [spareL_len];exact HZL.out) (by rw [spareL_len];exact hlt) hfill.out
      · rw [List.map_set]
        exact Row.set HS.out k (by rw [List.length_map,HZL.out];exact hlt) _
  · have hkl:k=l.length+64:=by omega
    subst hkl;have e1:zs=spareL l:=filled (by rw [spareL_len];exact HZL.out) (by intro i hi;rw [spareL_len] at hi;exact hfill.out i hi);subst e1;have HS:=hQ hs;have HSTK:=hQ hst;clear hs hst hfill HZL;go_wp2;go_ret;exact⟨w.heap.size,rfl,HS.out,HSTK.out⟩
end Go.Proofs.YtkfjilnmnbeokaaGreat.F8
namespace Go.Proofs.YtkfjilnmnbeokaaGreat.J8
open ChangeShapes WideShapes ChangeAt RowKit Sl Cop D3 V3 G2 J2 N2 X3 Y3 Z3 J4 F8
theorem whole_bytes {b:Nat}{l:List Int}{hx:Hp}(h:WholeRow b l hx):Bytes hx (.slice (some ⟨b,0,none⟩) l.length (l.length+64)) l:=by
 obtain⟨_,a,c,e,h1,h2,h3⟩:=Row.rowIn h;cases e;refine⟨by simp,some ⟨b,0,none⟩,l.length+64,rfl,by omega,h2,fun _=>⟨b,0,rfl,fun i hi=> ?_⟩⟩;obtain⟨b',off,eb,hc⟩:=h3 (by omega);cases eb;rw [hc i (by omega)];have hi2:i<l.length:=by omega
 simp [spareL,List.getElem?_append_left,hi2]
theorem whole_at {b:Nat}{l:List Int}{F:Pr}{w:World}(h:Sat ((WholeRow b l).star F) w){k:Nat}(h1:l.length≤k)(h2:k<l.length+64):w.cell? ⟨b,k,none⟩=some (.int .u8 (markB k)):=by
 obtain⟨_,_,e,_,hc⟩:=Row.read h;cases e;obtain⟨b',eb,hd⟩:=hc (by omega);cases eb;rw [(hd k (by omega)).1,List.getElem?_map,List.getElem?_eq_getElem (by rw [spareL_len];exact h2),spareL_high h1 h2];rfl
theorem kept_any(b:Nat)(l:List Int)(h:Hp)(v:Value)(hx:Bytes h v l)(hn:l.length≤140737488351232)(F:Pr)(w:World)(hF:Sat ((WholeRow b l).star ((Pr.own h).star F)) w):
 Calls Tryz.prog 50 #[.slice (some ⟨b,0,none⟩) l.length (l.length+64),v] w fun e w'=>e= .returned (.bool true)∧Only w w':=by
 obtain⟨a,ha,h2⟩:=hF.toOwn;have EQ:=hQ (eq_same a h _ v l (whole_bytes ha) hx (by omega) w h2.own h2.right.own);obtain⟨av,cv,rfl⟩:=bytes_shape hx;have HF:=hQ hF;have hn0:(l.length:Int)≤140737488351232:=by omega
 clear hF ha h2 hx;go_enter Tryz.func50,Tryz.ntmps50
 go_wp2_with fail
 refine EQ.out.mono ?_;rintro e w1 ⟨rfl,ho1⟩;go_wp2_with fail
 go_loopw [6] (fun i wr=> ∃k:Nat,l.length≤k∧k≤l.length+64∧i= .int .i64 k∧Only w wr) (fun i _=>l.length+64-(intOf i).toNat)
 case atStart=>exact⟨l.length,Nat.le_refl _,by omega,rfl,ho1⟩
 case round=>
  obtain⟨k,hk1,hk2,rfl,ho⟩:=hrel;rcases Nat.lt_or_ge k (l.length+64) with hlt | hge
  · have q0:=whole_at (HF.out.only ho) hk1 hlt
    unfold markB at q0;go_wp2;go_roundw
    case rel=>exact⟨k+1,by omega,by omega,congrArg (Value.int .i64) (by omega),ho⟩
    case measure=>simp [intOf];omega
  · have hkl:k=l.length+64:=by omega
    subst hkl;go_wp2;go_ret;exact⟨rfl,ho⟩
end Go.Proofs.YtkfjilnmnbeokaaGreat.J8
namespace Go.Proofs.YtkfjilnmnbeokaaGreat.K8
open ChangeShapes WideShapes ChangeAt RowKit Sl Cop D3 V3 G2 J2 N2 X3 Y3 Z3 Y5 J4 F8 J8
end Go.Proofs.YtkfjilnmnbeokaaGreat.K8
namespace Go.Proofs.YtkfjilnmnbeokaaGreat.L8
open ChangeShapes WideShapes ChangeAt RowKit Sl Cop D3 V3 G2 J2 N2 X3 Y3 Z3 Y5 K7 W7 F8 J8 K8 N7 X7 Y7 B8
def x17(z:Int):Int:=bits .xor .u8 z 17
def xorK(k:Nat)(l:List Int):List Int:=(l.take k).map x17++l.drop k
theorem chain_len {look:Int→Option PageV}{N:Nat}:∀(k:Nat) (out:List Int) (n:Int),out.length≤N→(chainL look N k out n).1.length≤N
 | 0,out,n,h=>by unfold chainL;exact h
 | k+1,out,n,h=>by
   unfold chainL;split
   · exact h
   · split
     · simp
     · split
       · simp
       · split
         · rename_i hc
           exact chain_len k _ _ (by have:=hc.1;rw [List.length_append];omega)
         · simp
abbrev XRow(b k:Nat)(l:List Int):Pr:=Row 5 1 (.slice (some ⟨b,0,none⟩) (l.length+64) (l.length+64)) (l.length+64) ((spareL (xorK k l)).map (Value.int .u8))
end Go.Proofs.YtkfjilnmnbeokaaGreat.L8
namespace Go.Proofs.YtkfjilnmnbeokaaGreat.M8
open ChangeShapes WideShapes ChangeAt RowKit Sl Cop D2 D3 J3 V3 G2 J2 N2 X3 Y3 M4 P5 Z3 Y5 K7 L7 F6 N7 Y7 L8
theorem zero_in:PageIn Hp.nil zeroPage zeroP:=⟨_,_,rfl,items_mk (Nat.zero_le _),RowIn.nil _ _⟩
theorem vread_any(v:Nat)(s:VaultS)(look:Int→Option PageV)(hl:N7.Looks s look)(n:Int)(F:Pr)(w:World)(hF:Sat ((VaultA v s).star F) w):
 Calls Tryz.prog 21 #[.pointer (some ⟨v,0,none⟩),.int .i64 n] w fun e w'=>
  Stays w w'∧∃pv,e= .returned (.tuple #[pv,.int .i64 (if look n=none then 15 else 0)])∧∃h',PageIn h' pv ((look n).getD zeroP)∧Sat ((Pr.own h').star ((VaultA v s).star F)) w':=by
 cases hn:look n with
 | none=>
   refine(read_none v s n F w hF (hl.none n hn)).mono ?_;rintro e w' ⟨rfl,ho⟩;exact⟨ho.st,zeroPage,by simp,Hp.nil,zero_in,by rw [own_nil,Pr.emp_star];exact hF.only ho⟩
 | some g=>
   obtain⟨h1,h2,h3,h4⟩:=hl.some n g hn;refine(read_some v s n h1 g h4 F w hF h2 h3).mono ?_;rintro e w' ⟨hst,pv,rfl,h',hp,hs⟩;exact⟨hst,pv,by simp,h',hp,hs⟩
theorem state_eq {s t:PoolS}(hc:s.counts=t.counts)(hl:s.last=t.last)(n:Int):s.state n=t.state n:=by
 obtain⟨r1,c1,l1,a1,f1⟩:=s;obtain⟨r2,c2,l2,a2,f2⟩:=t;dsimp only at hc hl;subst hc hl;rfl
end Go.Proofs.YtkfjilnmnbeokaaGreat.M8
namespace Go.Proofs.YtkfjilnmnbeokaaGreat.N8
open ChangeShapes WideShapes ChangeAt RowKit Sl Cop D2 D3 J3 M3 V3 G2 J2 X3 Y3 P5 Z3 Y5 K7 L7 P7 T7 U7 Q7 V7 C8
def tallyTo(s:PoolS)(k:Int)(m:Nat):Nat:=((List.range m).filter fun i:Nat=>s.state ((i:Int)+1) == k).length
def lastK(s:PoolS):Nat→List Bool
 | 0=>s.last
 | k+1=>(lastK s k).set k (decide (0<s.counts.getD k 0))
def gsK(s:PoolS)(gs:List PageV):Nat→List PageV
 | 0=>gs
 | k+1=>if s.counts.getD k 0=0 then(gsK s gs k).set k zeroP else gsK s gs k
end Go.Proofs.YtkfjilnmnbeokaaGreat.N8
namespace Go.Proofs.YtkfjilnmnbeokaaGreat.Q8
open ChangeShapes WideShapes ChangeAt RowKit Sl Cop D3 G2 J2 X3 Y3 M4 Z3 Y5 N4 N7 M8
def metF(M:List Int)(n:Int):Option Value:=if n∈M then some (.int .i64 1) else none
theorem page_sh {h:Hp}{pv:Value}{g:PageV}(hp:PageIn h pv g):∃(tai tad:Option Addr) (tci tcd:Nat),pv=pageV g.kind g.level (.slice tai g.items.length tci) (.slice tad g.data.length tcd) g.next:=by
 obtain⟨vi,vd,rfl,hi,hb⟩:=hp;obtain⟨a1,d1,rfl,_,_⟩:=items_rd hi;obtain⟨a2,d2,rfl⟩:=bytes_shape hb;exact⟨a1,a2,d1,d2,rfl⟩
abbrev ZP:Obj:=pageC 0 0 (.slice none 0 0) (.slice none 0 0) 0
end Go.Proofs.YtkfjilnmnbeokaaGreat.Q8
namespace Go.Proofs.YtkfjilnmnbeokaaGreat.T8
open ChangeShapes WideShapes ChangeAt RowKit Sl Cop D3 G2 J2 X3 Y3 M4 Z3 Y5 N2 N7 Z5 E6 M2 Q8
end Go.Proofs.YtkfjilnmnbeokaaGreat.T8
namespace Go.Proofs.YtkfjilnmnbeokaaGreat.V8
open ChangeShapes WideShapes ChangeAt RowKit Sl Cop D2 D3 J3 M3 V3 G2 J2 X3 Y3 P5 Z3 Y5 K7 L7 P7 T7 U7 Q7 V7 C8 N8
end Go.Proofs.YtkfjilnmnbeokaaGreat.V8
namespace Go.Cop
end Go.Cop
namespace Go.Proofs.YtkfjilnmnbeokaaGreat.X8
open ChangeShapes WideShapes ChangeAt RowKit Sl Cop D3 G2 J2 X3 Y3 M4 Z3 Y5 N2 N7 Z5 E6 Q8 T8
end Go.Proofs.YtkfjilnmnbeokaaGreat.X8
namespace Go.Proofs.YtkfjilnmnbeokaaGreat.Y8
open ChangeShapes WideShapes ChangeAt RowKit Sl Cop D2 D3 J3 M3 V3 G2 J2 X3 Y3 P5 Z3 Y5 J4 K7 L7 P7 T7 U7 Q7 V7 C8 N8
end Go.Proofs.YtkfjilnmnbeokaaGreat.Y8
namespace Go.Proofs.YtkfjilnmnbeokaaGreat.X8
open ChangeShapes WideShapes ChangeAt RowKit Sl Cop D3 G2 J2 X3 Y3 M4 Z3 Y5 N2 N7 Z5 E6 Q8 T8
end Go.Proofs.YtkfjilnmnbeokaaGreat.X8
namespace Go.Proofs.YtkfjilnmnbeokaaGreat.Z8
open ChangeShapes WideShapes ChangeAt RowKit Sl Cop D3 G2 J2 X3 Y3 M4 Z3 Y5 N2 N7 Z5 E6 M2 Q8 T8 X8
abbrev treeV(root height items:Int):Value:= .agg #[.int .i64 root,.int .i64 height,.int .i64 items]
abbrev treeC(root height items:Int):Obj:= .cells #[.int .i64 root,.int .i64 height,.int .i64 items] 38
structure EveryIn(hg:Hp):Prop where
 cells:∀w:World,hg.le w→w.cell? ⟨0,0,none⟩=some (.slice none 0 0)∧w.cell? ⟨0,1,none⟩=some (.slice none 0 0)∧w.cell? ⟨0,2,none⟩=some (.bool true)
theorem EveryIn.range {hg:Hp}:RangeIn hg (.agg #[.slice none 0 0,.slice none 0 0,.bool true]) everyR:=⟨_,_,rfl,RowIn.nil _ _,RowIn.nil _ _⟩
theorem nil_u8:U8 ([]:List Int):=fun z hz=>by cases hz
end Go.Proofs.YtkfjilnmnbeokaaGreat.Z8
namespace Go.Cop
open Go.Proofs.YtkfjilnmnbeokaaGreat.M3 Go.Proofs.YtkfjilnmnbeokaaGreat.V3 Go.Proofs.YtkfjilnmnbeokaaGreat.L7 Go.Proofs.YtkfjilnmnbeokaaGreat.N8 Go.Proofs.YtkfjilnmnbeokaaGreat.V7 Go.Proofs.YtkfjilnmnbeokaaGreat.N7 Go.Proofs.YtkfjilnmnbeokaaGreat.Y7 Go.Proofs.YtkfjilnmnbeokaaGreat.M8 Go.Proofs.YtkfjilnmnbeokaaGreat.Q4 Go.Proofs.YtkfjilnmnbeokaaGreat.D7 Go.Proofs.YtkfjilnmnbeokaaGreat.U7 Go.Proofs.YtkfjilnmnbeokaaGreat.E8 Go.Proofs.YtkfjilnmnbeokaaGreat.Q3
structure Twin(s:VaultS)(rs:PoolS)(gs:List PageV):Prop where
 cs:rs.counts=s.pool.counts
 ls:rs.last=s.pool.last
 rf:rs.refs=s.pool.refs
 gl:gs.length=s.pool.counts.length
 bare:Bare s
 pg:∀n,s.pool.state n≠1→s.pool.there n→s.on n=some (pgAt gs n)
 fit:∀n g,s.on n=some g→Fit g
 cr:∀c∈s.pool.counts,0≤c∧c≤s.pool.refs
def lookT(s:VaultS)(n:Int):Option PageV:=if s.pool.count n=0 then none else s.on n
theorem Twin.state {s:VaultS}{rs:PoolS}{gs:List PageV}(h:Twin s rs gs)(n:Int):rs.state n=s.pool.state n:=state_eq h.cs h.ls n
theorem count_eq {s t:PoolS}(hc:s.counts=t.counts)(n:Int):s.count n=t.count n:=by
 rw [count_cnt,count_cnt,hc]
theorem Twin.count {s:VaultS}{rs:PoolS}{gs:List PageV}(h:Twin s rs gs)(n:Int):rs.count n=s.pool.count n:=count_eq h.cs n
theorem state_of_count {s:PoolS}(ok:PoolOk s){n:Int}(h:s.count n≠0):s.state n≠1:=fun e=>h (count_of_free ok e)
theorem Twin.at' {s:VaultS}{rs:PoolS}{gs:List PageV}(h:Twin s rs gs)(ok:PoolOk s.pool){n:Int}(hn:s.pool.count n≠0):s.on n=some (pgAt gs n):=h.pg n (state_of_count ok hn) (there_of_count hn)
theorem Twin.looks {s:VaultS}{rs:PoolS}{gs:List PageV}(h:Twin s rs gs)(ok:PoolOk s.pool):Go.Proofs.YtkfjilnmnbeokaaGreat.N7.Looks s (lookT s):=by
 constructor
 · intro n hn
   unfold lookT at hn;by_cases hc:s.pool.count n=0
   · exact hc
   · rw [if_neg hc,h.at' ok hc] at hn
     cases hn
 · intro n g hn
   unfold lookT at hn;by_cases hc:s.pool.count n=0
   · rw [if_pos hc] at hn;cases hn
   · rw [if_neg hc] at hn
     have ht:=there_of_count hc;have:=ok.n2
     exact⟨⟨ht.1,by have:=ht.2;omega⟩,hc,hn,h.fit n g hn⟩
theorem pgAt_set {gs:List PageV}{n m:Int}(hn:1≤n∧n≤gs.length)(hm:1≤m∧m≤gs.length)(g:PageV):pgAt (gs.set (n.toNat-1) g) m=if m=n then g else pgAt gs m:=by
 unfold pgAt;rw [List.getD_eq_getElem?_getD];by_cases h:m=n
 · subst h
   rw [List.getElem?_set_self (by omega),if_pos rfl];rfl
 · rw [List.getElem?_set_ne (by omega),if_neg h, ← List.getD_eq_getElem?_getD]
theorem Twin.make {t:VaultS}{rs:PoolS}{gs:List PageV}(h:Twin t rs gs)(ok:PoolOk t.pool){n:Int}(hn:t.pool.state n=1){g:PageV}(hg:Fit g):
 Twin (t.make n g) { rs with counts:=rs.counts.set (n.toNat-1) 1 } (gs.set (n.toNat-1) g):=by
 have h0:=count_of_free ok hn;have ht:=there_of_state (by omega:t.pool.state n≠0)
 have ec:(t.make n g).pool.counts=t.pool.counts.set (n.toNat-1) 1:=by
  show t.pool.counts.set (n.toNat-1) (t.pool.count n+1)=_
  rw [h0];rfl
 have hon:∀m,(t.make n g).on m=if m=n then some g else t.on m:=fun m=>rfl
 refine⟨by rw [ec, ← h.cs],h.ls,h.rf,?_,h.bare.make hn h0 g,?_,?_,?_⟩
 · rw [ec,List.length_set,List.length_set];exact h.gl
 · intro m hm hth
   have hth2:t.pool.there m:=did_there.1 hth;have hs:(t.make n g).pool.state m=if m=n then stateOf (t.pool.count n+1) (t.pool.lasts n) else t.pool.state m:=did_state ht
   rw [hon,pgAt_set ⟨ht.1,by rw [h.gl];exact ht.2⟩ ⟨hth2.1,by rw [h.gl];exact hth2.2⟩];by_cases he:m=n
   · rw [if_pos he,if_pos he]
   · rw [if_neg he] at hs
     rw [if_neg he,if_neg he];exact h.pg m (hs ▸ hm) hth2
 · intro m g2 hm
   rw [hon] at hm;by_cases he:m=n
   · rw [if_pos he] at hm;cases hm;exact hg
   · rw [if_neg he] at hm;exact h.fit m g2 hm
 · intro c hc
   rw [ec] at hc;rcases List.mem_or_eq_of_mem_set hc with hc | rfl
   · exact h.cr c hc
   · have:=ok.r1
     exact⟨by omega,by show (1:Int)≤t.pool.refs;omega⟩
theorem Twin.move {a b:VaultS}{rs:PoolS}{gs:List PageV}(h:Twin a rs gs)(hc:a.pool.counts=b.pool.counts)(hl:a.pool.last=b.pool.last)(hr:a.pool.refs=b.pool.refs)(ho:a.on=b.on):Twin b rs gs:=by
 have hs:∀n,b.pool.state n=a.pool.state n:=fun n=>(state_eq hc hl n).symm
 have ht:∀n,b.pool.there n↔a.pool.there n:=fun n=>by unfold PoolS.there;rw [hc]
 exact⟨by rw [h.cs,hc],by rw [h.ls,hl],by rw [h.rf,hr],by rw [h.gl,hc],fun n hn=>by rw [← ho];exact h.bare n (by rw [← hs];exact hn),fun n h1 h2=>by rw [← ho];exact h.pg n (by rw [← hs];exact h1) ((ht n).1 h2),fun n g hg=>h.fit n g (by rw [ho];exact hg),by rw [← hc, ← hr];exact h.cr⟩
theorem Twin.crn {s:VaultS}{rs:PoolS}{gs:List PageV}(h:Twin s rs gs)(ok:PoolOk s.pool)(n:Int):s.pool.count n≤s.pool.refs:=by
 unfold PoolS.count;split
 · rename_i ht
   rw [List.getD_eq_getElem?_getD,List.getElem?_eq_getElem (by have:=ht.1;have:=ht.2;omega)];exact(h.cr _ (List.getElem_mem _)).2
 · have:=ok.r1;omega
theorem Twin.keep {s:VaultS}{rs:PoolS}{gs:List PageV}(h:Twin s rs gs)(ok:PoolOk s.pool){n:Int}(he:incE s.pool n=0)(a:ActV):Twin ({ s with pool:=s.pool.did n 1 }.acted a) { rs with counts:=addC rs.counts n 1 } gs:=by
 have h0:s.pool.count n≠0:=fun e=>by unfold incE at he;rw [if_pos e] at he;cases he
 have h1:s.pool.count n≠s.pool.refs:=fun e=>by unfold incE at he;rw [if_neg h0,if_pos e] at he;cases he
 have h2:=h.crn ok n;have ht:=there_of_count h0;have h3:=(count_bd ok n).1
 have hst:∀m,(s.pool.did n 1).state m=1↔s.pool.state m=1:=fun m=>by
  rw [did_state ht];by_cases hm:m=n
  · subst hm
    rw [if_pos rfl];have e1:=state_of_count ok h0;constructor
    · intro e
      exfalso;unfold stateOf at e;rw [if_pos (by omega)] at e;split at e<;>omega
    · intro e;exact absurd e e1
  · rw [if_neg hm]
 refine⟨?_,h.ls,h.rf,?_,fun m hm=>h.bare m ((hst m).1 hm),fun m hm hth=>h.pg m (fun e=>hm ((hst m).2 e)) (did_there.1 hth),h.fit,?_⟩
 · show _=(s.pool.did n 1).counts
   rw [did_counts,h.cs]
 · show _=(s.pool.did n 1).counts.length
   rw [did_counts,addC_len];exact h.gl
 · intro c hc
   have hc2:c∈s.pool.counts.set (n.toNat-1) (s.pool.count n+1):=hc;rcases List.mem_or_eq_of_mem_set hc2 with hc | rfl
   · exact h.cr c hc
   · exact⟨by omega,by show _≤s.pool.refs;omega⟩
theorem addC_ne {cs:List Int}{n m:Int}{b:Int}(h:cntL cs n≠0)(hm:cntL (addC cs n b) m≠0):cntL cs m≠0:=by
 have hn:1≤n∧n≤cs.length:=by
  by_cases hn:1≤n∧n≤cs.length
  · exact hn
  · exact absurd (by unfold cntL;exact if_neg hn) h
 rw [addC_cnt hn] at hm;by_cases e:m=n
 · rw [e];exact h
 · rw [if_neg e] at hm;exact hm
theorem DropR.congr {get get':Int→PageV}{l cs:List Int}{e:Int}{c:List Int}(h:DropR get l cs e c):(∀n,cntL cs n≠0→get n=get' n)→DropR get' l cs e c:=by
 induction h with
 | nil cs=>intro _;exact .nil cs
 | none n t cs h0=>intro _;exact .none n t cs h0
 | more n t cs e c h1 h2 h3 ih=>intro hg;exact .more n t cs e c h1 h2 (ih fun m hm=>hg m (addC_ne h1 hm))
 | last n t cs e c h1 h2 h3 ih=>intro hg;exact .last n t cs e c h1 h2 (by rw [← hg n h1];exact ih fun m hm=>hg m (addC_ne h1 hm))
theorem DropR.le {get:Int→PageV}{l cs:List Int}{e:Int}{c:List Int}(h:DropR get l cs e c):(∀x∈cs,0≤x)→c.length=cs.length∧∀n,0≤cntL c n∧cntL c n≤cntL cs n:=by
 have nn:∀ {cs:List Int},(∀x∈cs,0≤x)→∀n,0≤cntL cs n:=fun {cs} h n=>by
  unfold cntL;split
  · rw [List.getD_eq_getElem?_getD,List.getElem?_eq_getElem (by omega)]
    exact h _ (List.getElem_mem _)
  · omega
 have st:∀ {cs:List Int} {n:Int},(∀x∈cs,0≤x)→cntL cs n≠0→(∀x∈addC cs n (-1),0≤x)∧∀m,cntL (addC cs n (-1)) m≤cntL cs m:=fun {cs n} h h0=>by
  have:=nn h n
  refine⟨addC_nn h (by omega),fun m=> ?_⟩
  have hn:1≤n∧n≤cs.length:=by
   by_cases hn:1≤n∧n≤cs.length
   · exact hn
   · exact absurd (by unfold cntL;exact if_neg hn) h0
  rw [addC_cnt hn];split
  · rename_i e;rw [e];omega
  · exact Int.le_refl _
 induction h with
 | nil cs=>intro h;exact⟨rfl,fun n=>⟨nn h n,Int.le_refl _⟩⟩
 | none n t cs h0=>intro h;exact⟨rfl,fun n=>⟨nn h n,Int.le_refl _⟩⟩
 | more n t cs e c h1 h2 h3 ih=>
   intro h;obtain⟨a,b⟩:=st h h1;obtain⟨i1,i2⟩:=ih a;exact⟨by rw [i1,addC_len],fun m=>⟨(i2 m).1,Int.le_trans (i2 m).2 (b m)⟩⟩
 | last n t cs e c h1 h2 h3 ih=>
   intro h;obtain⟨a,b⟩:=st h h1;obtain⟨i1,i2⟩:=ih a;exact⟨by rw [i1,addC_len],fun m=>⟨(i2 m).1,Int.le_trans (i2 m).2 (b m)⟩⟩
theorem Twin.drop {s t:VaultS}{rs:PoolS}{gs:List PageV}(h:Twin s rs gs)(ok:PoolOk s.pool){l:List Int}{e:Int}{W:List (Int × Option PageV)}(hd:DInv s t W)(h1:DropR s.get l s.pool.counts e t.pool.counts)(a:ActV):Twin (t.acted a) { rs with counts:=t.pool.counts } gs:=by
 have hle:=(h1.le fun x hx=>(h.cr x hx).1).2;have hth:∀m,t.pool.there m↔s.pool.there m:=fun m=>by unfold PoolS.there;rw [hd.len]
 have hla:∀m,t.pool.lasts m=s.pool.lasts m:=fun m=>by unfold PoolS.lasts;rw [hd.mid.last]
 have hfree:∀m,t.pool.state m≠1→t.pool.there m→s.pool.state m≠1:=fun m hm ht e=>hm (by
  have h0:=count_of_free ok e
  have h2:=hle m
  rw [← count_cnt, ← count_cnt,h0] at h2
  rw [state_there ht,show t.pool.count m=0 by omega,hla, ← h0, ← state_there ((hth m).1 ht)]
  exact e)
 have hon:∀m,t.on m=if t.pool.state m=1 then none else s.on m:=fun m=>by rw [hd.on]
 refine⟨rfl,?_,?_,?_,fun m hm=> ?_,fun m hm ht=> ?_,fun m g hg=> ?_,fun c hc=> ?_⟩
 · show rs.last=t.pool.last;rw [h.ls,hd.mid.last]
 · show rs.refs=t.pool.refs;rw [h.rf,hd.mid.refs]
 · show gs.length=t.pool.counts.length;rw [h.gl,hd.len]
 · have hm2:t.pool.state m=1:=hm
   show t.on m=none
   rw [hon,if_pos hm2]
 · have hm2:t.pool.state m≠1:=hm
   show t.on m=_
   rw [hon,if_neg hm2];exact h.pg m (hfree m hm2 ht) ((hth m).1 ht)
 · have hg2:t.on m=some g:=hg
   rw [hon] at hg2;split at hg2
   · cases hg2
   · exact h.fit m g hg2
 · have hc2:c∈t.pool.counts:=hc
   obtain⟨i,hi,rfl⟩:=List.getElem_of_mem hc2;have h3:=hle ((i:Int)+1);rw [cnt_idx hi,cnt_idx (by rw [← hd.len];exact hi),List.getD_eq_getElem?_getD,List.getD_eq_getElem?_getD,List.getElem?_eq_getElem hi,List.getElem?_eq_getElem (by rw [← hd.len];exact hi)] at h3;have h4:=h.cr (s.pool.counts[i]'(by rw [← hd.len];exact hi)) (List.getElem_mem _);have h5:t.pool.refs=s.pool.refs:=hd.mid.refs
   refine⟨h3.1,?_⟩;show _≤t.pool.refs
   have h6:t.pool.counts[i]≤s.pool.counts[i]'(by rw [← hd.len];exact hi):=h3.2;omega
end Go.Cop
namespace Go.Cop
theorem path_step {look:Int→Option PageV}{key:List Int}{lv:Nat}{n:Int}{g:PageV}(h:look n=some g):pathK look key (lv+1) n=n :: pathK look key lv (itemAt g.items (routeK g.items key)).child:=by
 show n :: (match look n with | some g=>_ | none=>_)=_
 rw [h]
end Go.Cop
namespace Go.Proofs.YtkfjilnmnbeokaaGreat.B9
open ChangeShapes WideShapes ChangeAt RowKit Sl Cop D3 G2 J2 X3 Y3 M4 Z3 Y5 N2 N7 M8 Z5 E6 M2 Q8 J6 Z8
theorem path_any(v:Nat)(s:VaultS)(look:Int→Option PageV)(hl:N7.Looks s look)(okp:PgsOk look)(hb:Hp)(kv:Value)(key:List Int)(hk:Bytes hb kv key)(uk:U8 key)(root:Int)(lv:Nat)(items:Int)(hlv:lv≤11)(q:RangeV)(L:List ItemV)(hT:TrK look lv root q L)(F:Pr)(w:World)(hF:OwnL [VaultA v s,Pr.own hb,F] w):
 Calls Tryz.prog 18 #[.pointer (some ⟨v,0,none⟩),treeV root ((lv:Int)+1) items,kv] w fun e w'=>Stays w w'∧∃o,e= .returned (.tuple #[o,.int .i64 0])∧OwnL [IntsRow o (pathK look key lv root),VaultA v s,Pr.own hb,F] w':=by
 obtain⟨kak,kck,rfl⟩:=bytes_shape hk;obtain⟨i0,hi0,hz0,hz1,hz2⟩:=info_parts infoInt;have hs0:=hF.alloc (treeC root ((lv:Int)+1) items);have HST:=hQ ((Stays.refl w).alloc (treeC root ((lv:Int)+1) items));have c1:=hs0.facts;simp only [CellsAt,Nat.reduceAdd,and_true] at c1;have HS0:=hQ hs0;have HH:=hQ (And.intro hl (And.intro okp (And.intro hk uk)));have HT:=hQ hT;clear hF hs0 hl okp hk uk hT
 go_enter Tryz.func18,Tryz.ntmps18
 go_wp2;generalize w.heap.size=BT at*;clear c1
 go_loopw [8,9,10] (fun o n left wr=> ∃(k:Nat) (m:Int) (q:RangeV) (L:List ItemV) (pre:List Int),k≤lv∧n= .int .i64 m∧left= .int .i64 ((k:Int)+1)∧pre.length+k=lv∧Hid (pathK look key lv root=pre++pathK look key k m)∧Hid (TrK look k m q L)∧Stays w wr∧OwnL [IntsRow o pre,Pr.pts BT (treeC root ((lv:Int)+1) items),VaultA v s,Pr.own hb,F] wr) (fun _ _ left _=>(intOf left).toNat)
 case atStart=>
  refine⟨lv,root,q,L,[],Nat.le_refl _,rfl,rfl,by simp,hQ rfl,HT,HST.out,?_⟩;have h1:=HS0.out.emp;rw [← Row.nil 3 1] at h1;exact h1.to (M:= [Row 3 1 (.slice none 0 0) 0 [],Pr.pts BT (treeC root ((lv:Int)+1) items),VaultA v s,Pr.own hb,F])
 case round=>
  obtain⟨k,m,q,L,pre,hk2,rfl,rfl,hpl,heq,hT,hst,hs⟩:=hrel;clear HST HS0 HT;have hA:=hs.alloc (.cells #[.int .i64 m] 3);obtain⟨ao,co,rfl⟩:=Row.shape (hs.pull1 (A1:=IntsRow u8 pre));have H1:=hQ (hA.pull1 (A1:=IntsRow (.slice ao pre.length co) pre));have HC:=hQ (new_cells wr [.int .i64 m] 3 _ rfl);have HST:=hQ hst;have hp11:pre.length≤11:=by omega
  have c1:=hs.facts;simp only [CellsAt,Nat.reduceAdd,and_true] at c1;clear hs hA hst;cases k with
  | zero=>
    have HQ:=hQ (heq.out.trans (show pre++pathK look key 0 m=pre++ [m] from rfl));clear heq hT
    go_wp2_with (at_builtin;refine wpList_append_sl rfl _ _ _ rfl 3 i0 (.int .i64 0) 1 8 Tryz.underlying31 hi0 hz0 hz1 hz2 rfl _ _ _ rfl H1.out ⟨wr.heap.size,0,none⟩ 1 1 [.int .i64 m] rfl rfl HC.out (by simp [Value.oneCell']) (by simp only [maxLen];omega) (by omega) ?_;intro v7 w4 hs4 hg4 _;obtain⟨a7,c7,e7,_,_⟩:=Row.read hs4;subst e7;have HS4:=hQ hs4;have HG4:=hQ ((HST.out.alloc _).of_grown hg4);clear hs4 hg4)
    go_ret2;refine⟨HG4.out,_,rfl,?_⟩;rw [HQ.out];have h1:=OwnL.of1 HS4.out;unfold IntsRow;rw [List.map_append,List.length_append];exact h1.to (M:= [Row 3 1 (.slice a7 (pre.length+1) c7) (pre.length+1) (pre.map (Value.int .i64)++ [.int .i64 m]),VaultA v s,Pr.own hb,F])
  | succ j=>
    obtain⟨g,LL,hlm,hkg,hlen,hch⟩:∃(g:PageV) (LL:List (List ItemV)),look m=some g∧g.kind=2∧LL.length=g.items.length∧∀i (hi:i<LL.length),TrK look j (itemAt g.items i).child (meetR q (ownR g.items i)) LL[i]:=by
     have h1:=hT.out;cases h1 with
     | index _ _ _ g LL a1 a2 a3 a4 a5=>exact⟨g,LL,a1,a2,a4,a5⟩
    have hfit:=fit_of_check (HH.out.2.1.chk m g hlm);have hit2:=((form_of_check (HH.out.2.1.chk m g hlm)).index hkg).2.2;obtain⟨hrt,_,_⟩:=route_spec key (l:=g.items) (fun e=>by rw [e] at hit2;simp at hit2);have hn8:=hfit.n;have HQ:=hQ (heq.out.trans (by rw [path_step hlm,List.append_cons]))
    obtain⟨q2,L2,hch2⟩:∃q2 L2,TrK look j (itemAt g.items (routeK g.items key)).child q2 L2:=⟨_,_,hch (routeK g.items key) (by omega)⟩;have HCH:=hQ hch2;have HG:=hQ (And.intro hfit (HH.out.2.1.u8 m g hlm));have VR:=hQ (fun(G:Pr) (wx:World) hG=>vread_any v s look HH.out.1 m G wx hG);rw [hlm] at VR;simp only [reduceCtorEq,if_false,Option.getD_some] at VR;have hj2:(j:Int)+1+1≠1:=by omega
    have HJ:=hQ (And.intro hk2 hpl);clear heq hT hlm hch hch2 hfit hit2 hpl;obtain⟨rt,hrt2⟩:∃rt,routeK g.items key=rt:=⟨_,rfl⟩;rw [hrt2] at HCH HQ hrt;have HRT:=hQ hrt2;clear hrt2
    go_wp2_with (at_builtin;refine wpList_append_sl rfl _ _ _ rfl 3 i0 (.int .i64 0) 1 8 Tryz.underlying31 hi0 hz0 hz1 hz2 rfl _ _ _ rfl H1.out ⟨wr.heap.size,0,none⟩ 1 1 [.int .i64 m] rfl rfl HC.out (by simp [Value.oneCell']) (by simp only [maxLen];omega) (by omega) ?_;intro v7 w4 hs4 hg4 _;obtain⟨a7,c7,e7,_,_⟩:=Row.read hs4;subst e7;have HS4:=hQ (OwnL.of1 hs4);have HG4:=hQ ((HST.out.alloc _).of_grown hg4);clear hs4 hg4 c1)
    have hs4:=HS4.out;have V1:=hQ (VR.out _ _ (hs4.pull1 (A1:=VaultA v s)));refine V1.out.mono ?_;rintro e w5 ⟨st5,pv,rfl,h',hp,hs5⟩;obtain⟨tai,tad,tci,tcd,rfl⟩:=page_sh hp;have hs6:=(OwnL.of2 hs5).alloc (pageC g.kind g.level (.slice tai g.items.length tci) (.slice tad g.data.length tcd) g.next);have HS6:=hQ hs6;have HP:=hQ hp
    have HST5:=hQ ((HG4.out.trans st5).alloc (pageC g.kind g.level (.slice tai g.items.length tci) (.slice tad g.data.length tcd) g.next));clear hs4 hs5 hs6 hp st5 V1 VR HS4 HG4 H1 HC HST;dsimp only [pageV];rw [hkg];rw [hkg] at HST5 HS6;go_wp2_with fail
    have hs6:=HS6.out;have st5:=HST5.out;clear HS6 HST5;generalize w5.alloc (pageC 2 g.level (.slice tai g.items.length tci) (.slice tad g.data.length tcd) g.next)=w6 at*;generalize w5.heap.size=PB at*;have c1:=hs6.facts;simp only [CellsAt,Nat.reduceAdd,and_true] at c1;have hp:=HP.out;rw [hkg] at hp
    have RT:=hQ (route_any h' hb _ _ g hp HG.out.1 HG.out.2 key HH.out.2.2.1 HH.out.2.2.2 w6.drew (hs6.drew.le (a:=h')) (hs6.drew.le (a:=hb)));rw [HRT.out] at RT;have HS6:=hQ hs6.drew;have HST6:=hQ st5.drew;clear hs6 st5 hp;refine wS 48 [0,1,2,3] [(4,[5,6,7,8],[0,1])] ?_;refine wpQ_all _ rfl rfl ?_;simp only [pick,pQ];iterate 4 (go_big_quiet_step (fail))
    refine wpQuiet_nil ?_;refine wpRest_act rfl ?_;go_wp2_with fail
    refine RT.out.mono ?_;rintro e w7 ⟨rfl,ho⟩;have hs7:=HS6.out.ext ho.heap;clear c1;have c1:=hs7.facts;simp only [CellsAt,Nat.reduceAdd,and_true] at c1;obtain⟨_,_,hpe,hpi,_⟩:=HP.out;cases hpe;obtain⟨_,_,epi,_,rd⟩:=items_rd hpi;cases epi;obtain⟨b,off,ak,ck,av,cv,rfl,_,_,hc⟩:=rd rt hrt;obtain⟨_,_,d2,_⟩:=hc w7 (hs7.le (a:=h'));have zb:=World.block_lt_of_cell? _ _ d2;rw [← itemAt_get hrt] at d2
    simp only at zb;have hrt3:(rt:Int)<(g.items.length:Int):=by omega
    have HS7:=hQ hs7;have HST7:=hQ (HST6.out.trans ho.st);clear hs7 ho hc rd hpi RT HS6 HST6 HP;go_wp2;refine onN_mk ?_;refine wpQ_all _ rfl rfl ?_;simp only [pick,pQ];iterate 4 (go_big_quiet_step (fail))
    refine wpQuiet_nil ⟨?_,?_⟩
    · exact cQ
    refine wpRest_nil ?_;go_wp2;go_roundw
    case rel=>
     rw [itemAt_get hrt] at HQ HCH;refine⟨j,_,_,_,pre++ [m],by have:=HJ.out;omega,rfl,congrArg (Value.int .i64) (by omega),by have:=HJ.out;rw [List.length_append];simp;omega,HQ,HCH,HST7.out,?_⟩;have h1:=HS7.out.to (M:= [Row 3 1 (.slice a7 (pre.length+1) c7) (pre.length+1) (pre.map (Value.int .i64)++ [.int .i64 m]),Pr.pts BT (treeC root ((lv:Int)+1) items),VaultA v s,Pr.own hb,F]);unfold IntsRow
     rw [List.map_append,List.length_append];exact h1
    case measure=>simp [intOf];omega
end Go.Proofs.YtkfjilnmnbeokaaGreat.B9
namespace Go.Cop
def storeE(s:PoolS)(K V:List Int):Int:=if K.length<1∨24<K.length then 7 else if 3840<V.length then 8 else if s.many 1<pagesV V then 12 else 0
def StoreAt(s:VaultS)(c:Int)(V:List Int)(ns:List Int):Prop:=(V.length≤32∧c=0∧ns= [])∨((32<V.length∧V.length≤3840)∧ChainAt s V (chunks V) 0 c ns)
abbrev storedI(K V:List Int)(c:Int):ItemV:=⟨K,if V.length≤32 then V else [],c,V.length⟩
theorem store_len {s:VaultS}{c:Int}{V ns:List Int}(h:StoreAt s c V ns):ns.length=pagesV V∧ns.length≤8:=by
 unfold pagesV;rcases h with⟨h1,_,rfl⟩ | ⟨h1,h2⟩
 · rw [if_pos h1];simp
 · rw [if_neg (by omega),Go.Cop.chain_len h2]
   unfold chunks;omega
theorem steps_sum {s t:VaultS}(h:Steps s t):(∀c∈s.pool.counts,0≤c)→(∀c∈t.pool.counts,0≤c)∧(sumC t.pool.counts:Int)+s.pool.acts.length=sumC s.pool.counts+t.pool.acts.length:=by
 induction h with
 | refl=>intro h;exact⟨h,rfl⟩
 | step n g h hn h0 ih=>
   intro hc;obtain⟨i1,i2⟩:=ih hc;rename_i t;have ht:=there_of_state (by omega:t.pool.state n≠0);have e:(t.make n g).pool.counts=addC t.pool.counts n 1:=did_counts t.pool n 1;have h1:cntL t.pool.counts n=0:=by rw [← count_cnt];exact h0
   have h2:=sum_addC (cs:=t.pool.counts) (n:=n) (b:=1) ht (by omega) (by omega);rw [e];refine⟨Go.Proofs.YtkfjilnmnbeokaaGreat.V7.addC_nn i1 (by omega),?_⟩
   have h3:(t.make n g).pool.acts.length=t.pool.acts.length+1:=by
    show (t.pool.acts++ [(n,(1:Int))]).length=_
    simp
   rw [h2,h3];omega
theorem taken_sum {s t:VaultS}{ns:List Int}(h:Taken s t ns)(hc:∀c∈s.pool.counts,0≤c):sumC t.pool.counts=sumC s.pool.counts+ns.length:=by
 have h1:=(steps_sum h.steps hc).2;have h2:=h.pa;omega
end Go.Cop
namespace Go.Proofs.YtkfjilnmnbeokaaGreat.C9
open ChangeShapes WideShapes ChangeAt RowKit Sl Cop D2 D3 J3 V3 G2 J2 X3 Y3 Z3 Y4 B5 F5 W5
theorem store_law(v:Nat)(s:VaultS)(kv vv:Value)(hp:Hp)(K V:List Int)(hK:Bytes hp kv K)(hV:Bytes hp vv V)(F:Pr)(w:World)
 (hF:Sat ((VaultA v s).star ((Pr.own hp).star F)) w) (hbare:Bare s) (hm:s.pool.floor+s.pool.acts.length+8≤1099511627776) (hm2:s.floor+s.acts.length+8≤1099511627776):
 Calls Tryz.prog 36 #[.pointer (some ⟨v,0,none⟩),kv,vv] w fun e w'=>
  Stays w w'∧((storeE s.pool K V≠0∧e= .returned (.tuple #[zeroItem,.int .i64 (storeE s.pool K V)])∧Sat ((VaultA v s).star ((Pr.own hp).star F)) w')∨
   (storeE s.pool K V=0∧∃kv' vv' c s' ns,e= .returned (.tuple #[itemV kv' vv' c V.length,.int .i64 0])∧Taken s s' ns∧StoreAt s' c V ns∧
     Sat ((BytesRow kv' K).star ((BytesRow vv' (if V.length≤32 then V else [])).star ((VaultA v s').star ((Pr.own hp).star F)))) w')):=by
 by_cases hk:K.length<1∨24<K.length
 · refine(store_key v kv vv hp K V hK hV hk w).mono ?_
   rintro e w' ⟨rfl,ho⟩;have e1:storeE s.pool K V=7:=by unfold storeE;rw [if_pos hk]
   exact⟨ho.st,.inl ⟨by rw [e1];decide,by rw [e1],hF.only ho⟩⟩
 · by_cases h1:V.length≤32
   · have e1:storeE s.pool K V=0:=by
      unfold storeE pagesV;rw [if_neg hk,if_neg (by omega),if_pos h1,if_neg (by omega)]
     refine(store_short_row v kv vv hp K V hK hV (by omega) h1 ((VaultA v s).star F) w (hF.perm (by ac_rfl))).mono ?_;rintro e w' ⟨hst,kv',vv',rfl,h2⟩;refine⟨hst,.inr ⟨e1,kv',vv',0,s,[],rfl,Taken.refl s,.inl ⟨h1,rfl,rfl⟩,?_⟩⟩;rw [if_pos h1];exact h2.perm (by ac_rfl)
   · by_cases h2:V.length≤3840
     · have hc:chunks V≤8:=by unfold chunks;omega
       have hpv:pagesV V=chunks V:=if_neg h1;refine(store_any_row v s kv vv hp K V hK hV (by omega) ⟨by omega,h2⟩ F w hF hbare (by omega) (by omega)).mono ?_;rintro e w' ⟨hst,(⟨hr,kv',c,s',ns,rfl,ht,hch,h3⟩ | ⟨h3,rfl,h4⟩)⟩
       · refine⟨hst,.inr ⟨by unfold storeE;rw [if_neg hk,if_neg (by omega),hpv,if_neg (by omega)],kv',.slice none 0 0,c,s',ns,rfl,ht,.inr ⟨⟨by omega,h2⟩,hch⟩,?_⟩⟩
         rw [if_neg h1,show BytesRow (.slice none 0 0) []=Pr.emp from Row.nil _ _,Pr.emp_star];exact h3
       · have e1:storeE s.pool K V=12:=by unfold storeE;rw [if_neg hk,if_neg (by omega),hpv,if_pos h3]
         exact⟨hst,.inl ⟨by rw [e1];decide,by rw [e1],h4⟩⟩
     · have e1:storeE s.pool K V=8:=by unfold storeE;rw [if_neg hk,if_pos (by omega)]
       refine(store_val v kv vv hp K V hK hV (by omega) (by omega) w).mono ?_;rintro e w' ⟨rfl,ho⟩;exact⟨ho.st,.inl ⟨by rw [e1];decide,by rw [e1],hF.only ho⟩⟩
end Go.Proofs.YtkfjilnmnbeokaaGreat.C9
