/- The document's Spare; the conditions stand as hypotheses. -/
import Derived.Test.YtpfafhklppondaaGreatVaultCountsM28
import Derived.Test.YtpfafhklppondaaGreatVaultCountsM01
import Derived.Test.YtpfafhklppondaaGreatVaultCountsM21
import Derived.Test.YtpfafhklppondaaGreatVaultCountsM05
import Derived.Deep.CutRange
set_option maxRecDepth 100000
set_option maxHeartbeats 16000000
namespace Go.Proofs.YtpfafhklppondaaGreat.T8
open ChangeShapes WideShapes ChangeAt RowKit Sl Cop P3 G4 Q2 X2 D3 J4 L4 K5 L6 P4 G8
def markB(i:Nat):Int:=bits .xor .i64 165 (i:Int) % 256
def spareL(l:List Int):List Int:=l++(List.range 64).map fun i=>markB (l.length+i)
theorem spareL_len(l:List Int):(spareL l).length=l.length+64:=by simp [spareL]
theorem spareL_low {l:List Int}{k:Nat}(h:k<l.length):(spareL l)[k]'(by rw [spareL_len];omega)=l.getD k 0:=by
 unfold spareL;rw [List.getElem_append_left h];simp [h]
theorem spareL_high {l:List Int}{k:Nat}(h:l.length≤k)(h2:k<l.length+64):(spareL l)[k]'(by rw [spareL_len];omega)=markB k:=by
 unfold spareL;rw [List.getElem_append_right h];simp only [List.getElem_map,List.getElem_range];rw [show l.length+(k-l.length)=k by omega]
abbrev WholeRow(b:Nat)(l:List Int):Pr:=Row 5 1 (.slice (some ⟨b,0,none⟩) (l.length+64) (l.length+64)) (l.length+64) ((spareL l).map (Value.int .u8))
theorem row_made1 {F:Pr}{w:World}(T:Nat)(z:Value)(n:Nat)(hn:n≤maxLen)(h:Sat F w):
 Sat ((Row T 1 (.slice (some ⟨w.heap.size,0,none⟩) n n) n (List.replicate n z)).star F) (w.alloc (.cells (madeCells #[z] n) T)):=row_made T z n hn h
theorem spare_any(h:Hp)(v:Value)(l:List Int)(F:Pr)(w:World)(hF:Sat ((Pr.own h).star F) w)(hx:Bytes h v l)(hn:l.length≤140737488351232):
 Calls Tryz.prog 67 #[v] w fun e w'=> ∃b,e= .returned (.slice (some ⟨b,0,none⟩) l.length (l.length+64))∧Sat ((WholeRow b l).star ((Pr.own h).star F)) w'∧Stays w w':=by
 obtain⟨a,c,rfl,r1⟩:=bytes_rd hx;obtain⟨i0,hi,hz0,hz1,hz2⟩:=info_parts infoByte
 have hmk:∀wx:World,(Instr.makeSlice 35 (.int .i64 ((l.length:Int)+64)) (.int .i64 ((l.length:Int)+64))).run Tryz.prog wx= .ok (.slice (some ⟨wx.heap.size,0,none⟩) (l.length+64) (l.length+64)) (wx.alloc (.cells (madeCells #[.int .u8 0] (l.length+64)) 5)):=by
  intro wx;have:=run_make (P:=Tryz.prog) wx 35 5 i0 (.int .u8 0) Tryz.underlying35 hi hz0 .i64 .i64 ((l.length:Int)+64) ((l.length:Int)+64) (by omega) (by omega) (by rw [hz2];omega) (by omega)
  rw [hz1,show ((l.length:Int)+64).toNat=l.length+64 by omega,Nat.mul_one] at this;exact this
 have h2:=hQ (row_made1 5 (.int .u8 0) (l.length+64) (by simp only [maxLen];omega) hF);have R1:=hQ r1;have hn0:(l.length:Int)≤140737488351232:=by omega
 clear hF hx r1;go_enter Tryz.func67,Tryz.ntmps67
 go_wp2;go_loopw [4] (fun i wr=> ∃(k:Nat) (zs:List Int),k≤l.length+64∧i= .int .i64 k∧Stays w wr∧zs.length=l.length+64∧Hid (∀i,i<k→zs[i]? =(spareL l)[i]?)∧Sat ((Row 5 1 (.slice (some ⟨w.heap.size,0,none⟩) (l.length+64) (l.length+64)) (l.length+64) (zs.map (Value.int .u8))).star ((Pr.own h).star F)) wr) (fun i _=>l.length+64-(intOf i).toNat)
 case atStart=>
  refine⟨0,List.replicate (l.length+64) 0,Nat.zero_le _,rfl,(Stays.refl w).alloc _,by simp,hQ (fun i hi=>absurd hi (by omega)),?_⟩;rw [List.map_replicate];exact h2.out
 case round=>
  obtain⟨k,zs,hk,rfl,hst,hzl,hfill,hs⟩:=hrel;have HZL:=hQ hzl;clear hzl;rcases Nat.lt_or_ge k (l.length+64) with hlt | hge
  · obtain⟨_,_,e,_,hc⟩:=Row.read hs
    cases e;obtain⟨b,eb,hd⟩:=hc (by omega);cases eb
    have k0:∃u,wr.cell? ⟨w.heap.size,k,none⟩=some u:=by
     have:=(hd k (by omega)).1
     rw [List.getElem?_eq_getElem (by rw [List.length_map,HZL.out];omega)] at this;exact⟨_,this⟩
    obtain⟨u,k0⟩:=k0;have kf:=(hd k (by omega)).2;have kz:=World.block_lt_of_cell? _ _ k0;clear hc hd;have HS:=hQ hs;have HSTK:=hQ hst;clear hst;rcases Nat.lt_or_ge k l.length with hl1 | hl1
    · obtain⟨b,off,rfl,c1⟩:=R1.out k hl1
      have q1:=c1 wr hs.right.own;have HLO:=hQ (spareL_low hl1);clear c1 hs;generalize l.getD k 0=x at*;go_wp2;refine⟨⟨k+1,zs.set k (x),by omega,congrArg (Value.int .i64) (by omega),HSTK.out.setCell _ _,by rw [List.length_set];exact HZL.out,hQ ?_,?_⟩,by simp [intOf];omega⟩
      · have e:x=(spareL l)[k]'(by rw [spareL_len];omega):=HLO.out.symm
        rw [e];exact fill_step (by rw [spareL_len];exact HZL.out) (by rw [spareL_len];exact hlt) hfill.out
      · rw [List.map_set]
        exact Row.set HS.out k (by rw [List.length_map,HZL.out];exact hlt) _
    · have HHI:=hQ (spareL_high hl1 hlt)
      clear hs;go_wp2;refine⟨⟨k+1,zs.set k (bits .xor .i64 165 (k:Int) % 256),by omega,congrArg (Value.int .i64) (by omega),HSTK.out.setCell _ _,by rw [List.length_set];exact HZL.out,hQ ?_,?_⟩,by simp [intOf];omega⟩
      · have e:bits .xor .i64 165 (k:Int) % 256=(spareL l)[k]'(by rw [spareL_len];omega):=HHI.out.symm
        rw [e];exact fill_step (by rw [spareL_len];exact HZL.out) (by rw [spareL_len];exact hlt) hfill.out
      · rw [List.map_set]
        exact Row.set HS.out k (by rw [List.length_map,HZL.out];exact hlt) _
  · have hkl:k=l.length+64:=by omega
    subst hkl;have e1:zs=spareL l:=filled (by rw [spareL_len];exact HZL.out) (by intro i hi;rw [spareL_len] at hi;exact hfill.out i hi);subst e1;have HS:=hQ hs;have HSTK:=hQ hst;clear hs hst hfill HZL;go_wp2;go_ret;exact⟨w.heap.size,rfl,HS.out,HSTK.out⟩
end Go.Proofs.YtpfafhklppondaaGreat.T8
namespace Go.Proofs.YtpfafhklppondaaGreat.X8
open ChangeShapes WideShapes ChangeAt RowKit Sl Cop P3 G4 Q2 X2 D3 J4 L4 P4 Z4 T8
theorem whole_bytes {b:Nat}{l:List Int}{hx:Hp}(h:WholeRow b l hx):Bytes hx (.slice (some ⟨b,0,none⟩) l.length (l.length+64)) l:=by
 obtain⟨_,a,c,e,h1,h2,h3⟩:=Row.rowIn h;cases e;refine⟨by simp,some ⟨b,0,none⟩,l.length+64,rfl,by omega,h2,fun _=>⟨b,0,rfl,fun i hi=> ?_⟩⟩;obtain⟨b',off,eb,hc⟩:=h3 (by omega);cases eb;rw [hc i (by omega)];have hi2:i<l.length:=by omega
 simp [spareL,List.getElem?_append_left,hi2]
theorem whole_at {b:Nat}{l:List Int}{F:Pr}{w:World}(h:Sat ((WholeRow b l).star F) w){k:Nat}(h1:l.length≤k)(h2:k<l.length+64):w.cell? ⟨b,k,none⟩=some (.int .u8 (markB k)):=by
 obtain⟨_,_,e,_,hc⟩:=Row.read h;cases e;obtain⟨b',eb,hd⟩:=hc (by omega);cases eb;rw [(hd k (by omega)).1,List.getElem?_map,List.getElem?_eq_getElem (by rw [spareL_len];exact h2),spareL_high h1 h2];rfl
theorem kept_any(b:Nat)(l:List Int)(h:Hp)(v:Value)(hx:Bytes h v l)(hn:l.length≤140737488351232)(F:Pr)(w:World)(hF:Sat ((WholeRow b l).star ((Pr.own h).star F)) w):
 Calls Tryz.prog 75 #[.slice (some ⟨b,0,none⟩) l.length (l.length+64),v] w fun e w'=>e= .returned (.bool true)∧Only w w':=by
 obtain⟨a,ha,h2⟩:=hF.toOwn;have EQ:=hQ (eq_same a h _ v l (whole_bytes ha) hx (by omega) w h2.own h2.right.own);obtain⟨av,cv,rfl⟩:=bytes_shape hx;have HF:=hQ hF;have hn0:(l.length:Int)≤140737488351232:=by omega
 clear hF ha h2 hx;go_enter Tryz.func75,Tryz.ntmps75
 go_wp2_with fail
 refine EQ.out.mono ?_;rintro e w1 ⟨rfl,ho1⟩;go_wp2_with fail
 go_loopw [6] (fun i wr=> ∃k:Nat,l.length≤k∧k≤l.length+64∧i= .int .i64 k∧Only w wr) (fun i _=>l.length+64-(intOf i).toNat)
 case atStart=>exact⟨l.length,Nat.le_refl _,by omega,rfl,ho1⟩
 case round=>
  obtain⟨k,hk1,hk2,rfl,ho⟩:=hrel;rcases Nat.lt_or_ge k (l.length+64) with hlt | hge
  · have q0:=whole_at (HF.out.only ho) hk1 hlt
    unfold markB at q0;go_wp2;go_roundw
    case rel=>exact⟨k+1,by omega,by omega,congrArg (Value.int .i64) (by omega),ho⟩
    case measure=>simp [intOf];omega
  · have hkl:k=l.length+64:=by omega
    subst hkl;go_wp2;go_ret;exact⟨rfl,ho⟩
end Go.Proofs.YtpfafhklppondaaGreat.X8
namespace Go.Proofs.YtpfafhklppondaaGreat.Y8
open ChangeShapes WideShapes ChangeAt RowKit Sl Cop P3 G4 Q2 X2 D3 J4 L4 P4 Q6 Z4 T8 X8
end Go.Proofs.YtpfafhklppondaaGreat.Y8
namespace Go.Proofs.YtpfafhklppondaaGreat.Z8
open ChangeShapes WideShapes ChangeAt RowKit Sl Cop P3 G4 Q2 X2 D3 J4 L4 P4 Q6 Y6 T8 X8
abbrev It:=(Value × Value) × ItemV
abbrev ZRow(b n c:Nat)(zs:List It):Pr:=Row 49 4 (.slice (some ⟨b,0,none⟩) n c) n (zs.flatMap itCells)
theorem z_rd {b n c k:Nat}{zs:List It}{F:Pr}{w:World}(h:Sat ((ZRow b n c zs).star F) w)(hl:zs.length=n)(hk:k<zs.length):
 (w.cell? ⟨b,k*4,none⟩=some zs[k].1.1∧w.cell? ⟨b,k*4+1,none⟩=some zs[k].1.2∧w.cell? ⟨b,k*4+2,none⟩=some (.int .i64 zs[k].2.child)∧w.cell? ⟨b,k*4+3,none⟩=some (.int .i64 zs[k].2.size))∧
   (w.frozen? ⟨b,k*4,none⟩=false∧w.frozen? ⟨b,k*4+1,none⟩=false∧w.frozen? ⟨b,k*4+2,none⟩=false∧w.frozen? ⟨b,k*4+3,none⟩=false):=by
 obtain⟨a',c',e,_,hc⟩:=Row.read h;cases e;obtain⟨b',eb,hc⟩:=hc (by omega);cases eb
 have at':∀j,j<4→w.cell? ⟨b,k*4+j,none⟩=(itCells zs[k])[j]? ∧w.frozen? ⟨b,k*4+j,none⟩=false:=by
  intro j hj;obtain⟨h1,h2⟩:=hc (k*4+j) (by omega);exact⟨h1.trans (flat_at itCells 4 (fun _=>rfl) zs k j hk hj),h2⟩
 exact⟨⟨(at' 0 (by omega)).1,(at' 1 (by omega)).1,(at' 2 (by omega)).1,(at' 3 (by omega)).1⟩,(at' 0 (by omega)).2,(at' 1 (by omega)).2,(at' 2 (by omega)).2,(at' 3 (by omega)).2⟩
theorem z_put {b n c k:Nat}{zs:List It}{F:Pr}{w:World}(h:Sat ((ZRow b n c zs).star F) w)(hk:k<zs.length)(y:It):
 Sat ((ZRow b n c (zs.set k y)).star F) ((((w.setCell ⟨b,k*4,none⟩ y.1.1).setCell ⟨b,k*4+1,none⟩ y.1.2).setCell ⟨b,k*4+2,none⟩ (.int .i64 y.2.child)).setCell ⟨b,k*4+3,none⟩ (.int .i64 y.2.size)):=by
 have hlen:=flat_len itCells 4 (fun _=>rfl) zs;have h1:=Row.set (Row.set (Row.set (Row.set h (k*4) (by rw [hlen];omega) y.1.1) (k*4+1) (by rw [List.length_set,hlen];omega) y.1.2) (k*4+2) (by rw [List.length_set,List.length_set,hlen];omega) (.int .i64 y.2.child)) (k*4+3) (by rw [List.length_set,List.length_set,List.length_set,hlen];omega) (.int .i64 y.2.size)
 have e0:=flat_set itCells 4 (fun _=>rfl) 0 y.1.1 ((y.1.1,zs[k].1.2),zs[k].2) (by omega) zs k hk (by simp [itCells]);have e1:=flat_set itCells 4 (fun _=>rfl) 1 y.1.2 ((y.1.1,y.1.2),zs[k].2) (by omega) (zs.set k ((y.1.1,zs[k].1.2),zs[k].2)) k (by simpa using hk) (by simp [itCells])
 have e2:=flat_set itCells 4 (fun _=>rfl) 2 (.int .i64 y.2.child) ((y.1.1,y.1.2),⟨[],[],y.2.child,zs[k].2.size⟩) (by omega) (zs.set k ((y.1.1,y.1.2),zs[k].2)) k (by simpa using hk) (by simp [itCells]);have e3:=flat_set itCells 4 (fun _=>rfl) 3 (.int .i64 y.2.size) y (by omega) (zs.set k ((y.1.1,y.1.2),⟨[],[],y.2.child,zs[k].2.size⟩)) k (by simpa using hk) (by simp [itCells])
 rw [Nat.add_zero] at e0;rw [List.set_set] at e1 e2 e3;rw [e0,e1,e2,e3] at h1;exact h1
def zeroZ:It:=((.slice none 0 0,.slice none 0 0),⟨[],[],0,0⟩)
theorem z_cells(n:Nat):madeCells #[.slice none 0 0,.slice none 0 0,.int .i64 0,.int .i64 0] (n*4)=((List.replicate n zeroZ).flatMap itCells).toArray:=by
 refine Array.ext (by simp only [size_madeCells,List.size_toArray,flat_len itCells 4 (fun _=>rfl),List.length_replicate]) fun i h1 h2=> ?_
 rw [size_madeCells] at h1
 have h3:((List.replicate n zeroZ).flatMap itCells)[i]? =(itCells zeroZ)[i % 4]? :=by
  have:=flat_at itCells 4 (fun _=>rfl) (List.replicate n zeroZ) (i / 4) (i % 4) (by rw [List.length_replicate];omega) (by omega)
  rw [show i / 4*4+i % 4=i by omega,List.getElem_replicate] at this;exact this
 have h4:(madeCells #[.slice none 0 0,.slice none 0 0,.int .i64 0,.int .i64 0] (n*4))[i]= #[.slice none 0 0,.slice none 0 0,.int .i64 0,.int .i64 0][i % 4]! :=by
  simp only [madeCells,Array.getElem_map,Array.getElem_range];rfl
 rw [h4];have h5:((List.replicate n zeroZ).flatMap itCells).toArray[i]? =(itCells zeroZ)[i % 4]? :=by rw [List.getElem?_toArray];exact h3
 rw [Array.getElem?_eq_getElem h2] at h5;have h6:i % 4<4:=Nat.mod_lt _ (by omega);generalize i % 4=j at*;match j,h6 with
 | 0,_=>exact(Option.some.inj h5).symm
 | 1,_=>exact(Option.some.inj h5).symm
 | 2,_=>exact(Option.some.inj h5).symm
 | 3,_=>exact(Option.some.inj h5).symm
theorem z_made {F:Pr}{w:World}(n:Nat)(hn:n≤maxLen)(h:Sat F w):
 Sat ((ZRow w.heap.size n n (List.replicate n zeroZ)).star F) (w.alloc (.cells (madeCells #[.slice none 0 0,.slice none 0 0,.int .i64 0,.int .i64 0] (n*4)) 49)):=by
 have h1:=h.alloc (.cells (madeCells #[.slice none 0 0,.slice none 0 0,.int .i64 0,.int .i64 0] (n*4)) 49);rw [z_cells] at h1 ⊢;refine Row.mk' (sp:= []) (by rw [flat_len itCells 4 (fun _=>rfl),List.length_replicate]) (by rw [flat_len itCells 4 (fun _=>rfl),List.length_replicate];rfl) (Nat.le_refl _) hn ?_;rw [List.append_nil];exact h1
def kvOf(p:Nat × Nat)(x:ItemV):Value × Value:=(.slice (some ⟨p.1,0,none⟩) x.key.length (x.key.length+64),.slice (some ⟨p.2,0,none⟩) x.value.length (x.value.length+64))
def extZ(i:Nat):It:=((.slice none 0 0,.slice none 0 0),⟨[],[], -5-(i:Int), -9⟩)
def spZ(bs:List (Nat × Nat))(its:List ItemV)(k i:Nat):It:=if i<k then(if h:i<its.length then(kvOf (bs.getD i (0,0)) its[i],its[i]) else extZ i) else zeroZ
def spL(bs:List (Nat × Nat))(its:List ItemV)(k:Nat):List It:=(List.range (its.length+2)).map (spZ bs its k)
theorem spL_len(bs:List (Nat × Nat))(its:List ItemV)(k:Nat):(spL bs its k).length=its.length+2:=by simp [spL]
theorem spL_at {bs:List (Nat × Nat)}{its:List ItemV}{k i:Nat}(h:i<its.length+2):(spL bs its k)[i]'(by rw [spL_len];exact h)=spZ bs its k i:=by simp [spL]
theorem spL_zero(its:List ItemV):spL [] its 0=List.replicate (its.length+2) zeroZ:=by
 refine List.ext_getElem (by rw [spL_len,List.length_replicate]) fun i h1 h2=> ?_
 rw [spL_len] at h1;rw [spL_at h1,List.getElem_replicate];simp [spZ]
theorem spL_item {bs:List (Nat × Nat)}{its:List ItemV}{k:Nat}(hk:k<its.length)(hb:bs.length=k)(p:Nat × Nat):(spL bs its k).set k (kvOf p its[k],its[k])=spL (bs++ [p]) its (k+1):=by
 refine List.ext_getElem (by rw [List.length_set,spL_len,spL_len]) fun i h1 h2=> ?_
 have h3:i<its.length+2:=by rw [spL_len] at h2;exact h2
 rw [List.getElem_set,spL_at h3,spL_at h3];subst hb;rcases Nat.lt_trichotomy i bs.length with hlt | rfl | hgt
 · rw [if_neg (by omega)]
   unfold spZ;rw [if_pos hlt,if_pos (by omega),dif_pos (by omega),dif_pos (by omega)];simp [List.getD,List.getElem?_append_left hlt]
 · rw [if_pos rfl]
   unfold spZ;rw [if_pos (by omega),dif_pos hk];simp [List.getD]
 · rw [if_neg (by omega)]
   unfold spZ;rw [if_neg (by omega),if_neg (by omega)]
theorem spL_ext {bs:List (Nat × Nat)}{its:List ItemV}{k:Nat}(h:its.length≤k):(spL bs its k).set k (extZ k)=spL bs its (k+1):=by
 refine List.ext_getElem (by rw [List.length_set,spL_len,spL_len]) fun i h1 h2=> ?_
 have h3:i<its.length+2:=by rw [spL_len] at h2;exact h2
 rw [List.getElem_set,spL_at h3,spL_at h3];rcases Nat.lt_trichotomy i k with hlt | rfl | hgt
 · rw [if_neg (by omega)]
   unfold spZ;rw [if_pos hlt,if_pos (by omega)]
 · rw [if_pos rfl]
   unfold spZ;rw [if_pos (by omega),dif_neg (by omega)]
 · rw [if_neg (by omega)]
   unfold spZ;rw [if_neg (by omega),if_neg (by omega)]
def wholeOf(p:(Nat × Nat) × ItemV):Pr:=(WholeRow p.1.1 p.2.key).star (WholeRow p.1.2 p.2.value)
theorem big_whole_in {l:List ((Nat × Nat) × ItemV)}{h:Hp}(hb:big wholeOf l h):∀x∈l,Bytes h (kvOf x.1 x.2).1 x.2.key∧Bytes h (kvOf x.1 x.2).2 x.2.value:=by
 induction l generalizing h with
 | nil=>intro x hx;cases hx
 | cons y l ih=>
   obtain⟨a,b,ha,hb',s1,s2⟩:=star_sub (show ((wholeOf y).star (big wholeOf l)) h from hb);obtain⟨c,d,hc,hd,s3,s4⟩:=star_sub (show ((WholeRow y.1.1 y.2.key).star (WholeRow y.1.2 y.2.value)) a from ha);intro x hx;rcases List.mem_cons.1 hx with rfl | hx
   · exact⟨((whole_bytes hc).sub s3).sub s1,((whole_bytes hd).sub s4).sub s1⟩
   · exact⟨(ih hb' x hx).1.sub s2,(ih hb' x hx).2.sub s2⟩
structure SpX where
 ib:Nat
 db:Nat
 bs:List (Nat × Nat)
def SpX.pv(x:SpX)(g:PageV):Value:=pageV g.kind g.level (.slice (some ⟨x.ib,0,none⟩) g.items.length (g.items.length+2)) (.slice (some ⟨x.db,0,none⟩) g.data.length (g.data.length+64)) g.next
abbrev SpRow(ib:Nat)(bs:List (Nat × Nat))(its:List ItemV):Pr:=ZRow ib (its.length+2) (its.length+2) (spL bs its (its.length+2))
abbrev SpRows(x:SpX)(g:PageV):Pr:=(SpRow x.ib x.bs g.items).star ((big wholeOf (x.bs.zip g.items)).star (WholeRow x.db g.data))
theorem spRows_in {x:SpX}{g:PageV}(hl:x.bs.length=g.items.length){h:Hp}(hs:SpRows x g h):PageIn h (x.pv g) g:=by
 obtain⟨a,b,ha,hb,s1,s2⟩:=star_sub hs;obtain⟨c,d,hc,hd,s3,s4⟩:=star_sub hb;obtain⟨_,ar,cr,e,_,hm,hcell⟩:=Row.rowIn ha;cases e;refine⟨_,_,rfl,⟨(x.bs.zip g.items).map fun p=>kvOf p.1 p.2,by simp [hl],?_,fun k hx hk=> ?_⟩,((whole_bytes hd).sub s4).sub s2⟩
 · refine RowIn.sub s1 ⟨?_,some ⟨x.ib,0,none⟩,g.items.length+2,rfl,by omega,hm,fun _=>⟨x.ib,0,rfl,fun i hi=> ?_⟩⟩
   · refine(flat_len itCells 4 (fun _=>rfl) _).trans ?_
     simp [hl]
   · obtain⟨b',off,eb,hc2⟩:=hcell (by omega)
     cases eb;rw [hc2 i (by omega)];have h1:=flat_at itCells 4 (fun _=>rfl) (spL x.bs g.items (g.items.length+2)) (i / 4) (i % 4) (by rw [spL_len];omega) (by omega);have h2:=flat_at itCells 4 (fun _=>rfl) (((x.bs.zip g.items).map fun p=>kvOf p.1 p.2).zip g.items) (i / 4) (i % 4) (by simp [hl];omega) (by omega);rw [show i / 4*4+i % 4=i by omega] at h1 h2;have h3:i / 4<g.items.length:=by omega
     have e3:(spL x.bs g.items (g.items.length+2))[i / 4]'(by rw [spL_len];omega)=(((x.bs.zip g.items).map fun p=>kvOf p.1 p.2).zip g.items)[i / 4]'(by simp [hl];omega):=by
      rw [spL_at (by omega)];unfold spZ;rw [if_pos (by omega),dif_pos h3];simp [List.getD,List.getElem?_eq_getElem (show i / 4<x.bs.length by omega)]
     rw [e3] at h1;exact h1.trans h2.symm
 · have hz:k<(x.bs.zip g.items).length:=by simp [hl];omega
   have hm:=big_whole_in hc _ (List.getElem_mem hz);rw [List.getElem_map];have e:(x.bs.zip g.items)[k].2=g.items[k]:=by simp
   rw [e] at hm ⊢;exact⟨(hm.1.sub s3).sub s2,(hm.2.sub s3).sub s2⟩
end Go.Proofs.YtpfafhklppondaaGreat.Z8
namespace Go.Proofs.YtpfafhklppondaaGreat.C9
open ChangeShapes WideShapes ChangeAt RowKit Sl Cop P3 G4 Q2 X2 D3 J4 L4 P4 Q6 Y6 T8 X8 Z8
structure SzP(g:PageV):Prop where
 n:g.items.length≤2199023255488
 k:∀x∈g.items,x.key.length≤140737488351232∧x.value.length≤140737488351232
 d:g.data.length≤140737488351232
theorem zip_snoc {bs:List (Nat × Nat)}{its:List ItemV}{k:Nat}(hk:k<its.length)(hb:bs.length=k){p:Nat × Nat}:(bs++ [p]).zip its=bs.zip its++ [(p,its[k])]:=by
 subst hb;refine List.ext_getElem (by simp;omega) fun i h1 h2=> ?_
 rcases Nat.lt_or_ge i bs.length with hlt | hge
 · rw [List.getElem_append_left (by simp;omega)]
   simp [List.getElem_append_left hlt]
 · have:i=bs.length:=by simp at h1;omega
   subst this;rw [List.getElem_append_right (by simp;omega)];simp
theorem sparepage_any(h:Hp)(v:Value)(g:PageV)(hv:PageIn h v g)(hz:SzP g)(F:Pr)(w:World)(hF:Sat ((Pr.own h).star F) w):
 Calls Tryz.prog 21 #[v] w fun e w'=> ∃x:SpX,e= .returned (x.pv g)∧x.bs.length=g.items.length∧Stays w w'∧Sat ((SpRow x.ib x.bs g.items).star ((big wholeOf (x.bs.zip g.items)).star ((WholeRow x.db g.data).star ((Pr.own h).star F)))) w':=by
 obtain⟨vi,vd,rfl,hi,hdd⟩:=hv;obtain⟨k0,l0,its,dat,nx⟩:=g;obtain⟨hn,hb,hd⟩:=hz;dsimp only at*;obtain⟨ai,ci,rfl,hcm,rd⟩:=items_rd hi;obtain⟨ad,cd,rfl⟩:=bytes_shape hdd;obtain⟨i0,hi0,hz0,hz1,hz2⟩:=info_parts infoItem;have hn0:(its.length:Int)≤2199023255488:=by omega
 have hd0:(dat.length:Int)≤140737488351232:=by omega
 have hmk:∀wx:World,(Instr.makeSlice 34 (.int .i64 ((its.length:Int)+2)) (.int .i64 ((its.length:Int)+2))).run Tryz.prog wx= .ok (.slice (some ⟨wx.heap.size,0,none⟩) (its.length+2) (its.length+2)) (wx.alloc (.cells (madeCells #[.slice none 0 0,.slice none 0 0,.int .i64 0,.int .i64 0] ((its.length+2)*4)) 49)):=by
  intro wx;have:=run_make (P:=Tryz.prog) wx 34 49 i0 (.agg #[.slice none 0 0,.slice none 0 0,.int .i64 0,.int .i64 0]) Tryz.underlying34 hi0 hz0 .i64 .i64 ((its.length:Int)+2) ((its.length:Int)+2) (by omega) (by omega) (by rw [hz2];omega) (by omega)
  rw [hz1,show ((its.length:Int)+2).toNat=its.length+2 by omega] at this;exact this
 have h1:=((OwnL.in1 hF).alloc (pageC k0 l0 (.slice ai its.length ci) (.slice ad dat.length cd) nx)).alloc (pageC 0 0 (.slice none 0 0) (.slice none 0 0) 0);rw [show (w.alloc (pageC k0 l0 (.slice ai its.length ci) (.slice ad dat.length cd) nx)).heap.size=w.heap.size+1 by simp] at h1;have HS1:=hQ h1
 have HST:=hQ (((Stays.refl w).alloc (pageC k0 l0 (.slice ai its.length ci) (.slice ad dat.length cd) nx)).alloc (pageC 0 0 (.slice none 0 0) (.slice none 0 0) 0));have RD:=hQ rd;have HD:=hQ hdd;have HB:=hQ hb;have HDN:=hQ hd;clear h1 rd hdd hb hd hF hi hcm;go_enter Tryz.func21,Tryz.ntmps21
 go_wp2_with fail
 have T1:=HST.out;have T2:=HS1.out;clear HST HS1;generalize hw0:(w.alloc (pageC k0 l0 (.slice ai its.length ci) (.slice ad dat.length cd) nx)).alloc (pageC 0 0 (.slice none 0 0) (.slice none 0 0) 0)=w0 at*;generalize w.heap.size+1=I1 at*;generalize w.heap.size=I0 at*;have HST0:=hQ T1;have HT2:=hQ T2;clear T1 T2 hw0
 go_cut [3] from 6 to 16 (fun t1 wx=> ∃(J db:Nat),t1= .pointer (some ⟨J,0,none⟩)∧Stays w wx∧
  OwnL [Pr.pts J (pageC k0 l0 (.slice none 0 0) (.slice (some ⟨db,0,none⟩) dat.length (dat.length+64)) nx),WholeRow db dat,Pr.pts I0 (pageC k0 l0 (.slice ai its.length ci) (.slice ad dat.length cd) nx),Pr.pts I1 (pageC 0 0 (.slice none 0 0) (.slice none 0 0) 0),Pr.own h,F] wx)
 case first=>
  have c1:=HT2.out.facts;simp only [CellsAt,Nat.reduceAdd,and_true] at c1;refine wp_region_forked (sz:=75) (by kernel_rfl) [0,1,2,3,4,5,7,8] [(6,[9],[0,1,2,3,4,7,8],[(10,[],[0,1,2,3,4,7,8,9]),(11,[],[])]),(10,[],[0,1,2,3,4,5,7,8],[(6,[9],[0,1,2,3,4,7,8]),(11,[],[])])] rfl (by kernel_rfl) (by kernel_rfl) (by kernel_rfl) ?_;refine wpQ_all _ rfl rfl ?_;simp only [pick,pQ]
  iterate 8 (go_big_quiet_step (fail))
  refine wpQuiet_nil ?_;intro sx hsx;rcases List.mem_cons.1 hsx with rfl | hsx
  · have V:=hQ (spare_any h _ dat _ _ (HT2.out.drew.pull1 (A1:=Pr.own h)) HD.out HDN.out)
    refine wpRest_act rfl ?_;go_wp2_with fail
    refine V.out.mono ?_;rintro e w5 ⟨db,rfl,hs9,st5⟩;have hs10:=OwnL.of2 hs9;clear c1;have c1:=hs10.facts;simp only [CellsAt,Nat.reduceAdd,and_true] at c1;have hs11:=hs10.alloc (pageC k0 l0 (.slice none 0 0) (.slice (some ⟨db,0,none⟩) dat.length (dat.length+64)) nx)
    have HEND:=hQ (And.intro ((HST0.out.drew.trans st5).alloc (pageC k0 l0 (.slice none 0 0) (.slice (some ⟨db,0,none⟩) dat.length (dat.length+64)) nx)) hs11);clear hs9 hs10 hs11 st5 V;go_wp2;refine onN_mk ?_;refine wpQ_all _ rfl rfl ?_;simp only [pick,pQ];iterate 1 (go_big_quiet_step (fail))
    refine wpQuiet_nil ⟨?_,?_⟩
    · exact cQ
    refine wpRest_act rfl ?_;go_wp2;refine onN_mk ?_;refine wpQ_nil ⟨?_,?_⟩
    · exact cQ
    refine wpRest_act rfl ?_;go_wp2;refine onN_mk ?_;refine wpQ_nil ⟨?_,?_⟩
    · exact chk_nil
    refine wpRest_nil ?_;go_wp2;go_meet
    exact⟨_,db,rfl,HEND.out.1,HEND.out.2.to⟩
  · cases List.mem_singleton.1 hsx
    have hs8:=HT2.out.drew.alloc (pageC 0 0 (.slice none 0 0) (.slice none 0 0) 0);have V:=hQ (spare_any h _ dat _ _ (hs8.pull1 (A1:=Pr.own h)) HD.out HDN.out);have HSTA:=hQ (HST0.out.drew.alloc (pageC 0 0 (.slice none 0 0) (.slice none 0 0) 0));clear hs8;refine wpRest_act rfl ?_;go_wp2;refine onN_mk ?_;refine wpQ_nil ⟨?_,?_⟩
    · exact cQ
    refine wpRest_act rfl ?_;go_wp2_with fail
    refine V.out.mono ?_;rintro e w5 ⟨db,rfl,hs9,st5⟩;rw [show w0.drew.heap.size=w0.heap.size by simp] at hs9;have hs10:=OwnL.of2 hs9;clear c1;have c1:=hs10.facts;simp only [CellsAt,Nat.reduceAdd,and_true] at c1
    have hs12:=(((((hs10.set w0.heap.size 0 (.int .i64 k0)).set w0.heap.size 1 (.int .i64 l0)).set w0.heap.size 2 (.slice none 0 0)).set w0.heap.size 3 (.slice (some ⟨db,0,none⟩) dat.length (dat.length+64))).set w0.heap.size 4 (.int .i64 nx))
    have HEND:=hQ (And.intro ((((((HSTA.out.trans st5).setCell ⟨w0.heap.size,0,none⟩ (.int .i64 k0)).setCell ⟨w0.heap.size,1,none⟩ (.int .i64 l0)).setCell ⟨w0.heap.size,2,none⟩ (.slice none 0 0)).setCell ⟨w0.heap.size,3,none⟩ (.slice (some ⟨db,0,none⟩) dat.length (dat.length+64))).setCell ⟨w0.heap.size,4,none⟩ (.int .i64 nx)) hs12);clear hs9 hs10 hs12 st5 V HSTA;go_wp2;refine onN_mk ?_
    refine wpQ_all _ rfl rfl ?_;simp only [pick,pQ];iterate 1 (go_big_quiet_step (fail))
    refine wpQuiet_nil ⟨?_,?_⟩
    · exact cQ
    refine wpRest_act rfl ?_;go_wp2;refine onN_mk ?_;refine wpQ_nil ⟨?_,?_⟩
    · exact chk_nil
    refine wpRest_nil ?_;go_wp2;go_meet
    exact⟨_,db,rfl,HEND.out.1,HEND.out.2.to⟩
 case rest=>
  obtain⟨J,db,rfl,st1,hs2⟩:=hcut;have c1:=hs2.facts;simp only [CellsAt,Nat.reduceAdd,and_true] at c1;have hs3:=OwnL.of1 (z_made (its.length+2) (by simp only [maxLen];omega) hs2.sat);have HS3:=hQ hs3;have HST1:=hQ (st1.alloc (.cells (madeCells #[.slice none 0 0,.slice none 0 0,.int .i64 0,.int .i64 0] ((its.length+2)*4)) 49));clear hs2 hs3 st1 HST0 HT2
  generalize madeCells #[.slice none 0 0,.slice none 0 0,.int .i64 0,.int .i64 0] ((its.length+2)*4)=MC at*;go_wp2_with fail
  clear c1 hmk HD HDN;generalize wc.heap.size=ib at*;generalize wc.alloc (.cells MC 49)=wd at*;clear hi0 hz0 hz1 hz2
  go_loopw [5] (fun i wr=> ∃(k:Nat) (bs:List (Nat × Nat)),k≤its.length+2∧i= .int .i64 k∧bs.length=min k its.length∧Stays w wr∧
   OwnL [ZRow ib (its.length+2) (its.length+2) (spL bs its k),big wholeOf (bs.zip its),Pr.pts J (pageC k0 l0 (.slice none 0 0) (.slice (some ⟨db,0,none⟩) dat.length (dat.length+64)) nx),WholeRow db dat,Pr.pts I0 (pageC k0 l0 (.slice ai its.length ci) (.slice ad dat.length cd) nx),Pr.pts I1 (pageC 0 0 (.slice none 0 0) (.slice none 0 0) 0),Pr.own h,F] wr) (fun i _=>its.length+2-(intOf i).toNat)
  case atStart=>
   refine⟨0,[],Nat.zero_le _,rfl,by simp,HST1.out,?_⟩;rw [spL_zero,List.zip_nil_left,big_nil];exact(HS3.out.emp).to
  case round=>
   obtain⟨k,bs,hk,rfl,hbl,hst,hs⟩:=hrel;have c1:=hs.facts;simp only [CellsAt,Nat.reduceAdd,and_true] at c1;rcases Nat.lt_or_ge k (its.length+2) with hlt | hge
   · rcases Nat.lt_or_ge k its.length with hl1 | hl1
     · have HBL:=hQ (show bs.length=k by omega)
       clear hbl;obtain⟨b,off,ak,ck,av,cv,rfl,hb1,hb2,hcell⟩:=RD.out k hl1;obtain⟨r0,r1,r2,r3⟩:=hcell wr (hs.pull1 (A1:=Pr.own h)).own;have HC:=hQ hcell;have HBK:=hQ (HB.out its[k] (List.getElem_mem hl1));have V:=hQ (spare_any h _ its[k].key _ _ (hs.drew.pull1 (A1:=Pr.own h)) hb1 HBK.out.1);have HB2:=hQ hb2;have HSTR:=hQ hst;clear hs hst hb1 hb2 hcell;go_wp2_with fail
       refine wS 75 [0,1,2,3,4,5,6,7,9,10,11,12,13,14,16,17,18,19,20,21,22,23,24,25,26,27] [(8,[],[0,1,2,3,4,5,6,9,10,11,12,13,14,16,17,18,19,20,21,22,23,24,25,26,27]),(15,[28,29],[0,1,2,3,4,5,6,9,10,11,12,13,16,17,18,19,20,21,22,23,24,25,26,27]),(30,[],[])] ?_;refine wpQ_all _ rfl rfl ?_;simp only [pick,pQ];iterate 26 (go_big_quiet_step (fail))
       refine wpQuiet_nil ?_;refine wpRest_act rfl ?_;go_wp2_with fail
       refine V.out.mono ?_;rintro e w1 ⟨b1,rfl,hs1,st1⟩;have hs2:=OwnL.of2 hs1;clear c1 r0 r1 r2 r3;have c1:=hs2.facts;simp only [CellsAt,Nat.reduceAdd,and_true] at c1;obtain⟨r0,r1,r2,r3⟩:=HC.out w1 (hs2.pull1 (A1:=Pr.own h)).own;have V2:=hQ (spare_any h _ its[k].value _ _ (hs2.pull1 (A1:=Pr.own h)) HB2.out HBK.out.2);have HST2:=hQ (HSTR.out.drew.trans st1);clear hs1 hs2 st1 V HSTR;go_wp2
       refine onN_mk ?_;refine wpQ_nil ⟨?_,?_⟩
       · exact cQ
       refine wpRest_act rfl ?_;go_wp2_with fail
       refine V2.out.mono ?_;rintro e w2 ⟨b2,rfl,hs3,st2⟩;have hs4:=OwnL.of2 hs3;clear c1 r0 r1 r2 r3;have c1:=hs4.facts;simp only [CellsAt,Nat.reduceAdd,and_true] at c1;obtain⟨r0,r1,r2,r3⟩:=HC.out w2 (hs4.pull1 (A1:=Pr.own h)).own;have hs5:=hs4.pull1 (A1:=ZRow ib (its.length+2) (its.length+2) (spL bs its k))
       obtain⟨⟨s0,s1,s2,s3⟩,f0,f1,f2,f3⟩:=z_rd hs5 (spL_len _ _ _) (k:=k) (by rw [spL_len];omega);have hs6:=OwnL.of1 (z_put hs5 (k:=k) (by rw [spL_len];omega) (kvOf (b1,b2) its[k],its[k]));rw [spL_item hl1 HBL.out (b1,b2)] at hs6
       have HST3:=hQ (((((HST2.out.trans st2).setCell ⟨ib,k*4,none⟩ (kvOf (b1,b2) its[k]).1).setCell ⟨ib,k*4+1,none⟩ (kvOf (b1,b2) its[k]).2).setCell ⟨ib,k*4+2,none⟩ (.int .i64 its[k].child)).setCell ⟨ib,k*4+3,none⟩ (.int .i64 its[k].size));have HS6:=hQ hs6;clear hs3 hs4 hs5 hs6 st2 V2 HST2;go_wp2;refine onN_mk ?_;refine wpQ_all _ rfl rfl ?_;simp only [pick,pQ];iterate 2 (go_big_quiet_step (fail))
       refine wpQuiet_nil ⟨?_,?_⟩
       · exact cQ
       refine wpRest_act rfl ?_;go_wp2;refine onN_mk ?_;refine wpQ_nil ⟨?_,?_⟩
       · exact chk_nil
       refine wpRest_nil ?_;go_wp2;refine⟨⟨k+1,bs++ [(b1,b2)],by omega,congrArg (Value.int .i64) (by omega),by have:=HBL.out;rw [List.length_append,List.length_singleton];omega,HST3.out,?_⟩,by simp [intOf];omega⟩;have h9:OwnL (wholeOf ((b1,b2),its[k]) :: _) _:=HS6.out.join2 (WholeRow b1 its[k].key) (WholeRow b2 its[k].value);have h10:=h9.snoc wholeOf (bs.zip its) ((b1,b2),its[k])
       rw [← zip_snoc hl1 HBL.out] at h10;exact h10.to
     · have HBL:=hQ (show bs.length=its.length by omega)
       clear hbl;have hs5:=hs.pull1 (A1:=ZRow ib (its.length+2) (its.length+2) (spL bs its k));obtain⟨⟨s0,s1,s2,s3⟩,f0,f1,f2,f3⟩:=z_rd hs5 (spL_len _ _ _) (k:=k) (by rw [spL_len];omega);have hs6:=OwnL.of1 (z_put hs5 (k:=k) (by rw [spL_len];omega) (extZ k));rw [spL_ext hl1] at hs6
       have HST3:=hQ ((((hst.setCell ⟨ib,k*4,none⟩ (extZ k).1.1).setCell ⟨ib,k*4+1,none⟩ (extZ k).1.2).setCell ⟨ib,k*4+2,none⟩ (.int .i64 (extZ k).2.child)).setCell ⟨ib,k*4+3,none⟩ (.int .i64 (extZ k).2.size));have HS6:=hQ hs6;clear hs hst hs5 hs6;go_wp2;refine⟨⟨k+1,bs,by omega,congrArg (Value.int .i64) (by omega),by have:=HBL.out;omega,HST3.out,?_⟩,by simp [intOf];omega⟩;exact HS6.out.to
   · have hkl:k=its.length+2:=by omega
     subst hkl;have HBL:=hQ (show bs.length=its.length by omega);have HS:=hQ hs;have HSTR:=hQ hst;clear hbl hs hst;go_wp2
     have h5:=((((((HS.out.set J 2 (.slice (some ⟨ib,0,none⟩) its.length (its.length+2))).set I1 0 (.int .i64 k0)).set I1 1 (.int .i64 l0)).set I1 2 (.slice (some ⟨ib,0,none⟩) its.length (its.length+2))).set I1 3 (.slice (some ⟨db,0,none⟩) dat.length (dat.length+64))).set I1 4 (.int .i64 nx))
     refine bodyPost_ret (results_cell_row rfl _ _ I1 _ _ _ _ rfl (h5.pts I1).pts_heap Tryz.underlying37 rfl infoPage) rfl ?_;refine⟨⟨ib,db,bs⟩,rfl,HBL.out,(((((HSTR.out.setCell _ _).setCell _ _).setCell _ _).setCell _ _).setCell _ _).setCell _ _,?_⟩;exact h5.end5
end Go.Proofs.YtpfafhklppondaaGreat.C9
