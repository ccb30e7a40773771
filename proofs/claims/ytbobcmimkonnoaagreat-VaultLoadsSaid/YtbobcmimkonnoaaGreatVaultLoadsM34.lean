/- A page with marked room behind all its lists: where they lie; plain lemmas. -/
import Derived.Test.YtbobcmimkonnoaaGreatVaultLoadsM30
import Derived.Test.YtbobcmimkonnoaaGreatVaultLoadsM21
import Derived.Test.YtbobcmimkonnoaaGreatVaultLoadsM05
import Derived.Test.YtbobcmimkonnoaaGreatVaultLoadsM29
import Derived.Test.YtbobcmimkonnoaaGreatVaultLoadsM03
import Derived.Deep.CutRange
import Derived.Test.YtbobcmimkonnoaaGreatVaultLoadsM22
import Derived.Test.YtbobcmimkonnoaaGreatVaultLoadsM31
import Derived.Test.YtbobcmimkonnoaaGreatVaultLoadsM17
import Derived.Test.YtbobcmimkonnoaaGreatVaultLoadsM26
import Derived.Test.YtbobcmimkonnoaaGreatVaultLoadsM01
set_option maxRecDepth 100000
set_option maxHeartbeats 16000000
namespace Go.Proofs.YtbobcmimkonnoaaGreat.T8
open ChangeShapes WideShapes ChangeAt RowKit Sl Cop M3 D4 M2 N2 Y2 E4 G4 J4 L6 P6 K8 M8
abbrev It:=(Value × Value) × ItemV
abbrev ZRow(b n c:Nat)(zs:List It):Pr:=Row 58 4 (.slice (some ⟨b,0,none⟩) n c) n (zs.flatMap itCells)
theorem z_rd {b n c k:Nat}{zs:List It}{F:Pr}{w:World}(h:Sat ((ZRow b n c zs).star F) w)(hl:zs.length=n)(hk:k<zs.length):
 (w.cell? ⟨b,k*4,none⟩=some zs[k].1.1∧w.cell? ⟨b,k*4+1,none⟩=some zs[k].1.2∧w.cell? ⟨b,k*4+2,none⟩=some (.int .i64 zs[k].2.child)∧w.cell? ⟨b,k*4+3,none⟩=some (.int .i64 zs[k].2.size))∧
   (w.frozen? ⟨b,k*4,none⟩=false∧w.frozen? ⟨b,k*4+1,none⟩=false∧w.frozen? ⟨b,k*4+2,none⟩=false∧w.frozen? ⟨b,k*4+3,none⟩=false):=by
 obtain⟨a',c',e,_,hc⟩:=Row.read h;cases e;obtain⟨b',eb,hc⟩:=hc (by omega);cases eb
 have at':∀j,j<4→w.cell? ⟨b,k*4+j,none⟩=(itCells zs[k])[j]? ∧w.frozen? ⟨b,k*4+j,none⟩=false:=by
  intro j hj;obtain⟨h1,h2⟩:=hc (k*4+j) (by omega);exact⟨h1.trans (flat_at itCells 4 (fun _=>rfl) zs k j hk hj),h2⟩
 exact⟨⟨(at' 0 (by omega)).1,(at' 1 (by omega)).1,(at' 2 (by omega)).1,(at' 3 (by omega)).1⟩,(at' 0 (by omega)).2,(at' 1 (by omega)).2,(at' 2 (by omega)).2,(at' 3 (by omega)).2⟩
theorem z_put {b n c k:Nat}{zs:List It}{F:Pr}{w:World}(h:Sat ((ZRow b n c zs).star F) w)(hk:k<zs.length)(y:It):
 Sat ((ZRow b n c (zs.set k y)).star F) ((((w.setCell ⟨b,k*4,none⟩ y.1.1).setCell ⟨b,k*4+1,none⟩ y.1.2).setCell ⟨b,k*4+2,none⟩ (.int .i64 y.2.child)).setCell ⟨b,k*4+3,none⟩ (.int .i64 y.2.size)):=by
 have hlen:=flat_len itCells 4 (fun _=>rfl) zs;have h1:=Row.set (Row.set (Row.set (Row.set h (k*4) (by rw [hlen];omega) y.1.1) (k*4+1) (by rw [List.length_set,hlen];omega) y.1.2) (k*4+2) (by rw [List.length_set,List.length_set,hlen];omega) (.int .i64 y.2.child)) (k*4+3) (by rw [List.length_set,List.length_set,List.length_set,hlen];omega) (.int .i64 y.2.size)
 have e0:=flat_set itCells 4 (fun _=>rfl) 0 y.1.1 ((y.1.1,zs[k].1.2),zs[k].2) (by omega) zs k hk (by simp [itCells]);have e1:=flat_set itCells 4 (fun _=>rfl) 1 y.1.2 ((y.1.1,y.1.2),zs[k].2) (by omega) (zs.set k ((y.1.1,zs[k].1.2),zs[k].2)) k (by simpa using hk) (by simp [itCells])
 have e2:=flat_set itCells 4 (fun _=>rfl) 2 (.int .i64 y.2.child) ((y.1.1,y.1.2),⟨[],[],y.2.child,zs[k].2.size⟩) (by omega) (zs.set k ((y.1.1,y.1.2),zs[k].2)) k (by simpa using hk) (by simp [itCells]);have e3:=flat_set itCells 4 (fun _=>rfl) 3 (.int .i64 y.2.size) y (by omega) (zs.set k ((y.1.1,y.1.2),⟨[],[],y.2.child,zs[k].2.size⟩)) k (by simpa using hk) (by simp [itCells])
 rw [Nat.add_zero] at e0;rw [List.set_set] at e1 e2 e3;rw [e0,e1,e2,e3] at h1;exact h1
def zeroZ:It:=((.slice none 0 0,.slice none 0 0),⟨[],[],0,0⟩)
theorem z_cells(n:Nat):madeCells #[.slice none 0 0,.slice none 0 0,.int .i64 0,.int .i64 0] (n*4)=((List.replicate n zeroZ).flatMap itCells).toArray:=by
 refine Array.ext (by simp only [size_madeCells,List.size_toArray,flat_len itCells 4 (fun _=>rfl),List.length_replicate]) fun i h1 h2=> ?_
 rw [size_madeCells] at h1
 have h3:((List.replicate n zeroZ).flatMap itCells)[i]? =(itCells zeroZ)[i % 4]? :=by
  have:=flat_at itCells 4 (fun _=>rfl) (List.replicate n zeroZ) (i / 4) (i % 4) (by rw [List.length_replicate];omega) (by omega)
  rw [show i / 4*4+i % 4=i by omega,List.getElem_replicate] at this;exact this
 have h4:(madeCells #[.slice none 0 0,.slice none 0 0,.int .i64 0,.int .i64 0] (n*4))[i]= #[.slice none 0 0,.slice none 0 0,.int .i64 0,.int .i64 0][i % 4]! :=by
  simp only [madeCells,Array.getElem_map,Array.getElem_range];rfl
 rw [h4];have h5:((List.replicate n zeroZ).flatMap itCells).toArray[i]? =(itCells zeroZ)[i % 4]? :=by rw [List.getElem?_toArray];exact h3
 rw [Array.getElem?_eq_getElem h2] at h5;have h6:i % 4<4:=Nat.mod_lt _ (by omega);generalize i % 4=j at*;match j,h6 with
 | 0,_=>exact(Option.some.inj h5).symm
 | 1,_=>exact(Option.some.inj h5).symm
 | 2,_=>exact(Option.some.inj h5).symm
 | 3,_=>exact(Option.some.inj h5).symm
theorem z_made {F:Pr}{w:World}(n:Nat)(hn:n≤maxLen)(h:Sat F w):
 Sat ((ZRow w.heap.size n n (List.replicate n zeroZ)).star F) (w.alloc (.cells (madeCells #[.slice none 0 0,.slice none 0 0,.int .i64 0,.int .i64 0] (n*4)) 58)):=by
 have h1:=h.alloc (.cells (madeCells #[.slice none 0 0,.slice none 0 0,.int .i64 0,.int .i64 0] (n*4)) 58);rw [z_cells] at h1 ⊢;refine Row.mk' (sp:= []) (by rw [flat_len itCells 4 (fun _=>rfl),List.length_replicate]) (by rw [flat_len itCells 4 (fun _=>rfl),List.length_replicate];rfl) (Nat.le_refl _) hn ?_;rw [List.append_nil];exact h1
def kvOf(p:Nat × Nat)(x:ItemV):Value × Value:=(.slice (some ⟨p.1,0,none⟩) x.key.length (x.key.length+64),.slice (some ⟨p.2,0,none⟩) x.value.length (x.value.length+64))
def extZ(i:Nat):It:=((.slice none 0 0,.slice none 0 0),⟨[],[], -5-(i:Int), -9⟩)
def spZ(bs:List (Nat × Nat))(its:List ItemV)(k i:Nat):It:=if i<k then(if h:i<its.length then(kvOf (bs.getD i (0,0)) its[i],its[i]) else extZ i) else zeroZ
def spL(bs:List (Nat × Nat))(its:List ItemV)(k:Nat):List It:=(List.range (its.length+2)).map (spZ bs its k)
theorem spL_len(bs:List (Nat × Nat))(its:List ItemV)(k:Nat):(spL bs its k).length=its.length+2:=by simp [spL]
theorem spL_at {bs:List (Nat × Nat)}{its:List ItemV}{k i:Nat}(h:i<its.length+2):(spL bs its k)[i]'(by rw [spL_len];exact h)=spZ bs its k i:=by simp [spL]
theorem spL_zero(its:List ItemV):spL [] its 0=List.replicate (its.length+2) zeroZ:=by
 refine List.ext_getElem (by rw [spL_len,List.length_replicate]) fun i h1 h2=> ?_
 rw [spL_len] at h1;rw [spL_at h1,List.getElem_replicate];simp [spZ]
theorem spL_item {bs:List (Nat × Nat)}{its:List ItemV}{k:Nat}(hk:k<its.length)(hb:bs.length=k)(p:Nat × Nat):(spL bs its k).set k (kvOf p its[k],its[k])=spL (bs++ [p]) its (k+1):=by
 refine List.ext_getElem (by rw [List.length_set,spL_len,spL_len]) fun i h1 h2=> ?_
 have h3:i<its.length+2:=by rw [spL_len] at h2;exact h2
 rw [List.getElem_set,spL_at h3,spL_at h3];subst hb;rcases Nat.lt_trichotomy i bs.length with hlt | rfl | hgt
 · rw [if_neg (by omega)]
   unfold spZ;rw [if_pos hlt,if_pos (by omega),dif_pos (by omega),dif_pos (by omega)];simp [List.getD,List.getElem?_append_left hlt]
 · rw [if_pos rfl]
   unfold spZ;rw [if_pos (by omega),dif_pos hk];simp [List.getD]
 · rw [if_neg (by omega)]
   unfold spZ;rw [if_neg (by omega),if_neg (by omega)]
theorem spL_ext {bs:List (Nat × Nat)}{its:List ItemV}{k:Nat}(h:its.length≤k):(spL bs its k).set k (extZ k)=spL bs its (k+1):=by
 refine List.ext_getElem (by rw [List.length_set,spL_len,spL_len]) fun i h1 h2=> ?_
 have h3:i<its.length+2:=by rw [spL_len] at h2;exact h2
 rw [List.getElem_set,spL_at h3,spL_at h3];rcases Nat.lt_trichotomy i k with hlt | rfl | hgt
 · rw [if_neg (by omega)]
   unfold spZ;rw [if_pos hlt,if_pos (by omega)]
 · rw [if_pos rfl]
   unfold spZ;rw [if_pos (by omega),dif_neg (by omega)]
 · rw [if_neg (by omega)]
   unfold spZ;rw [if_neg (by omega),if_neg (by omega)]
def wholeOf(p:(Nat × Nat) × ItemV):Pr:=(WholeRow p.1.1 p.2.key).star (WholeRow p.1.2 p.2.value)
theorem big_whole_in {l:List ((Nat × Nat) × ItemV)}{h:Hp}(hb:big wholeOf l h):∀x∈l,Bytes h (kvOf x.1 x.2).1 x.2.key∧Bytes h (kvOf x.1 x.2).2 x.2.value:=by
 induction l generalizing h with
 | nil=>intro x hx;cases hx
 | cons y l ih=>
   obtain⟨a,b,ha,hb',s1,s2⟩:=star_sub (show ((wholeOf y).star (big wholeOf l)) h from hb);obtain⟨c,d,hc,hd,s3,s4⟩:=star_sub (show ((WholeRow y.1.1 y.2.key).star (WholeRow y.1.2 y.2.value)) a from ha);intro x hx;rcases List.mem_cons.1 hx with rfl | hx
   · exact⟨((whole_bytes hc).sub s3).sub s1,((whole_bytes hd).sub s4).sub s1⟩
   · exact⟨(ih hb' x hx).1.sub s2,(ih hb' x hx).2.sub s2⟩
structure SpX where
 ib:Nat
 db:Nat
 bs:List (Nat × Nat)
def SpX.pv(x:SpX)(g:PageV):Value:=pageV g.kind g.level (.slice (some ⟨x.ib,0,none⟩) g.items.length (g.items.length+2)) (.slice (some ⟨x.db,0,none⟩) g.data.length (g.data.length+64)) g.next
abbrev SpRow(ib:Nat)(bs:List (Nat × Nat))(its:List ItemV):Pr:=ZRow ib (its.length+2) (its.length+2) (spL bs its (its.length+2))
abbrev SpRows(x:SpX)(g:PageV):Pr:=(SpRow x.ib x.bs g.items).star ((big wholeOf (x.bs.zip g.items)).star (WholeRow x.db g.data))
theorem spRows_in {x:SpX}{g:PageV}(hl:x.bs.length=g.items.length){h:Hp}(hs:SpRows x g h):PageIn h (x.pv g) g:=by
 obtain⟨a,b,ha,hb,s1,s2⟩:=star_sub hs;obtain⟨c,d,hc,hd,s3,s4⟩:=star_sub hb;obtain⟨_,ar,cr,e,_,hm,hcell⟩:=Row.rowIn ha;cases e;refine⟨_,_,rfl,⟨(x.bs.zip g.items).map fun p=>kvOf p.1 p.2,by simp [hl],?_,fun k hx hk=> ?_⟩,((whole_bytes hd).sub s4).sub s2⟩
 · refine RowIn.sub s1 ⟨?_,some ⟨x.ib,0,none⟩,g.items.length+2,rfl,by omega,hm,fun _=>⟨x.ib,0,rfl,fun i hi=> ?_⟩⟩
   · refine(flat_len itCells 4 (fun _=>rfl) _).trans ?_
     simp [hl]
   · obtain⟨b',off,eb,hc2⟩:=hcell (by omega)
     cases eb;rw [hc2 i (by omega)];have h1:=flat_at itCells 4 (fun _=>rfl) (spL x.bs g.items (g.items.length+2)) (i / 4) (i % 4) (by rw [spL_len];omega) (by omega);have h2:=flat_at itCells 4 (fun _=>rfl) (((x.bs.zip g.items).map fun p=>kvOf p.1 p.2).zip g.items) (i / 4) (i % 4) (by simp [hl];omega) (by omega);rw [show i / 4*4+i % 4=i by omega] at h1 h2;have h3:i / 4<g.items.length:=by omega
     have e3:(spL x.bs g.items (g.items.length+2))[i / 4]'(by rw [spL_len];omega)=(((x.bs.zip g.items).map fun p=>kvOf p.1 p.2).zip g.items)[i / 4]'(by simp [hl];omega):=by
      rw [spL_at (by omega)];unfold spZ;rw [if_pos (by omega),dif_pos h3];simp [List.getD,List.getElem?_eq_getElem (show i / 4<x.bs.length by omega)]
     rw [e3] at h1;exact h1.trans h2.symm
 · have hz:k<(x.bs.zip g.items).length:=by simp [hl];omega
   have hm:=big_whole_in hc _ (List.getElem_mem hz);rw [List.getElem_map];have e:(x.bs.zip g.items)[k].2=g.items[k]:=by simp
   rw [e] at hm ⊢;exact⟨(hm.1.sub s3).sub s2,(hm.2.sub s3).sub s2⟩
end Go.Proofs.YtbobcmimkonnoaaGreat.T8
namespace Go.Proofs.YtbobcmimkonnoaaGreat.X8
open ChangeShapes WideShapes ChangeAt RowKit Sl Cop U3 D4 X4 Y4 G7 Q7 Y7 V7 E8
structure Right(cs:List Int)(on:Int→Option PageV):Prop where
 ok:OnOk cs on
 full:∀n,cntL cs n≠0→∃g,on n=some g
 n2:cs.length≤65536
theorem right_load {refs:Int}{cs:List Int}{l:List NumV}(h:(loadE refs cs l).1=0):Right cs (loadE refs cs l).2:=by
 unfold loadE at h ⊢;split at h
 · cases h
 · rename_i hr
   rw [if_neg hr];have hr2:rangeOk cs.length refs=true:=by simpa using hr
   split at h
   · cases h
   · rename_i hb
     rw [if_neg hb];split at h
     · rename_i h1;exact absurd h h1
     · rename_i h1
       rw [if_neg h1];split at h
       · cases h
       · rename_i h2
         rw [if_neg h2];refine⟨lay_ok (OnOk.none cs),fun n hn=> ?_,by have:=Go.Proofs.YtbobcmimkonnoaaGreat.F6.rangeOk_iff.1 hr2;omega⟩;cases ho:(lay cs l fun _=>none).2 n with
         | some g=>exact⟨g,rfl⟩
         | none=>exact absurd (lacks_iff.2 ⟨n,held_mem.2 hn,ho⟩) h2
theorem right_new(n:Nat)(hn:n≤65536):Right (List.replicate n 0) fun _=>none:=by
 refine⟨OnOk.none _,fun m hm=>absurd ?_ hm,by simpa using hn⟩;unfold cntL;split
 · simp [List.getD_eq_getElem?_getD,List.getElem?_replicate]
   split<;>rfl
 · rfl
end Go.Proofs.YtbobcmimkonnoaaGreat.X8
namespace Go.Proofs.YtbobcmimkonnoaaGreat.Y8
open ChangeShapes WideShapes ChangeAt RowKit Sl Cop M3 D4 M2 N2 Y2 E4 G4 J4 L6 P6 K8 M8 T8
structure SzP(g:PageV):Prop where
 n:g.items.length≤2199023255488
 k:∀x∈g.items,x.key.length≤140737488351232∧x.value.length≤140737488351232
 d:g.data.length≤140737488351232
theorem zip_snoc {bs:List (Nat × Nat)}{its:List ItemV}{k:Nat}(hk:k<its.length)(hb:bs.length=k){p:Nat × Nat}:(bs++ [p]).zip its=bs.zip its++ [(p,its[k])]:=by
 subst hb;refine List.ext_getElem (by simp;omega) fun i h1 h2=> ?_
 rcases Nat.lt_or_ge i bs.length with hlt | hge
 · rw [List.getElem_append_left (by simp;omega)]
   simp [List.getElem_append_left hlt]
 · have:i=bs.length:=by simp at h1;omega
   subst this;rw [List.getElem_append_right (by simp;omega)];simp
theorem sparepage_any(h:Hp)(v:Value)(g:PageV)(hv:PageIn h v g)(hz:SzP g)(F:Pr)(w:World)(hF:Sat ((Pr.own h).star F) w):
 Calls Tryz.prog 26 #[v] w fun e w'=> ∃x:SpX,e= .returned (x.pv g)∧x.bs.length=g.items.length∧Stays w w'∧Sat ((SpRow x.ib x.bs g.items).star ((big wholeOf (x.bs.zip g.items)).star ((WholeRow x.db g.data).star ((Pr.own h).star F)))) w':=by
 obtain⟨vi,vd,rfl,hi,hdd⟩:=hv;obtain⟨k0,l0,its,dat,nx⟩:=g;obtain⟨hn,hb,hd⟩:=hz;dsimp only at*;obtain⟨ai,ci,rfl,hcm,rd⟩:=items_rd hi;obtain⟨ad,cd,rfl⟩:=bytes_shape hdd;obtain⟨i0,hi0,hz0,hz1,hz2⟩:=info_parts infoItem;have hn0:(its.length:Int)≤2199023255488:=by omega
 have hd0:(dat.length:Int)≤140737488351232:=by omega
 have hmk:∀wx:World,(Instr.makeSlice 28 (.int .i64 ((its.length:Int)+2)) (.int .i64 ((its.length:Int)+2))).run Tryz.prog wx= .ok (.slice (some ⟨wx.heap.size,0,none⟩) (its.length+2) (its.length+2)) (wx.alloc (.cells (madeCells #[.slice none 0 0,.slice none 0 0,.int .i64 0,.int .i64 0] ((its.length+2)*4)) 58)):=by
  intro wx;have:=run_make (P:=Tryz.prog) wx 28 58 i0 (.agg #[.slice none 0 0,.slice none 0 0,.int .i64 0,.int .i64 0]) Tryz.underlying28 hi0 hz0 .i64 .i64 ((its.length:Int)+2) ((its.length:Int)+2) (by omega) (by omega) (by rw [hz2];omega) (by omega)
  rw [hz1,show ((its.length:Int)+2).toNat=its.length+2 by omega] at this;exact this
 have h1:=((OwnL.in1 hF).alloc (pageC k0 l0 (.slice ai its.length ci) (.slice ad dat.length cd) nx)).alloc (pageC 0 0 (.slice none 0 0) (.slice none 0 0) 0);rw [show (w.alloc (pageC k0 l0 (.slice ai its.length ci) (.slice ad dat.length cd) nx)).heap.size=w.heap.size+1 by simp] at h1;have HS1:=hQ h1
 have HST:=hQ (((Stays.refl w).alloc (pageC k0 l0 (.slice ai its.length ci) (.slice ad dat.length cd) nx)).alloc (pageC 0 0 (.slice none 0 0) (.slice none 0 0) 0));have RD:=hQ rd;have HD:=hQ hdd;have HB:=hQ hb;have HDN:=hQ hd;clear h1 rd hdd hb hd hF hi hcm;go_enter Tryz.func26,Tryz.ntmps26
 go_wp2_with fail
 have T1:=HST.out;have T2:=HS1.out;clear HST HS1;generalize hw0:(w.alloc (pageC k0 l0 (.slice ai its.length ci) (.slice ad dat.length cd) nx)).alloc (pageC 0 0 (.slice none 0 0) (.slice none 0 0) 0)=w0 at*;generalize w.heap.size+1=I1 at*;generalize w.heap.size=I0 at*;have HST0:=hQ T1;have HT2:=hQ T2;clear T1 T2 hw0
 go_cut [3] from 6 to 16 (fun t1 wx=> ∃(J db:Nat),t1= .pointer (some ⟨J,0,none⟩)∧Stays w wx∧
  OwnL [Pr.pts J (pageC k0 l0 (.slice none 0 0) (.slice (some ⟨db,0,none⟩) dat.length (dat.length+64)) nx),WholeRow db dat,Pr.pts I0 (pageC k0 l0 (.slice ai its.length ci) (.slice ad dat.length cd) nx),Pr.pts I1 (pageC 0 0 (.slice none 0 0) (.slice none 0 0) 0),Pr.own h,F] wx)
 case first=>
  have c1:=HT2.out.facts;simp only [CellsAt,Nat.reduceAdd,and_true] at c1;refine wp_region_forked (sz:=75) (by kernel_rfl) [0,1,2,3,4,5,7,8] [(6,[9],[0,1,2,3,4,7,8],[(10,[],[0,1,2,3,4,7,8,9]),(11,[],[])]),(10,[],[0,1,2,3,4,5,7,8],[(6,[9],[0,1,2,3,4,7,8]),(11,[],[])])] rfl (by kernel_rfl) (by kernel_rfl) (by kernel_rfl) ?_;refine wpQ_all _ rfl rfl ?_;simp only [pick,pQ]
  iterate 8 (go_big_quiet_step (fail))
  refine wpQuiet_nil ?_;intro sx hsx;rcases List.mem_cons.1 hsx with rfl | hsx
  · have V:=hQ (spare_any h _ dat _ _ (HT2.out.drew.pull1 (A1:=Pr.own h)) HD.out HDN.out)
    refine wpRest_act rfl ?_;go_wp2_with fail
    refine V.out.mono ?_;rintro e w5 ⟨db,rfl,hs9,st5⟩;have hs10:=OwnL.of2 hs9;clear c1;have c1:=hs10.facts;simp only [CellsAt,Nat.reduceAdd,and_true] at c1;have hs11:=hs10.alloc (pageC k0 l0 (.slice none 0 0) (.slice (some ⟨db,0,none⟩) dat.length (dat.length+64)) nx)
    have HEND:=hQ (And.intro ((HST0.out.drew.trans st5).alloc (pageC k0 l0 (.slice none 0 0) (.slice (some ⟨db,0,none⟩) dat.length (dat.length+64)) nx)) hs11);clear hs9 hs10 hs11 st5 V;go_wp2;refine onN_mk ?_;refine wpQ_all _ rfl rfl ?_;simp only [pick,pQ];iterate 1 (go_big_quiet_step (fail))
    refine wpQuiet_nil ⟨?_,?_⟩
    · exact cQ
    refine wpRest_act rfl ?_;go_wp2;refine onN_mk ?_;refine wpQ_nil ⟨?_,?_⟩
    · exact cQ
    refine wpRest_act rfl ?_;go_wp2;refine onN_mk ?_;refine wpQ_nil ⟨?_,?_⟩
    · exact chk_nil
    refine wpRest_nil ?_;go_wp2;go_meet
    exact⟨_,db,rfl,HEND.out.1,HEND.out.2.to⟩
  · cases List.mem_singleton.1 hsx
    have hs8:=HT2.out.drew.alloc (pageC 0 0 (.slice none 0 0) (.slice none 0 0) 0);have V:=hQ (spare_any h _ dat _ _ (hs8.pull1 (A1:=Pr.own h)) HD.out HDN.out);have HSTA:=hQ (HST0.out.drew.alloc (pageC 0 0 (.slice none 0 0) (.slice none 0 0) 0));clear hs8;refine wpRest_act rfl ?_;go_wp2;refine onN_mk ?_;refine wpQ_nil ⟨?_,?_⟩
    · exact cQ
    refine wpRest_act rfl ?_;go_wp2_with fail
    refine V.out.mono ?_;rintro e w5 ⟨db,rfl,hs9,st5⟩;rw [show w0.drew.heap.size=w0.heap.size by simp] at hs9;have hs10:=OwnL.of2 hs9;clear c1;have c1:=hs10.facts;simp only [CellsAt,Nat.reduceAdd,and_true] at c1
    have hs12:=(((((hs10.set w0.heap.size 0 (.int .i64 k0)).set w0.heap.size 1 (.int .i64 l0)).set w0.heap.size 2 (.slice none 0 0)).set w0.heap.size 3 (.slice (some ⟨db,0,none⟩) dat.length (dat.length+64))).set w0.heap.size 4 (.int .i64 nx))
    have HEND:=hQ (And.intro ((((((HSTA.out.trans st5).setCell ⟨w0.heap.size,0,none⟩ (.int .i64 k0)).setCell ⟨w0.heap.size,1,none⟩ (.int .i64 l0)).setCell ⟨w0.heap.size,2,none⟩ (.slice none 0 0)).setCell ⟨w0.heap.size,3,none⟩ (.slice (some ⟨db,0,none⟩) dat.length (dat.length+64))).setCell ⟨w0.heap.size,4,none⟩ (.int .i64 nx)) hs12);clear hs9 hs10 hs12 st5 V HSTA;go_wp2;refine onN_mk ?_
    refine wpQ_all _ rfl rfl ?_;simp only [pick,pQ];iterate 1 (go_big_quiet_step (fail))
    refine wpQuiet_nil ⟨?_,?_⟩
    · exact cQ
    refine wpRest_act rfl ?_;go_wp2;refine onN_mk ?_;refine wpQ_nil ⟨?_,?_⟩
    · exact chk_nil
    refine wpRest_nil ?_;go_wp2;go_meet
    exact⟨_,db,rfl,HEND.out.1,HEND.out.2.to⟩
 case rest=>
  obtain⟨J,db,rfl,st1,hs2⟩:=hcut;have c1:=hs2.facts;simp only [CellsAt,Nat.reduceAdd,and_true] at c1;have hs3:=OwnL.of1 (z_made (its.length+2) (by simp only [maxLen];omega) hs2.sat);have HS3:=hQ hs3;have HST1:=hQ (st1.alloc (.cells (madeCells #[.slice none 0 0,.slice none 0 0,.int .i64 0,.int .i64 0] ((its.length+2)*4)) 58));clear hs2 hs3 st1 HST0 HT2
  generalize madeCells #[.slice none 0 0,.slice none 0 0,.int .i64 0,.int .i64 0] ((its.length+2)*4)=MC at*;go_wp2_with fail
  clear c1 hmk HD HDN;generalize wc.heap.size=ib at*;generalize wc.alloc (.cells MC 58)=wd at*;clear hi0 hz0 hz1 hz2
  go_loopw [5] (fun i wr=> ∃(k:Nat) (bs:List (Nat × Nat)),k≤its.length+2∧i= .int .i64 k∧bs.length=min k its.length∧Stays w wr∧
   OwnL [ZRow ib (its.length+2) (its.length+2) (spL bs its k),big wholeOf (bs.zip its),Pr.pts J (pageC k0 l0 (.slice none 0 0) (.slice (some ⟨db,0,none⟩) dat.length (dat.length+64)) nx),WholeRow db dat,Pr.pts I0 (pageC k0 l0 (.slice ai its.length ci) (.slice ad dat.length cd) nx),Pr.pts I1 (pageC 0 0 (.slice none 0 0) (.slice none 0 0) 0),Pr.own h,F] wr) (fun i _=>its.length+2-(intOf i).toNat)
  case atStart=>
   refine⟨0,[],Nat.zero_le _,rfl,by simp,HST1.out,?_⟩;rw [spL_zero,List.zip_nil_left,big_nil];exact(HS3.out.emp).to
  case round=>
   obtain⟨k,bs,hk,rfl,hbl,hst,hs⟩:=hrel;have c1:=hs.facts;simp only [CellsAt,Nat.reduceAdd,and_true] at c1;rcases Nat.lt_or_ge k (its.length+2) with hlt | hge
   · rcases Nat.lt_or_ge k its.length with hl1 | hl1
     · have HBL:=hQ (show bs.length=k by omega)
       clear hbl;obtain⟨b,off,ak,ck,av,cv,rfl,hb1,hb2,hcell⟩:=RD.out k hl1;obtain⟨r0,r1,r2,r3⟩:=hcell wr (hs.pull1 (A1:=Pr.own h)).own;have HC:=hQ hcell;have HBK:=hQ (HB.out its[k] (List.getElem_mem hl1));have V:=hQ (spare_any h _ its[k].key _ _ (hs.drew.pull1 (A1:=Pr.own h)) hb1 HBK.out.1);have HB2:=hQ hb2;have HSTR:=hQ hst;clear hs hst hb1 hb2 hcell;go_wp2_with fail
       refine wS 75 [0,1,2,3,4,5,6,7,9,10,11,12,13,14,16,17,18,19,20,21,22,23,24,25,26,27] [(8,[],[0,1,2,3,4,5,6,9,10,11,12,13,14,16,17,18,19,20,21,22,23,24,25,26,27]),(15,[28,29],[0,1,2,3,4,5,6,9,10,11,12,13,16,17,18,19,20,21,22,23,24,25,26,27]),(30,[],[])] ?_;refine wpQ_all _ rfl rfl ?_;simp only [pick,pQ];iterate 26 (go_big_quiet_step (fail))
       refine wpQuiet_nil ?_;refine wpRest_act rfl ?_;go_wp2_with fail
       refine V.out.mono ?_;rintro e w1 ⟨b1,rfl,hs1,st1⟩;have hs2:=OwnL.of2 hs1;clear c1 r0 r1 r2 r3;have c1:=hs2.facts;simp only [CellsAt,Nat.reduceAdd,and_true] at c1;obtain⟨r0,r1,r2,r3⟩:=HC.out w1 (hs2.pull1 (A1:=Pr.own h)).own;have V2:=hQ (spare_any h _ its[k].value _ _ (hs2.pull1 (A1:=Pr.own h)) HB2.out HBK.out.2);have HST2:=hQ (HSTR.out.drew.trans st1);clear hs1 hs2 st1 V HSTR;go_wp2
       refine onN_mk ?_;refine wpQ_nil ⟨?_,?_⟩
       · exact cQ
       refine wpRest_act rfl ?_;go_wp2_with fail
       refine V2.out.mono ?_;rintro e w2 ⟨b2,rfl,hs3,st2⟩;have hs4:=OwnL.of2 hs3;clear c1 r0 r1 r2 r3;have c1:=hs4.facts;simp only [CellsAt,Nat.reduceAdd,and_true] at c1;obtain⟨r0,r1,r2,r3⟩:=HC.out w2 (hs4.pull1 (A1:=Pr.own h)).own;have hs5:=hs4.pull1 (A1:=ZRow ib (its.length+2) (its.length+2) (spL bs its k))
       obtain⟨⟨s0,s1,s2,s3⟩,f0,f1,f2,f3⟩:=z_rd hs5 (spL_len _ _ _) (k:=k) (by rw [spL_len];omega);have hs6:=OwnL.of1 (z_put hs5 (k:=k) (by rw [spL_len];omega) (kvOf (b1,b2) its[k],its[k]));rw [spL_item hl1 HBL.out (b1,b2)] at hs6
       have HST3:=hQ (((((HST2.out.trans st2).setCell ⟨ib,k*4,none⟩ (kvOf (b1,b2) its[k]).1).setCell ⟨ib,k*4+1,none⟩ (kvOf (b1,b2) its[k]).2).setCell ⟨ib,k*4+2,none⟩ (.int .i64 its[k].child)).setCell ⟨ib,k*4+3,none⟩ (.int .i64 its[k].size));have HS6:=hQ hs6;clear hs3 hs4 hs5 hs6 st2 V2 HST2;go_wp2;refine onN_mk ?_;refine wpQ_all _ rfl rfl ?_;simp only [pick,pQ];iterate 2 (go_big_quiet_step (fail))
       refine wpQuiet_nil ⟨?_,?_⟩
       · exact cQ
       refine wpRest_act rfl ?_;go_wp2;refine onN_mk ?_;refine wpQ_nil ⟨?_,?_⟩
       · exact chk_nil
       refine wpRest_nil ?_;go_wp2;refine⟨⟨k+1,bs++ [(b1,b2)],by omega,congrArg (Value.int .i64) (by omega),by have:=HBL.out;rw [List.length_append,List.length_singleton];omega,HST3.out,?_⟩,by simp [intOf];omega⟩;have h9:OwnL (wholeOf ((b1,b2),its[k]) :: _) _:=HS6.out.join2 (WholeRow b1 its[k].key) (WholeRow b2 its[k].value);have h10:=h9.snoc wholeOf (bs.zip its) ((b1,b2),its[k])
       rw [← zip_snoc hl1 HBL.out] at h10;exact h10.to
     · have HBL:=hQ (show bs.length=its.length by omega)
       clear hbl;have hs5:=hs.pull1 (A1:=ZRow ib (its.length+2) (its.length+2) (spL bs its k));obtain⟨⟨s0,s1,s2,s3⟩,f0,f1,f2,f3⟩:=z_rd hs5 (spL_len _ _ _) (k:=k) (by rw [spL_len];omega);have hs6:=OwnL.of1 (z_put hs5 (k:=k) (by rw [spL_len];omega) (extZ k));rw [spL_ext hl1] at hs6
       have HST3:=hQ ((((hst.setCell ⟨ib,k*4,none⟩ (extZ k).1.1).setCell ⟨ib,k*4+1,none⟩ (extZ k).1.2).setCell ⟨ib,k*4+2,none⟩ (.int .i64 (extZ k).2.child)).setCell ⟨ib,k*4+3,none⟩ (.int .i64 (extZ k).2.size));have HS6:=hQ hs6;clear hs hst hs5 hs6;go_wp2;refine⟨⟨k+1,bs,by omega,congrArg (Value.int .i64) (by omega),by have:=HBL.out;omega,HST3.out,?_⟩,by simp [intOf];omega⟩;exact HS6.out.to
   · have hkl:k=its.length+2:=by omega
     subst hkl;have HBL:=hQ (show bs.length=its.length by omega);have HS:=hQ hs;have HSTR:=hQ hst;clear hbl hs hst;go_wp2
     have h5:=((((((HS.out.set J 2 (.slice (some ⟨ib,0,none⟩) its.length (its.length+2))).set I1 0 (.int .i64 k0)).set I1 1 (.int .i64 l0)).set I1 2 (.slice (some ⟨ib,0,none⟩) its.length (its.length+2))).set I1 3 (.slice (some ⟨db,0,none⟩) dat.length (dat.length+64))).set I1 4 (.int .i64 nx))
     refine bodyPost_ret (results_cell_row rfl _ _ I1 _ _ _ _ rfl (h5.pts I1).pts_heap Tryz.underlying31 rfl infoPage) rfl ?_;refine⟨⟨ib,db,bs⟩,rfl,HBL.out,(((((HSTR.out.setCell _ _).setCell _ _).setCell _ _).setCell _ _).setCell _ _).setCell _ _,?_⟩;exact h5.end5
end Go.Proofs.YtbobcmimkonnoaaGreat.Y8
namespace Go.Proofs.YtbobcmimkonnoaaGreat.C9
open ChangeShapes WideShapes ChangeAt RowKit Sl Cop M3 D4 M2 N2 Y2 E4 G4 J4 L6 M7 B8 K8 M8 Q8 V7 C8 E8 P8
abbrev workC(v r:Nat)(bv wv tv xv:Value):Obj:= .cells #[.pointer (some ⟨v,0,none⟩),.pointer (some ⟨r,0,none⟩),bv,wv,tv,xv] 65
def x17(z:Int):Int:=bits .xor .u8 z 17
def xorK(k:Nat)(l:List Int):List Int:=(l.take k).map x17++l.drop k
theorem chain_len {look:Int→Option PageV}{N:Nat}:∀(k:Nat) (out:List Int) (n:Int),out.length≤N→(chainL look N k out n).1.length≤N
 | 0,out,n,h=>by unfold chainL;exact h
 | k+1,out,n,h=>by
   unfold chainL;split
   · exact h
   · split
     · simp
     · split
       · simp
       · split
         · rename_i hc
           exact chain_len k _ _ (by have:=hc.1;rw [List.length_append];omega)
         · simp
abbrev XRow(b k:Nat)(l:List Int):Pr:=Row 5 1 (.slice (some ⟨b,0,none⟩) (l.length+64) (l.length+64)) (l.length+64) ((spareL (xorK k l)).map (Value.int .u8))
end Go.Proofs.YtbobcmimkonnoaaGreat.C9
namespace Go.Proofs.YtbobcmimkonnoaaGreat.L9
open ChangeShapes WideShapes ChangeAt RowKit Sl Cop D2 M3 Q3 D4 M2 N2 Y2 E4 G4 X4 E6 J4 L6 M7 Q7 S6 V7 E8 C9
theorem state_eq {s t:PoolS}(hc:s.counts=t.counts)(hl:s.last=t.last)(n:Int):s.state n=t.state n:=by
 obtain⟨r1,c1,l1,a1,f1⟩:=s;obtain⟨r2,c2,l2,a2,f2⟩:=t;dsimp only at hc hl;subst hc hl;rfl
end Go.Proofs.YtbobcmimkonnoaaGreat.L9
namespace Go.Proofs.YtbobcmimkonnoaaGreat.M9
open ChangeShapes WideShapes ChangeAt RowKit Sl Cop M2 N2 Y2 E4 J4 L4 U4 L6 S6 Y8
theorem eqpage_sized(ha hb:Hp)(va vb:Value)(g:PageV)(h1:PageIn ha va g)(h2:PageIn hb vb g)(hf:SzP g)(w:World)(l1:ha.le w)(l2:hb.le w):
 Calls Tryz.prog 66 #[va,vb] w fun e w'=>e= .returned (.bool true)∧Only w w':=by
 obtain⟨i1,d1,rfl,hi1,hd1⟩:=h1;obtain⟨i2,d2,rfl,hi2,hd2⟩:=h2;obtain⟨a1,c1,rfl,_,rd1⟩:=items_rd hi1;obtain⟨a3,c3,rfl,_,rd2⟩:=items_rd hi2;obtain⟨a2,c2,rfl⟩:=bytes_shape hd1;obtain⟨a4,c4,rfl⟩:=bytes_shape hd2;obtain⟨k,l,its,dat,nx⟩:=g;dsimp only at*;have hn1:(its.length:Int)≤2199023255488:=by have:=hf.n;dsimp only at this;omega
 have hdl:dat.length≤9000000000000000000:=by have:=hf.d;dsimp only at this;omega
 have hkk:∀y∈its,y.key.length≤9000000000000000000∧y.value.length≤9000000000000000000:=fun y hy=>by have:=hf.k y hy;omega
 obtain⟨w0,hw0⟩:∃w0,(w.alloc (pageC k l (.slice a1 its.length c1) (.slice a2 dat.length c2) nx)).alloc (pageC k l (.slice a3 its.length c3) (.slice a4 dat.length c4) nx)=w0:=⟨_,rfl⟩;have ho0:Only w w0:=hw0 ▸ ((Only.refl w).alloc _).alloc _
 have facts:∀wr,Only w0 wr→(wr.cell? ⟨w.heap.size,0,none⟩=some (.int .i64 k)∧wr.cell? ⟨w.heap.size,1,none⟩=some (.int .i64 l)∧wr.cell? ⟨w.heap.size,2,none⟩=some (.slice a1 its.length c1)∧wr.cell? ⟨w.heap.size,3,none⟩=some (.slice a2 dat.length c2)∧wr.cell? ⟨w.heap.size,4,none⟩=some (.int .i64 nx))∧
  (wr.cell? ⟨w.heap.size+1,0,none⟩=some (.int .i64 k)∧wr.cell? ⟨w.heap.size+1,1,none⟩=some (.int .i64 l)∧wr.cell? ⟨w.heap.size+1,2,none⟩=some (.slice a3 its.length c3)∧wr.cell? ⟨w.heap.size+1,3,none⟩=some (.slice a4 dat.length c4)∧wr.cell? ⟨w.heap.size+1,4,none⟩=some (.int .i64 nx))∧ha.le wr∧hb.le wr∧w.heap.size+1<wr.heap.size:=by
  intro wr ho;subst hw0;have s1:Sat ((Pr.pts w.heap.size (pageC k l (.slice a1 its.length c1) (.slice a2 dat.length c2) nx)).star Pr.emp) (w.alloc (pageC k l (.slice a1 its.length c1) (.slice a2 dat.length c2) nx)):=(sat_emp w).alloc _;have s2:=s1.alloc (pageC k l (.slice a3 its.length c3) (.slice a4 dat.length c4) nx)
  rw [show (w.alloc (pageC k l (.slice a1 its.length c1) (.slice a2 dat.length c2) nx)).heap.size=w.heap.size+1 by simp] at s2;have s3:=s2.only ho;obtain⟨p0,p1,p2,p3,p4,_,_⟩:=pts5 s3.right;obtain⟨r0,r1,r2,r3,r4,_,zz⟩:=pts5 s3;exact⟨⟨p0,p1,p2,p3,p4⟩,⟨r0,r1,r2,r3,r4⟩,le_only (le_only l1 ho0) ho,le_only (le_only l2 ho0) ho,zz⟩
 have FA:=hQ facts;have HO0:=hQ ho0;have RD1:=hQ rd1;have RD2:=hQ rd2;have HD1:=hQ hd1;have HD2:=hQ hd2;have HK:=hQ hkk;clear facts ho0 rd1 rd2 hd1 hd2 hi1 hi2 l1 l2 hkk hf;obtain⟨⟨p0,p1,p2,p3,p4⟩,⟨r0,r1,r2,r3,r4⟩,e1,e2,z⟩:=FA.out w0 (Only.refl _);go_enter Tryz.func66,Tryz.ntmps66
 go_wp2_with fail
 refine(eq_same ha hb _ _ dat HD1.out HD2.out hdl _ e1 e2).mono ?_;rintro e w1 ⟨rfl,ho1⟩;clear p0 p1 p2 p3 p4 r0 r1 r2 r3 r4 e1 e2 z;go_wp2_with fail
 go_loopw [5] (fun i wr=> ∃r:Nat,r≤its.length∧i= .int .i64 r∧Only w0 wr) (fun i _=>its.length-(intOf i).toNat)
 case atStart=>exact⟨0,Nat.zero_le _,rfl,ho1⟩
 case round=>
  obtain⟨r,hr,rfl,ho⟩:=hrel;obtain⟨⟨p0,p1,p2,p3,p4⟩,⟨r0,r1,r2,r3,r4⟩,e1,e2,z⟩:=FA.out wr ho;rcases Nat.lt_or_ge r its.length with hlt | hge
  · obtain⟨b1,o1,ak1,ck1,av1,cv1,rfl,hbk1,hbv1,hc1⟩:=RD1.out r hlt
    obtain⟨b2,o2,ak2,ck2,av2,cv2,rfl,hbk2,hbv2,hc2⟩:=RD2.out r hlt;obtain⟨s0,s1,s2,s3⟩:=hc1 wr e1;obtain⟨t0,t1,t2,t3⟩:=hc2 wr e2;have HX:=hQ (HK.out its[r] (List.getElem_mem hlt));have HC1:=hQ hc1;have HC2:=hQ hc2;have HO:=hQ ho;clear hc1 hc2 ho;generalize its[r]=x at*;go_wp2_with fail
    refine wS 61 [0,1,2,3,4,5,6,7,8,9] [(10,[11],[0,1,2,3,5,6,7,8])] ?_;refine wpQ_all _ rfl rfl ?_;simp only [pick,pQ];iterate 10 (go_big_quiet_step (fail))
    refine wpQuiet_nil ?_;refine wpRest_act rfl ?_;go_wp2_with fail
    refine(eqitem_same ha hb _ _ x ⟨_,_,rfl,hbk1,hbv1⟩ ⟨_,_,rfl,hbk2,hbv2⟩ HX.out _ (le_only e1 ((Only.refl _).drew)) (le_only e2 ((Only.refl _).drew))).mono ?_;rintro e w2 ⟨rfl,ho2⟩;have HO2:=hQ (HO.out.drew.trans ho2);clear p0 p1 p2 p3 p4 r0 r1 r2 r3 r4 e1 e2 z s0 s1 s2 s3 t0 t1 t2 t3;obtain⟨⟨p0,p1,p2,p3,p4⟩,⟨r0,r1,r2,r3,r4⟩,e1,e2,z⟩:=FA.out w2 HO2.out;obtain⟨s0,s1,s2,s3⟩:=HC1.out w2 e1
    obtain⟨t0,t1,t2,t3⟩:=HC2.out w2 e2;go_wp2;refine onN_mk ?_;refine wpQ_all _ rfl rfl ?_;simp only [pick,pQ];iterate 1 (go_big_quiet_step (fail))
    refine wpQuiet_nil ⟨?_,?_⟩
    · exact cQ
    refine wpRest_nil ?_;go_wp2;go_roundw
    case rel=>exact⟨r+1,by omega,congrArg (Value.int .i64) (by omega),HO2.out⟩
    case measure=>simp [intOf];omega
  · have hrl:r=its.length:=by omega
    subst hrl;have HO:=hQ ho;clear ho;go_wp2;go_ret;exact⟨rfl,HO0.out.trans HO.out⟩
end Go.Proofs.YtbobcmimkonnoaaGreat.M9
namespace Go.Proofs.YtbobcmimkonnoaaGreat.N9
open ChangeShapes WideShapes ChangeAt RowKit Sl Cop M3 M2 N2 E4 G4 J4 Y4 K8 M8 T8 Y8 X8
theorem big_inV {α:Type}{f:α→Pr}:∀ {l:List α} {h:Hp},big f l h→∀x∈l,∃a,f x a∧a.sub h
 | [],_,_,_,hx=>by cases hx
 | y :: l,h,hb,x,hx=>by
   obtain⟨a,b,ha,hb',s1,s2⟩:=star_sub (show ((f y).star (big f l)) h from hb);rcases List.mem_cons.1 hx with rfl | hx
   · exact⟨a,ha,s1⟩
   · obtain⟨c,hc,s3⟩:=big_inV hb' x hx
     exact⟨c,hc,s3.trans s2⟩
theorem nums_sub {a b:Hp}(hs:a.sub b){v:Value}{l:List NumV}(h:NumsIn a v l):NumsIn b v l:=by
 obtain⟨xs,h1,h2,h3⟩:=h;exact⟨xs,h1,h2.sub hs,fun i hx hl=>⟨(h3 i hx hl).1.sub hs,(h3 i hx hl).2.sub hs⟩⟩
theorem nums_cells {α:Type}(cells:α→List Value)(num:α→NumV)(vals:α→Value × Value)(hc:∀y,cells y=numCells (vals y,num y)){h:Hp}{v:Value}{ys:List α}(hr:RowIn h 6 v ys.length (ys.flatMap cells))
 (hb:∀y∈ys,ItemsIn h (vals y).1 (num y).page.items∧Bytes h (vals y).2 (num y).page.data):NumsIn h v (ys.map num):=by
 refine⟨ys.map vals,by simp,?_,fun i hx hl=> ?_⟩
 · rw [List.zip_map',List.flatMap_map,List.length_map]
   have:(fun x=>numCells (vals x,num x))=cells:=by funext y;exact(hc y).symm
   rw [this];exact hr
 · rw [List.getElem_map,List.getElem_map]
   exact hb _ (List.getElem_mem _)
structure NX where
 n:NumV
 x:SpX
def nxV(y:NX):Value × Value:=(.slice (some ⟨y.x.ib,0,none⟩) y.n.page.items.length (y.n.page.items.length+2),.slice (some ⟨y.x.db,0,none⟩) y.n.page.data.length (y.n.page.data.length+64))
def nxCells(y:NX):List Value:= [.int .i64 y.n.no,.int .i64 y.n.page.kind,.int .i64 y.n.page.level,(nxV y).1,(nxV y).2,.int .i64 y.n.page.next]
def nxOf(y:NX):Pr:=SpRows y.x y.n.page
def NxOk(y:NX):Prop:=y.x.bs.length=y.n.page.items.length
structure WX where
 n:NumV
 vi:Value
 vd:Value
 h:Hp
def wxCells(y:WX):List Value:= [.int .i64 y.n.no,.int .i64 y.n.page.kind,.int .i64 y.n.page.level,y.vi,y.vd,.int .i64 y.n.page.next]
def wxOf(y:WX):Pr:=Pr.own y.h
def WxOk(y:WX):Prop:=ItemsIn y.h y.vi y.n.page.items∧Bytes y.h y.vd y.n.page.data
abbrev NxRow(v:Value)(n:Nat)(ys:List NX):Pr:=Row 78 6 v n (ys.flatMap nxCells)
abbrev WxRow(v:Value)(n:Nat)(ys:List WX):Pr:=Row 78 6 v n (ys.flatMap wxCells)
theorem nx_in {v:Value}{ys:List NX}{h:Hp}(hh:((NxRow v ys.length ys).star (big nxOf ys)) h)(ok:∀y∈ys,NxOk y):NumsIn h v (ys.map (·.n)):=by
 obtain⟨a,b,ha,hb,s1,s2⟩:=star_sub hh;refine nums_cells nxCells (·.n) nxV (fun y=>rfl) ((Row.rowIn ha).sub s1) fun y hy=> ?_
 obtain⟨c,hc,s3⟩:=big_inV hb y hy;obtain⟨vi,vd,e,h1,h2⟩:=spRows_in (x:=y.x) (g:=y.n.page) (ok y hy) hc;unfold SpX.pv at e;simp only [pageV,Value.agg.injEq,Array.mk.injEq,List.cons.injEq,and_true,true_and] at e;obtain⟨rfl,rfl⟩:=e;exact⟨(h1.sub s3).sub s2,(h2.sub s3).sub s2⟩
theorem wx_in {v:Value}{ys:List WX}{h:Hp}(hh:((WxRow v ys.length ys).star (big wxOf ys)) h)(ok:∀y∈ys,WxOk y):NumsIn h v (ys.map (·.n)):=by
 obtain⟨a,b,ha,hb,s1,s2⟩:=star_sub hh;refine nums_cells wxCells (·.n) (fun y=>(y.vi,y.vd)) (fun y=>rfl) ((Row.rowIn ha).sub s1) fun y hy=> ?_
 obtain⟨c,hc,s3⟩:=big_inV hb y hy;obtain⟨h1,h2⟩:=ok y hy;have e:c=y.h:=hc;subst e;exact⟨(h1.sub s3).sub s2,(h2.sub s3).sub s2⟩
theorem z_child {b n c k:Nat}{zs:List It}{F:Pr}{w:World}(h:Sat ((ZRow b n c zs).star F) w)(hl:zs.length=n)(hk:k<zs.length):
 ∃u:Int,w.cell? ⟨b,k*4+2,none⟩=some (.int .i64 u)∧w.frozen? ⟨b,k*4+2,none⟩=false∧∀u':Int,∃zs':List It,zs'.length=zs.length∧Sat ((ZRow b n c zs').star F) (w.setCell ⟨b,k*4+2,none⟩ (.int .i64 u')):=by
 obtain⟨⟨_,_,h2,_⟩,_,_,f2,_⟩:=z_rd h hl hk;refine⟨_,h2,f2,fun u'=>⟨zs.set k (zs[k].1,{ zs[k].2 with child:=u' }),by simp,?_⟩⟩;have h3:=Row.set h (k*4+2) (by rw [flat_len itCells 4 (fun _=>rfl)];omega) (.int .i64 u');rw [flat_set itCells 4 (fun _=>rfl) 2 (.int .i64 u') (zs[k].1,{ zs[k].2 with child:=u' }) (by omega) zs k hk rfl] at h3;exact h3
abbrev IRow(b n:Nat)(zs:List Int):Pr:=Row 3 1 (.slice (some ⟨b,0,none⟩) (n+64) (n+64)) (n+64) (zs.map (Value.int .i64))
theorem i_cell {b n k:Nat}{zs:List Int}{F:Pr}{w:World}(h:Sat ((IRow b n zs).star F) w)(hl:zs.length=n+64)(hk:k<n):
 ∃z:Int,w.cell? ⟨b,k,none⟩=some (.int .i64 z)∧w.frozen? ⟨b,k,none⟩=false∧∀u:Int,Sat ((IRow b n (zs.set k u)).star F) (w.setCell ⟨b,k,none⟩ (.int .i64 u)):=by
 obtain⟨_,_,e,hlen,hc⟩:=Row.read h;cases e;obtain⟨b',eb,hd⟩:=hc (by omega);cases eb;refine⟨zs[k]'(by omega),?_,(hd k (by omega)).2,fun u=> ?_⟩
 · rw [(hd k (by omega)).1,List.getElem?_map,List.getElem?_eq_getElem (by omega)]
   rfl
 · have h2:=Row.set h k (by rw [List.length_map];omega) (.int .i64 u)
   rw [← List.map_set] at h2;exact h2
theorem nx_rd {v:Value}{n:Nat}{ys:List NX}{F:Pr}{w:World}(h:Sat ((NxRow v n ys).star F) w)(hl:ys.length=n){i:Nat}(hi:i<ys.length):∃b c,v= .slice (some ⟨b,0,none⟩) n c∧b<w.heap.size∧
 w.cell? ⟨b,i*6,none⟩=some (.int .i64 ys[i].n.no)∧w.cell? ⟨b,i*6+1,none⟩=some (.int .i64 ys[i].n.page.kind)∧w.cell? ⟨b,i*6+2,none⟩=some (.int .i64 ys[i].n.page.level)∧
 w.cell? ⟨b,i*6+3,none⟩=some (nxV ys[i]).1∧w.cell? ⟨b,i*6+4,none⟩=some (nxV ys[i]).2∧w.cell? ⟨b,i*6+5,none⟩=some (.int .i64 ys[i].n.page.next):=by
 obtain⟨a,c,e,hlen,hc⟩:=Row.read h;subst e;obtain⟨b,eb,hd⟩:=hc (by omega);subst eb
 have at':∀j,j<6→∀u,(nxCells ys[i])[j]? =some u→w.cell? ⟨b,i*6+j,none⟩=some u:=fun j hj u hu=>by
  have h3:=flat_at nxCells 6 (fun _=>rfl) ys i j hi hj;rw [(hd (i*6+j) (by omega)).1,h3];exact hu
 have k0:=at' 0 (by omega) _ rfl;exact⟨b,c,rfl,World.block_lt_of_cell? _ _ k0,k0,at' 1 (by omega) _ rfl,at' 2 (by omega) _ rfl,at' 3 (by omega) _ rfl,at' 4 (by omega) _ rfl,at' 5 (by omega) _ rfl⟩
theorem right_load3 {refs:Int}{cs:List Int}{l:List NumV}(h:(loadE refs cs l).1=0):Right cs (loadE refs cs l).2∧∀c∈cs,0≤c∧c≤refs:=by
 refine⟨right_load h,?_⟩;unfold loadE at h;split at h
 · cases h
 · split at h
   · cases h
   · rename_i hb
     intro c hc;have h1:badC refs cs=false:=by simpa using hb
     unfold badC at h1;have h2:=List.any_eq_false.1 h1 c hc;simp only [decide_eq_true_eq] at h2;omega
end Go.Proofs.YtbobcmimkonnoaaGreat.N9
namespace Go.Proofs.YtbobcmimkonnoaaGreat.P9
open ChangeShapes WideShapes ChangeAt RowKit Sl Cop M3 D4 M2 N2 Y2 E4 G4 J4 L6 P6 K8 M8 T8 Y8 M9
theorem sp_item {ib:Nat}{bs:List (Nat × Nat)}{its:List ItemV}{k:Nat}{F:Pr}{w:World}(h:Sat ((SpRow ib bs its).star F) w)(hl:bs.length=its.length)(hk:k<its.length):
 w.cell? ⟨ib,k*4,none⟩=some (.slice (some ⟨(bs[k]'(by omega)).1,0,none⟩) its[k].key.length (its[k].key.length+64))∧w.cell? ⟨ib,k*4+1,none⟩=some (.slice (some ⟨(bs[k]'(by omega)).2,0,none⟩) its[k].value.length (its[k].value.length+64)):=by
 obtain⟨⟨h1,h2,_,_⟩,_⟩:=z_rd h (spL_len _ _ _) (k:=k) (by rw [spL_len];omega)
 have e:(spL bs its (its.length+2))[k]'(by rw [spL_len];omega)=(kvOf (bs[k]'(by omega)) its[k],its[k]):=by
  rw [spL_at (by omega)];unfold spZ;rw [if_pos (by omega),dif_pos hk];simp [List.getD,List.getElem?_eq_getElem (show k<bs.length by omega)]
 rw [e] at h1 h2;exact⟨h1,h2⟩
theorem sp_ext {ib:Nat}{bs:List (Nat × Nat)}{its:List ItemV}{k:Nat}{F:Pr}{w:World}(h:Sat ((SpRow ib bs its).star F) w)(h1:its.length≤k)(h2:k<its.length+2):
 w.cell? ⟨ib,k*4,none⟩=some (.slice none 0 0)∧w.cell? ⟨ib,k*4+1,none⟩=some (.slice none 0 0)∧w.cell? ⟨ib,k*4+2,none⟩=some (.int .i64 (-5-(k:Int)))∧w.cell? ⟨ib,k*4+3,none⟩=some (.int .i64 (-9)):=by
 obtain⟨h3,_⟩:=z_rd h (spL_len _ _ _) (k:=k) (by rw [spL_len];omega)
 have e:(spL bs its (its.length+2))[k]'(by rw [spL_len];omega)=extZ k:=by
  rw [spL_at (by omega)];unfold spZ;rw [if_pos h2,dif_neg (by omega)]
 rw [e] at h3;exact h3
theorem keptpage_any(x:SpX)(g:PageV)(hbl:x.bs.length=g.items.length)(hz:SzP g)(h:Hp)(v:Value)(hv:PageIn h v g)(F:Pr)(w:World)
 (hF:Sat ((SpRow x.ib x.bs g.items).star ((big wholeOf (x.bs.zip g.items)).star ((WholeRow x.db g.data).star ((Pr.own h).star F)))) w):
 Calls Tryz.prog 31 #[x.pv g,v] w fun e w'=>e= .returned (.bool true)∧Only w w':=by
 obtain⟨vi,vd,rfl,hi,hdd⟩:=id hv;obtain⟨ai,ci,rfl,_,rd⟩:=items_rd hi;obtain⟨ad,cd,rfl⟩:=bytes_shape hdd;obtain⟨ib,db,bs⟩:=x;dsimp only at hbl hF
 obtain⟨w0,hw0⟩:∃w0,(w.alloc (pageC g.kind g.level (.slice (some ⟨ib,0,none⟩) g.items.length (g.items.length+2)) (.slice (some ⟨db,0,none⟩) g.data.length (g.data.length+64)) g.next)).alloc (pageC g.kind g.level (.slice ai g.items.length ci) (.slice ad g.data.length cd) g.next)=w0:=⟨_,rfl⟩;have ho0:Only w w0:=hw0 ▸ ((Only.refl w).alloc _).alloc _
 have hs0:=((OwnL.in4 hF).alloc (pageC g.kind g.level (.slice (some ⟨ib,0,none⟩) g.items.length (g.items.length+2)) (.slice (some ⟨db,0,none⟩) g.data.length (g.data.length+64)) g.next)).alloc (pageC g.kind g.level (.slice ai g.items.length ci) (.slice ad g.data.length cd) g.next)
 rw [hw0,show (w.alloc (pageC g.kind g.level (.slice (some ⟨ib,0,none⟩) g.items.length (g.items.length+2)) (.slice (some ⟨db,0,none⟩) g.data.length (g.data.length+64)) g.next)).heap.size=w.heap.size+1 by simp] at hs0
 have EQ:=hQ (show ∀wr,Only w0 wr→Calls Tryz.prog 66 #[pageV g.kind g.level (.slice (some ⟨ib,0,none⟩) g.items.length (g.items.length+2)) (.slice (some ⟨db,0,none⟩) g.data.length (g.data.length+64)) g.next,pageV g.kind g.level (.slice ai g.items.length ci) (.slice ad g.data.length cd) g.next] wr fun e w'=>e= .returned (.bool true)∧Only wr w' by
  intro wr ho
  have hs:=hs0.ext ho.heap
  have h2:Sat ((SpRows ⟨ib,db,bs⟩ g).star (starL _)) wr:=(hs.join3 (SpRow ib bs g.items) (big wholeOf (bs.zip g.items)) (WholeRow db g.data)).sat
  obtain⟨ha,hq,h3⟩:=h2.toOwn
  exact eqpage_sized ha h _ _ g (spRows_in hbl hq) hv hz wr h3.own (hs.pull1 (A1:=Pr.own h)).own)
 have KD:=hQ (show ∀wr,Only w0 wr→Calls Tryz.prog 91 #[.slice (some ⟨db,0,none⟩) g.data.length (g.data.length+64),.slice ad g.data.length cd] wr fun e w'=>e= .returned (.bool true)∧Only wr w' by
  intro wr ho
  have hs:=hs0.ext ho.heap
  exact kept_any db g.data h _ hdd hz.d _ wr (hs.pull2 (A1:=WholeRow db g.data) (A2:=Pr.own h)))
 have KK:=hQ (show ∀wr,Only w0 wr→∀k (hk:k<g.items.length) a c,Bytes h (.slice a g.items[k].key.length c) g.items[k].key→Calls Tryz.prog 91 #[.slice (some ⟨(bs[k]'(by omega)).1,0,none⟩) g.items[k].key.length (g.items[k].key.length+64),.slice a g.items[k].key.length c] wr fun e w'=>e= .returned (.bool true)∧Only wr w' by
  intro wr ho k hk a c hx
  have hbk:k<bs.length:=by omega
  have hs:=hs0.ext ho.heap
  have hzk:k<(bs.zip g.items).length:=by simp;omega
  have h1:=(hs.take wholeOf (bs.zip g.items) k hzk).sat
  rw [show (bs.zip g.items)[k]=(bs[k],g.items[k]) by simp] at h1
  have h2:Sat (((WholeRow bs[k].1 g.items[k].key).star (WholeRow bs[k].2 g.items[k].value)).star _) wr:=h1
  rw [Pr.star_assoc] at h2
  have h3:=OwnL.of2 h2
  exact kept_any _ g.items[k].key h _ hx (hz.k _ (List.getElem_mem hk)).1 _ wr (h3.pull2 (A1:=WholeRow bs[k].1 g.items[k].key) (A2:=Pr.own h)))
 have KV:=hQ (show ∀wr,Only w0 wr→∀k (hk:k<g.items.length) a c,Bytes h (.slice a g.items[k].value.length c) g.items[k].value→Calls Tryz.prog 91 #[.slice (some ⟨(bs[k]'(by omega)).2,0,none⟩) g.items[k].value.length (g.items[k].value.length+64),.slice a g.items[k].value.length c] wr fun e w'=>e= .returned (.bool true)∧Only wr w' by
  intro wr ho k hk a c hx
  have hbk:k<bs.length:=by omega
  have hs:=hs0.ext ho.heap
  have hzk:k<(bs.zip g.items).length:=by simp;omega
  have h1:=(hs.take wholeOf (bs.zip g.items) k hzk).sat
  rw [show (bs.zip g.items)[k]=(bs[k],g.items[k]) by simp] at h1
  have h2:Sat (((WholeRow bs[k].1 g.items[k].key).star (WholeRow bs[k].2 g.items[k].value)).star _) wr:=h1
  rw [Pr.star_assoc] at h2
  have h3:=OwnL.of2 h2
  exact kept_any _ g.items[k].value h _ hx (hz.k _ (List.getElem_mem hk)).2 _ wr (h3.pull2 (A1:=WholeRow bs[k].2 g.items[k].value) (A2:=Pr.own h)))
 have HS0:=hQ hs0;have HO0:=hQ ho0;have RD:=hQ rd;have HBL:=hQ hbl;have hn0:(g.items.length:Int)≤2199023255488:=by have:=hz.n;omega
 clear hs0 ho0 rd hi hdd hv hF hz;have c1:=HS0.out.facts;simp only [CellsAt,Nat.reduceAdd,and_true] at c1;rw [show SpX.pv ⟨ib,db,bs⟩ g=pageV g.kind g.level (.slice (some ⟨ib,0,none⟩) g.items.length (g.items.length+2)) (.slice (some ⟨db,0,none⟩) g.data.length (g.data.length+64)) g.next from rfl];go_enter Tryz.func31,Tryz.ntmps31
 go_wp2_with fail
 refine(EQ.out w0 (Only.refl _)).mono ?_;rintro e w1 ⟨rfl,ho1⟩;clear c1;have c1:=(HS0.out.ext ho1.heap).facts;simp only [CellsAt,Nat.reduceAdd,and_true] at c1;go_wp2_with fail
 refine(KD.out w1 ho1).mono ?_;rintro e w2 ⟨rfl,ho2⟩;have ho2:=ho1.trans ho2;clear c1 ho1;have c1:=(HS0.out.ext ho2.heap).facts;simp only [CellsAt,Nat.reduceAdd,and_true] at c1;clear EQ KD;go_wp2_with fail
 clear c1;go_loopw [6] (fun i wr=> ∃k:Nat,k≤g.items.length+2∧i= .int .i64 k∧Only w0 wr) (fun i _=>g.items.length+2-(intOf i).toNat)
 case atStart=>exact⟨0,Nat.zero_le _,rfl,ho2⟩
 case round=>
  obtain⟨k,hk,rfl,ho⟩:=hrel;have hs:=HS0.out.ext ho.heap;have c1:=hs.facts;simp only [CellsAt,Nat.reduceAdd,and_true] at c1;rcases Nat.lt_or_ge k (g.items.length+2) with hlt | hge
  · rcases Nat.lt_or_ge k g.items.length with hl1 | hl1
    · obtain⟨b,off,ak,ck,av,cv,rfl,hb1,hb2,hcell⟩:=RD.out k hl1
      obtain⟨r0,r1,r2,r3⟩:=hcell wr (hs.pull1 (A1:=Pr.own h)).own;obtain⟨s0,s1⟩:=sp_item (hs.pull1 (A1:=SpRow ib bs g.items)) HBL.out hl1;have HC:=hQ hcell;have V:=hQ (fun wx (hx:Only w0 wx)=>KK.out wx hx k hl1 ak ck hb1);have V2:=hQ (fun wx (hx:Only w0 wx)=>KV.out wx hx k hl1 av cv hb2)
      have SI:=hQ (fun wx (hx:Only w0 wx)=>sp_item ((HS0.out.ext hx.heap).pull1 (A1:=SpRow ib bs g.items)) HBL.out hl1);have HO:=hQ ho;clear hs ho hb1 hb2 hcell KK KV;generalize bs[k]'(by omega)=p at*;go_wp2_with fail
      refine wS 99 [0,1,2,3,4,5,6,7,8,9,10,11] [(12,[13,14,15,16,17,18,19,20,21,22,23,24,25,26],[0,1,2,3,4,6,7,8,9,10]),(27,[28,29],[0,1,2,3,4,6,7,8,9,10,13,15,16,17,18,19,21,22,23,24,25])] ?_;refine wpQ_all _ rfl rfl ?_;simp only [pick,pQ];iterate 12 (go_big_quiet_step (fail))
      refine wpQuiet_nil ?_;refine wpRest_act rfl ?_;go_wp2_with fail
      refine(V.out _ HO.out.drew).mono ?_;rintro e w3 ⟨rfl,ho3⟩;have HO3:=hQ (HO.out.drew.trans ho3);clear c1 r0 r1 r2 r3 s0 s1 ho3;have hs:=HS0.out.ext HO3.out.heap;have c1:=hs.facts;simp only [CellsAt,Nat.reduceAdd,and_true] at c1;obtain⟨r0,r1,r2,r3⟩:=HC.out w3 (hs.pull1 (A1:=Pr.own h)).own;obtain⟨s0,s1⟩:=SI.out w3 HO3.out;clear hs;go_wp2;refine onN_mk ?_;refine wpQ_all _ rfl rfl ?_
      simp only [pick,pQ];iterate 14 (go_big_quiet_step (fail))
      refine wpQuiet_nil ⟨?_,?_⟩
      · exact cQ
      refine wpRest_act rfl ?_;go_wp2_with fail
      refine(V2.out _ HO3.out).mono ?_;rintro e w4 ⟨rfl,ho4⟩;have HO4:=hQ (HO3.out.trans ho4);clear c1 r0 r1 r2 r3 s0 s1 ho4;have hs:=HS0.out.ext HO4.out.heap;have c1:=hs.facts;simp only [CellsAt,Nat.reduceAdd,and_true] at c1;obtain⟨r0,r1,r2,r3⟩:=HC.out w4 (hs.pull1 (A1:=Pr.own h)).own;obtain⟨s0,s1⟩:=SI.out w4 HO4.out;clear hs;go_wp2;refine onN_mk ?_;refine wpQ_all _ rfl rfl ?_;simp only [pick,pQ]
      iterate 2 (go_big_quiet_step (fail))
      refine wpQuiet_nil ⟨?_,?_⟩
      · exact cQ
      refine wpRest_nil ?_;go_wp2;refine⟨⟨k+1,by omega,congrArg (Value.int .i64) (by omega),HO4.out⟩,by simp [intOf];omega⟩
    · obtain⟨s0,s1,s2,s3⟩:=sp_ext (hs.pull1 (A1:=SpRow ib bs g.items)) hl1 hlt
      have HO:=hQ ho;clear hs ho;go_wp2;refine⟨⟨k+1,by omega,congrArg (Value.int .i64) (by omega),HO.out⟩,by simp [intOf];omega⟩
  · have hkl:k=g.items.length+2:=by omega
    subst hkl;have HO:=hQ ho;clear hs ho;go_wp2;go_ret;exact⟨rfl,HO0.out.trans HO.out⟩
end Go.Proofs.YtbobcmimkonnoaaGreat.P9
