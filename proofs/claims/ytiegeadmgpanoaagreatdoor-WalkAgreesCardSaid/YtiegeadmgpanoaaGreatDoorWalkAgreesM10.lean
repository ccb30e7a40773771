/- The document's Check; the conditions stand as hypotheses. -/
import Derived.Test.YtiegeadmgpanoaaGreatDoorWalkChecksM29
import Derived.Test.YtiegeadmgpanoaaGreatDoorWalkAgreesM06
import Derived.Test.YtiegeadmgpanoaaGreatDoorWalkChecksM28
import Derived.Test.YtiegeadmgpanoaaGreatDoorWalkAgreesM07
import Derived.Test.YtiegeadmgpanoaaGreatDoorWalkChecksM08
import Derived.Test.YtiegeadmgpanoaaGreatDoorWalkAgreesM02
import Derived.Test.YtiegeadmgpanoaaGreatDoorWalkChecksM30
import Derived.Test.YtiegeadmgpanoaaGreatDoorWalkAgreesM03
import Derived.Test.YtiegeadmgpanoaaGreatDoorWalkChecksM01
set_option maxRecDepth 100000
set_option maxHeartbeats 16000000

namespace Go.Proofs.YtiegeadmgpanoaaGreatDoor.Y8
open ChangeShapes WideShapes ChangeAt RowKit Sl Cop Go.Shelf D2 F3 N3 P3 G2 J2 Q3 V3 G4 K4 X3 M5 P5 U5 W5 N2 P2 L6 S6 J7 N5 S5 K7 V7 Z7 B8 G6 J6 T6 B6 M2 N7 M7 K3 C4 D4 F4 M4 G5 K5 F6 D7 C8 K8 Q7 U7 X5 Y5 X7 G8 M8 D8 W7 J8
attribute [local go_sem] Oper.semAt_some
theorem snoc_or(l:List Int):l= []∨∃(t:List Int) (x:Int),l=t++ [x]:=by
 rcases List.eq_nil_or_concat l with h | ⟨t,x,h⟩
 · exact .inl h
 · exact .inr ⟨t,x,by rw [h,List.concat_eq_append]⟩
theorem mk_ints2(n:Nat)(hn:n≤65600):∀wx:World,(Instr.makeSlice 22 (.int .i64 ((n:Int)+1)) (.int .i64 ((n:Int)+1))).run Tryz.prog wx= .ok (.slice (some ⟨wx.heap.size,0,none⟩) (n+1) (n+1)) (wx.alloc (.cells (madeCells #[.int .i64 0] (n+1)) 3)):=fun wx=>by
 have:=run_make_row' (P:=Tryz.prog) 22 3 (.int .i64 0) 8 Tryz.underlying22 infoInt rfl .i64 .i64 (n+1) (by omega) (by omega) wx
 simpa using this
theorem rkids_at {r:Nat}{s:PoolS}{gs:List PageV}{hush:RTail}{x0:RX}(v:Value)(g:PageV)(hv:PageIn x0.h v g)(hn:g.items.length≤65536)(F:Pr)(w:World)(hF:Sat ((RefAt r s gs hush x0).star F) w):
 Calls Tryz.prog 88 #[v] w fun e w'=>Stays w w'∧∃v',e= .returned v'∧Sat ((IntsRow v' (kidsOf g)).star ((RefAt r s gs hush x0).star F)) w':=by
 refine(rkids_any x0.h v g hv hn _ w (refAt_own hF)).mono ?_;rintro e w' ⟨v',rfl,hs,st⟩;refine⟨st,v',rfl,(hs.perm (B:=(RefAt r s gs hush x0).star ((IntsRow v' (kidsOf g)).star F)) ?_).perm (by ac_rfl)⟩;unfold RefAt;ac_rfl
theorem good_at {r:Nat}{s:PoolS}{gs:List PageV}{hush:RTail}{x0:RX}(ok:ROk s gs x0){look:Int→Option PageV}(hl:RLooks s gs look)(okp:PgsOk look){n:Int}(h:GoodP look n){F:Pr}{w:World}(hF:Sat ((RefAt r s gs hush x0).star F) w):
 ∃j:Nat,n=(j:Int)+1∧j<s.counts.length:=by
 obtain⟨g,hg,_⟩:=good_kids okp h;obtain⟨j,_,_,_,_,_,_,e,hj,_⟩:=page_cells ok hl hg hF;exact⟨j,e,hj⟩
theorem pts_row_ne2 {r b T k c n:Nat}{o:Obj}{xs:List Value}{F:Pr}{w:World}(h:Sat ((Row T k (.slice (some ⟨b,0,none⟩) n c) n xs).star ((Pr.pts r o).star F)) w):r≠b:=by
 obtain⟨_,(⟨e,_,_⟩ | ⟨b',_,_,e,_,_,_,h4⟩)⟩:=Row.open' h
 · cases e
 · cases e
   exact(h4.pts_ne).symm
theorem row_row_ne2 {b b2 T T2 k k2 c c2 n n2:Nat}{xs ys:List Value}{F:Pr}{w:World}(h:Sat ((Row T k (.slice (some ⟨b,0,none⟩) n c) n xs).star ((Row T2 k2 (.slice (some ⟨b2,0,none⟩) n2 c2) n2 ys).star F)) w):b≠b2:=by
 obtain⟨_,(⟨e,_,_⟩ | ⟨b',_,_,e,_,_,_,h4⟩)⟩:=Row.open' h
 · cases e
 · cases e
   exact pts_row_ne2 (h4.perm (Pr.left_comm _ _ _))
theorem rstand_any(r:Nat)(s:PoolS)(gs:List PageV)(hush:RTail)(x0:RX)(ok0:ROk s gs x0)(look:Int→Option PageV)(hl:RLooks s gs look)(okp:PgsOk look)(ts:List TreeV)(tv:Value)(h:Hp)(ht:TreesIn h tv ts)(hts:ts.length≤4096)(F:Pr)(w:World)(hF:OwnL [RefAt r s gs hush x0,Pr.own h,F] w):
 Calls Tryz.prog 48 #[.pointer (some ⟨r,0,none⟩),tv] w fun e w'=>Stays w w'∧∃b,e= .returned (.bool b)∧(b=true→∀t∈ts,checkK look t.root t.height t.items=0)∧OwnL [RefAt r s gs hush x0,Pr.own h,F] w':=by
 obtain⟨i0,hi0,hz0,hz1,hz2⟩:=info_parts infoInt;obtain⟨at',ct,rfl,rd⟩:=trees_rd ht;obtain⟨N,hN⟩:∃N:Nat,s.counts.length=N:=⟨_,rfl⟩;have hN2:N≤65536:=by rw [← hN];exact ok0.n2
 have hmk:=mk_ints2 N (by omega);have hmb:=mk_bools N (by omega);have LN:=hQ (fun(G:Pr) (wx:World) (hG:Sat ((RefAt r s gs hush x0).star G) wx)=>rlen_any r s gs hush G wx (refA_iff.2 ⟨x0,ok0,hG⟩));rw [hN] at LN;have hs0:=OwnL.of1 (row_made 3 (.int .i64 0) (N+1) (by simp only [maxLen];omega) hF.sat);have HS0:=hQ hs0;have HF:=hQ hF
 have HST0:=hQ ((Stays.refl w).alloc (.cells (madeCells #[.int .i64 0] (N+1)) 3));have HH:=hQ (And.intro ok0 (And.intro hl (And.intro okp hN)));have RD:=hQ rd;have htl:(ts.length:Int)≤4096:=by omega
 clear hF hs0 ok0 hl okp hN ht rd;go_enter Tryz.func48,Tryz.ntmps48
 go_wp2_with fail
 refine(LN.out _ _ (HF.out.pull1 (A1:=RefAt r s gs hush x0))).mono ?_;rintro e w1 ⟨rfl,rfl⟩;go_wp2;have U1:=HS0.out;have U2:=HST0.out;clear HS0 HST0 HF;generalize w.alloc (.cells (madeCells #[.int .i64 0] (N+1)) 3)=w0 at*;generalize w.heap.size=IB at*;have HS0:=hQ U1;have HST0:=hQ U2;clear U1 U2
 go_loopg [6] ts.length (fun k i wr=> ∃(q:Nat) (V:List Int),q+k=ts.length∧i= .int .i64 q∧Hid (∀t∈ts.take q,checkK look t.root t.height t.items=0)∧Hid (∀z∈V,0≤z∧z≤(q:Int))∧Stays w wr∧OwnL [Row 3 1 (.slice (some ⟨IB,0,none⟩) (N+1) (N+1)) (N+1) (V.map (Value.int .i64)),RefAt r s gs hush x0,Pr.own h,F] wr)
 case atStart=>
  refine⟨0,List.replicate (N+1) 0,Nat.zero_add _,rfl,hQ (fun t ht=>by simp at ht),hQ (fun z hz=>by obtain rfl:=List.eq_of_mem_replicate hz;simp),HST0.out,?_⟩;rw [List.map_replicate];exact HS0.out.to
 case round=>
  obtain⟨q,V,hqk,rfl,hck,hvb,hst,hs⟩:=hrel;rename World=>wr
  clear HS0 HST0;rcases Nat.lt_or_ge q ts.length with hlt | hge
  · obtain⟨k0,hk0⟩:∃k0,k0+1=gk:=⟨gk-1,by omega⟩
    obtain⟨tb,off,rfl,hc⟩:=RD.out q hlt;obtain⟨e0,e1,e2⟩:=hc wr (hs.le (a:=h));have ez:=World.block_lt_of_cell? _ _ e0;simp only at ez;have hql:(q:Int)<(ts.length:Int):=by omega
    have htk:ts.take (q+1)=ts.take q++ [ts[q]]:=by rw [List.take_succ_eq_append_getElem hlt]
    generalize ts[q]=t at*;have CK:=hQ (rcheck_any r s gs hush x0 HH.out.1 look HH.out.2.1 HH.out.2.2.1 t.root t.height t.items _ _ (OwnL.in1 (hs.pull1 (A1:=RefAt r s gs hush x0))));have HST:=hQ hst;have HC:=hQ hc;have HTK:=hQ htk;have HVB:=hvb;clear hs hst hc hvb htk;go_wp2_with fail
    refine CK.out.mono ?_;rintro e w2 ⟨st2,rfl,hs2⟩;have hs3:=hs2.flat;have HS3:=hQ hs3;have HST2:=hQ (HST.out.trans st2);clear e0 e1 e2 ez hs2 st2 CK HST;obtain⟨e0,e1,e2⟩:=HC.out w2 (hs3.le (a:=h));have ez:=World.block_lt_of_cell? _ _ e0;simp only at ez;obtain⟨c,hcE⟩:∃c,checkK look t.root t.height t.items=c:=⟨_,rfl⟩;rw [hcE];by_cases h0:c=0
    · subst h0
      obtain⟨L,hT⟩:=stand_of_check HH.out.2.2.1 hcE
      have hroot:∃j:Nat,t.root=(j:Int)∧j≤N:=by
       by_cases hr:t.root=0
       · exact⟨0,hr,Nat.zero_le _⟩
       · obtain⟨j,e,hj⟩:=good_at HH.out.1 HH.out.2.1 HH.out.2.2.1 (stand_good hT hr) (hs3.pull1 (A1:=RefAt r s gs hush x0))
         have:=HH.out.2.2.2
         exact⟨j+1,by omega,by omega⟩
      obtain⟨j,hj1,hj2⟩:=hroot;obtain⟨_,u,e9,hu,d0,d1,zb⟩:=Row.at1 (hs3.row (.slice (some ⟨IB,0,none⟩) (N+1) (N+1))) j (by omega);cases e9;rw [List.getElem?_map] at hu;obtain⟨z,hz1',hz2'⟩:=Option.map_eq_some_iff.1 hu;subst hz2';have hzb:=HVB.out z (List.mem_of_getElem? hz1');have hjN:(j:Int)<(N:Int)+1:=by omega
      have HCK:=hQ (show ∀t∈ts.take (q+1),checkK look t.root t.height t.items=0 from fun t' ht'=>by
       rw [HTK.out] at ht'
       rcases List.mem_append.1 ht' with ht' | ht'
       · exact hck.out t' ht'
       · obtain rfl:=List.mem_singleton.1 ht'
         exact hcE)
      rw [hj1] at e0;clear hs3 hu hz1' hcE hT hck hj1;go_wp2;go_roundg k0
      case measure=>omega
      case rel=>
       refine⟨q+1,V.set j (z+1),by omega,congrArg (Value.int .i64) (by omega),HCK,hQ (fun y hy=> ?_),HST2.out.setCell _ _,?_⟩
       · rcases List.mem_or_eq_of_mem_set hy with hy | rfl
         · have:=HVB.out y hy;omega
         · omega
       · have h7:=OwnL.of1 (Go.Proofs.YtiegeadmgpanoaaGreatDoor.F3.Row.set (HS3.out.row (.slice (some ⟨IB,0,none⟩) (N+1) (N+1))) (i:=j) (by omega) (.int .i64 (z+1)))
         rw [show (V.map (Value.int .i64)).set j (.int .i64 (z+1))=(V.set j (z+1)).map (Value.int .i64) by rw [List.map_set]] at h7;exact h7.to
    · have hb:(c != 0)=true:=bne_iff_ne.2 h0
      clear hs3 hcE h0 hck;go_wp2;go_ret;exact⟨HST2.out,false,rfl,(fun h=>by cases h),HS3.out.to⟩
  · have HCK:=hQ (show ∀t∈ts,checkK look t.root t.height t.items=0 from by
     have h1:=hck.out
     rwa [List.take_of_length_le hge] at h1)
    have hql:¬(q:Int)<(ts.length:Int):=by omega
    have HVB:=hQ (show ∀z∈V,0≤z∧z≤4096 from fun z hz=>by have:=hvb.out z hz;omega);obtain⟨_,u,e9,hu,d0,d1,zb⟩:=Row.at1 (hs.row (.slice (some ⟨IB,0,none⟩) (N+1) (N+1))) 0 (by omega);cases e9;have h7:=OwnL.of1 (Go.Proofs.YtiegeadmgpanoaaGreatDoor.F3.Row.set (hs.row (.slice (some ⟨IB,0,none⟩) (N+1) (N+1))) (i:=0) (by omega) (.int .i64 0))
    rw [show (V.map (Value.int .i64)).set 0 (.int .i64 0)=(V.set 0 0).map (Value.int .i64) by rw [List.map_set]] at h7
    have HV2:=hQ (show ∀z∈V.set 0 0,0≤z∧z≤4096 from fun y hy=>by
     rcases List.mem_or_eq_of_mem_set hy with hy | rfl
     · exact HVB.out y hy
     · omega)
    have HS4:=hQ h7;have HS5:=hQ (OwnL.of1 (row_made 4 (.bool false) (N+1) (by simp only [maxLen];omega) h7.sat));have HST4:=hQ (hst.setCell ⟨IB,0,none⟩ (.int .i64 0));have L2:=hQ (LN.out _ _ (h7.pull1 (A1:=RefAt r s gs hush x0)));clear hs hst h7 hvb hck HVB LN hu;go_wp2_with fail
    refine L2.out.mono ?_;rintro e w3 ⟨rfl,rfl⟩;clear L2 HS4;go_wp2;have U1:=HS5.out;have U2:=HST4.out.alloc (.cells (madeCells #[.bool false] (N+1)) 4);clear HS5 HST4 d0 d1 zb;generalize hV2:V.set 0 0=V2 at*;generalize (wr.setCell ⟨IB,0,none⟩ (.int .i64 0)).alloc (.cells (madeCells #[.bool false] (N+1)) 4)=w4 at*;rw [World.size_setCell] at U1;generalize wr.heap.size=MB at*;clear hV2
    have HS5:=hQ U1;have HST5:=hQ U2;clear U1 U2
    go_loopg [8,9] ts.length (fun k t i wr=> ∃(q:Nat) (T:List Int),q+k=ts.length∧i= .int .i64 q∧T.length≤q∧Hid (∀n∈T,GoodP look n)∧Stays w wr∧OwnL [IntsRow t T,Row 4 1 (.slice (some ⟨MB,0,none⟩) (N+1) (N+1)) (N+1) ((List.replicate (N+1) false).map Value.bool),Row 3 1 (.slice (some ⟨IB,0,none⟩) (N+1) (N+1)) (N+1) (V2.map (Value.int .i64)),RefAt r s gs hush x0,Pr.own h,F] wr)
    case atStart=>
     refine⟨0,[],Nat.zero_add _,rfl,Nat.le_refl _,hQ (fun n hn=>by cases hn),HST5.out,?_⟩;have h1:=HS5.out.emp;rw [← Row.nil 3 1] at h1
     have h2:OwnL [IntsRow (.slice none 0 0) [],Row 4 1 (.slice (some ⟨MB,0,none⟩) (N+1) (N+1)) (N+1) ((List.replicate (N+1) false).map Value.bool),Row 3 1 (.slice (some ⟨IB,0,none⟩) (N+1) (N+1)) (N+1) (V2.map (Value.int .i64)),RefAt r s gs hush x0,Pr.own h,F] w4:=⟨(h1.to (M:= [Row 3 1 (.slice none 0 0) 0 [],Row 4 1 (.slice (some ⟨MB,0,none⟩) (N+1) (N+1)) (N+1) (List.replicate (N+1) (.bool false)),Row 3 1 (.slice (some ⟨IB,0,none⟩) (N+1) (N+1)) (N+1) (V2.map (Value.int .i64)),RefAt r s gs hush x0,Pr.own h,F])).sat.perm (by rw [List.map_replicate];rfl)⟩
     exact h2
    case round=>
     obtain⟨q2,T,hqk2,rfl,hTl,hgd,hst,hs⟩:=hrel;rename World=>wy
     clear HS5 HST5;obtain⟨ao,co,rfl⟩:=Row.shape (hs.pull1 (A1:=IntsRow u8 T));rcases Nat.lt_or_ge q2 ts.length with hlt | hge
     · obtain⟨k0,hk0⟩:∃k0,k0+1=gk:=⟨gk-1,by omega⟩
       obtain⟨tb,off,rfl,hc⟩:=RD.out q2 hlt;obtain⟨e0,e1,e2⟩:=hc wy (hs.le (a:=h));have ez:=World.block_lt_of_cell? _ _ e0;simp only at ez;have hql2:(q2:Int)<(ts.length:Int):=by omega
       have hck:=HCK.out _ (List.getElem_mem hlt);generalize ts[q2]=t at*;by_cases hp:0<t.root
       · obtain⟨L,hT⟩:=stand_of_check HH.out.2.2.1 hck
         have HGR:=hQ (stand_good hT (by omega));have hs3:=hs.alloc (.cells #[.int .i64 t.root] 3);have H1:=hQ (hs3.pull1 (A1:=IntsRow (.slice ao T.length co) T));have HCN:=hQ (new_cells wy [.int .i64 t.root] 3 _ rfl);have HST4:=hQ (hst.alloc (.cells #[.int .i64 t.root] 3));clear hs hs3 hst hc hck hT
         go_wp2_with (at_builtin;refine wpList_append_sl rfl _ _ _ rfl 3 i0 (.int .i64 0) 1 8 Tryz.underlying22 hi0 hz0 hz1 hz2 rfl _ _ _ rfl H1.out ⟨wy.heap.size,0,none⟩ 1 1 [.int .i64 t.root] rfl rfl HCN.out (by simp [Value.oneCell']) (by simp only [maxLen];omega) (by omega) ?_;intro v7 w5 hs8 hg8 _;obtain⟨a7,c7,e7,_,_⟩:=Row.read hs8;subst e7;have hs9:=(OwnL.of1 hs8);have HS9:=hQ hs9;have HST6:=hQ (HST4.out.of_grown hg8);clear hs8 hs9 hg8)
         go_roundg k0
         case measure=>omega
         case rel=>
          refine⟨q2+1,T++ [t.root],by omega,congrArg (Value.int .i64) (by omega),by simp;omega,hQ (fun n hn=> ?_),HST6.out,?_⟩
          · rcases List.mem_append.1 hn with hn | hn
            · exact hgd.out n hn
            · obtain rfl:=List.mem_singleton.1 hn
              exact HGR.out
          · have h7:=HS9.out.to (M:= [Row 3 1 (.slice a7 (T.length+1) c7) (T.length+1) (T.map (Value.int .i64)++ [.int .i64 t.root]),Row 4 1 (.slice (some ⟨MB,0,none⟩) (N+1) (N+1)) (N+1) ((List.replicate (N+1) false).map Value.bool),Row 3 1 (.slice (some ⟨IB,0,none⟩) (N+1) (N+1)) (N+1) (V2.map (Value.int .i64)),RefAt r s gs hush x0,Pr.own h,F])
            refine⟨h7.sat.perm ?_⟩;unfold IntsRow;rw [List.length_append,List.map_append];rfl
       · have HS3:=hQ hs
         have HST3:=hQ hst;clear hs hst hc hck;go_wp2;go_roundg k0
         case measure=>omega
         case rel=>exact⟨q2+1,T,by omega,congrArg (Value.int .i64) (by omega),by omega,hgd,HST3.out,HS3.out⟩
     · have hql2:¬(q2:Int)<(ts.length:Int):=by omega
       have HS3:=hQ hs;have HST3:=hQ hst;have hT2:T.length≤4096:=by omega
       have hM0:10*(List.replicate (N+1) false).count false+T.length≤10*(N+1)+4096:=by rw [List.count_replicate_self];omega
       clear hs hst hqk2;go_wp2
       go_loopg [8] (10*(List.replicate (N+1) false).count false+T.length) (fun k t wr=> ∃(T:List Int) (bs:List Bool) (V:List Int),bs.length=N+1∧k=10*bs.count false+T.length∧k≤10*(N+1)+4096∧Hid (∀n∈T,GoodP look n)∧Hid (∀z∈V,0≤z∧z+10*((bs.count false:Nat):Int)≤4096+10*((N:Int)+1))∧Stays w wr∧OwnL [IntsRow t T,Row 4 1 (.slice (some ⟨MB,0,none⟩) (N+1) (N+1)) (N+1) (bs.map Value.bool),Row 3 1 (.slice (some ⟨IB,0,none⟩) (N+1) (N+1)) (N+1) (V.map (Value.int .i64)),RefAt r s gs hush x0,Pr.own h,F] wr)
       case atStart=>exact⟨T,List.replicate (N+1) false,V2,by simp,rfl,hM0,hgd,hQ (fun z hz=>by have:=HV2.out z hz;rw [List.count_replicate_self];omega),HST3.out,HS3.out⟩
       case round=>
        obtain⟨T,bs,V,hbl,hgk,hkb,hgd,hvb,hst,hs⟩:=hrel;rename World=>wz
        clear HS3 HST3 hM0 hT2 hTl;obtain⟨ao,co,rfl⟩:=Row.shape (hs.pull1 (A1:=IntsRow u8 T));rcases snoc_or T with rfl | ⟨T,n,rfl⟩
        · have HS4:=hQ (hs.to (M:= [Row 3 1 (.slice (some ⟨IB,0,none⟩) (N+1) (N+1)) (N+1) (V.map (Value.int .i64)),RefAt r s gs hush x0,Pr.own h,F]))
          have HST4:=hQ hst;clear hs hst hgd hvb hgk;go_wp2;go_loopg [13] N (fun k i wx=> ∃p:Nat,p+k=N∧i= .int .i64 ((p:Int)+1)∧Stays w wx∧OwnL [Row 3 1 (.slice (some ⟨IB,0,none⟩) (N+1) (N+1)) (N+1) (V.map (Value.int .i64)),RefAt r s gs hush x0,Pr.own h,F] wx)
          case atStart=>exact⟨0,Nat.zero_add _,rfl,HST4.out,HS4.out⟩
          case round=>
           obtain⟨p,hpk,rfl,hst,hs⟩:=hrel;rename World=>wx
           clear HS4 HST4;rcases Nat.lt_or_ge p N with hlt | hge
           · obtain⟨k0,hk0⟩:∃k0,k0+1=gk:=⟨gk-1,by omega⟩
             obtain⟨_,u,e9,hu,d0,d1,zb⟩:=Row.at1 (hs.row (.slice (some ⟨IB,0,none⟩) (N+1) (N+1))) (p+1) (by omega);cases e9;rw [List.getElem?_map] at hu;obtain⟨z,hz1',hz2'⟩:=Option.map_eq_some_iff.1 hu;subst hz2';obtain⟨ac,cc,al,cl,ap,cp,⟨y1,y2,y3,y4⟩,yz,_,rd⟩:=ref_rd HH.out.1 (hs.pull1 (A1:=RefAt r s gs hush x0));have hcl:=HH.out.2.2.2;obtain⟨⟨cb,rfl,x1⟩,_,_⟩:=rd p (by omega)
             have xz:=World.block_lt_of_cell? _ _ x1;simp only at xz;rw [hcl] at y1;have hpN:(p:Int)+1<(N:Int)+1:=by omega
             have HSX:=hQ hs;have HSTX:=hQ hst;obtain⟨cz,hcz⟩:∃cz,s.counts.getD p 0=cz:=⟨_,rfl⟩;rw [hcz] at x1;clear hs hst hu hz1' rd hcl hcz y2 y3 y4;by_cases hgt:cz<z
             · go_wp2
               go_quiet (fail)
               go_wp2;go_ret;exact⟨HSTX.out.drewN _,false,rfl,(fun h=>by cases h),(HSX.out.drewN _).to⟩
             · go_wp2
               go_quiet (fail)
               go_wp2;go_roundg k0
               case measure=>omega
               case rel=>exact⟨p+1,by omega,congrArg (Value.int .i64) (by omega),HSTX.out.drewN _,HSX.out.drewN _⟩
           · have hpN:¬(p:Int)+1<(N:Int)+1:=by omega
             have HSX:=hQ hs;have HSTX:=hQ hst;clear hs hst;go_wp2;go_ret;exact⟨HSTX.out,.inr ⟨rfl,HCK.out,HSX.out.to⟩⟩
        · have hgn:=hgd.out n (by simp)
          obtain⟨g,hg,hkids⟩:=good_kids HH.out.2.2.1 hgn;have hfit:=fit_of_check (HH.out.2.2.1.chk n g hg);have hn8:=hfit.n;obtain⟨j,cp,bp,tai,tad,tci,tcd,hnj,hj,q3,y1,y2,hpg,d0,d1,d2,d3,d4⟩:=page_cells HH.out.1 HH.out.2.1 hg (hs.pull1 (A1:=RefAt r s gs hush x0));subst hnj;have hcl:=HH.out.2.2.2;rw [hcl] at hj q3;obtain⟨m,hm⟩:∃m,m=T.length:=⟨_,rfl⟩
          have hl1:(T++ [((j:Int)+1)]).length=m+1:=by rw [List.length_append, ← hm];rfl
          have hmb:(m:Int)≤1000000:=by
           rw [hl1] at hgk;omega
          have hsr:OwnL [Row 3 1 (.slice ao (m+1) co) (m+1) (T.map (Value.int .i64)++ [.int .i64 ((j:Int)+1)]),Row 4 1 (.slice (some ⟨MB,0,none⟩) (N+1) (N+1)) (N+1) (bs.map Value.bool),Row 3 1 (.slice (some ⟨IB,0,none⟩) (N+1) (N+1)) (N+1) (V.map (Value.int .i64)),RefAt r s gs hush x0,Pr.own h,F] wz:=by
           have h1:=hs;unfold IntsRow at h1;rw [hl1,List.map_append] at h1;exact h1
          obtain⟨b,u,rfl,hu,d9,_,zb⟩:=Row.at1 (hsr.row (.slice ao (m+1) co)) m (Nat.lt_succ_self m);rw [List.getElem?_append_right (by simp [hm]),List.length_map, ← hm,Nat.sub_self] at hu;cases hu;have hmc:=row_le (hsr.row (.slice (some ⟨b,0,none⟩) (m+1) co));have hmc3:(m:Int)+1≤(co:Int):=by omega
          obtain⟨_,u,e9,hu,f0,f1,zf⟩:=Row.at1 (hsr.row (.slice (some ⟨MB,0,none⟩) (N+1) (N+1))) (j+1) (by omega);cases e9;rw [List.getElem?_map] at hu;obtain⟨bv,hb1,hb2⟩:=Option.map_eq_some_iff.1 hu;subst hb2;have hjN:(j:Int)+1<(N:Int)+1:=by omega
          have hjN2:(j:Int)<(N:Int):=by omega
          have hN3:(N:Int)≤65536:=by omega
          have hcut:=OwnL.of1 (row_cut (hsr.row (.slice (some ⟨b,0,none⟩) (m+1) co)) (Nat.le_succ m));rw [List.take_append_of_le_length (by simp [hm]),List.take_of_length_le (by simp [hm])] at hcut
          have hs2:OwnL [IntsRow (.slice (some ⟨b,0,none⟩) m co) T,Row 4 1 (.slice (some ⟨MB,0,none⟩) (N+1) (N+1)) (N+1) (bs.map Value.bool),Row 3 1 (.slice (some ⟨IB,0,none⟩) (N+1) (N+1)) (N+1) (V.map (Value.int .i64)),RefAt r s gs hush x0,Pr.own h,F] wz:=by
           have h1:=hcut.to (M:= [Row 3 1 (.slice (some ⟨b,0,none⟩) m co) m (T.map (Value.int .i64)),Row 4 1 (.slice (some ⟨MB,0,none⟩) (N+1) (N+1)) (N+1) (bs.map Value.bool),Row 3 1 (.slice (some ⟨IB,0,none⟩) (N+1) (N+1)) (N+1) (V.map (Value.int .i64)),RefAt r s gs hush x0,Pr.own h,F]);rw [hm] at h1 ⊢;exact h1
          have HGD:=hQ (show ∀n∈T,GoodP look n from fun n hn=>hgd.out n (List.mem_append_left _ hn));have HGK:=hQ (show gk=10*bs.count false+(m+1) from by rw [hgk,hl1]);have HKB:=hQ hkb;rw [hl1];have HSTZ:=hQ hst;have HB:=hQ (And.intro hbl hb1);have HM:=hQ hm;have HGL:=hQ hg;clear hs hsr hu hcut hgd hgk hl1 hm hst hmc hkb hbl hb1 hg hgn;cases bv with
          | true=>
            have HS3:=hQ hs2;clear hs2 d0 d1 d2 d3 d4 q3 y1 y2 hkids hpg;go_wp2;go_roundg (10*bs.count false+m)
            case measure=>rw [HGK.out];omega
            case rel=>exact⟨T,bs,V,HB.out.1,by rw [HM.out],by have:=HKB.out;have:=HGK.out;omega,HGD,hvb,HSTZ.out,HS3.out⟩
          | false=>
            obtain⟨_,_,epv,hit,_⟩:=id hpg;simp only [pageV,Value.agg.injEq,Array.mk.injEq,List.cons.injEq,and_true,true_and] at epv;obtain⟨rfl,rfl⟩:=epv;have hjb:j+1<bs.length:=by rw [HB.out.1];omega
            have hbj:bs[j+1]=false:=by
             have h1:=HB.out.2;rw [List.getElem?_eq_getElem hjb] at h1;exact Option.some.inj h1
            have hcnt:(bs.set (j+1) true).count false+1=bs.count false:=by
             have h1:0<bs.count false:=List.count_pos_iff.2 (hbj ▸ List.getElem_mem hjb);rw [List.count_set hjb,hbj];simp
             omega
            have h7:=OwnL.of1 (Go.Proofs.YtiegeadmgpanoaaGreatDoor.F3.Row.set (hs2.row (.slice (some ⟨MB,0,none⟩) (N+1) (N+1))) (i:=j+1) (by omega) (.bool true));rw [show (bs.map Value.bool).set (j+1) (.bool true)=(bs.set (j+1) true).map Value.bool by rw [List.map_set]] at h7
            obtain⟨j',cp',bp',tai',tad',tci',tcd',hnj',_,q3',y1',y2',hpg',d0',d1',d2',d3',d4'⟩:=page_cells HH.out.1 HH.out.2.1 HGL.out (h7.pull1 (A1:=RefAt r s gs hush x0));obtain rfl:j'=j:=by omega
            rw [HH.out.2.2.2] at q3';obtain⟨tai',tci',tad',tcd',epv⟩:∃a b c d,pageV g.kind g.level (.slice tai' g.items.length tci') (.slice tad' g.data.length tcd') g.next=pageV g.kind g.level (.slice a g.items.length b) (.slice c g.data.length d) g.next:=⟨_,_,_,_,rfl⟩;have KD:=hQ (rkids_at _ g hpg' (by omega) _ _ (h7.pull1 (A1:=RefAt r s gs hush x0)));have HS7:=hQ h7
            have HST7:=hQ (HSTZ.out.setCell ⟨MB,j'+1,none⟩ (.bool true));have HKI:=hQ hkids;have HCN:=hQ (And.intro hjb hcnt);clear h7 hs2 HSTZ hpg hpg' hkids hbj hcnt d0 d1 d2 d3 d4 q3 y1 y2 epv;go_wp2_with fail
            refine KD.out.mono ?_;rintro e w5 ⟨st5,kv,rfl,hs8⟩;obtain⟨ka,kc,rfl⟩:=Row.shape hs8;have hs9:=OwnL.of2 hs8;have HS9:=hQ hs9;have HST9:=hQ (HST7.out.trans st5);have hk9:=Nat.le_trans (kidsOf_len g) (Nat.succ_le_succ hn8);obtain⟨K,hK⟩:∃K,kidsOf g=K:=⟨_,rfl⟩;rw [hK] at HKI HS9 hk9 ⊢
            have HVB2:=hQ (show ∀z∈V,0≤z∧z+10*(((bs.set (j'+1) true).count false:Nat):Int)+10≤4096+10*((N:Int)+1) from fun z hz=>by have:=hvb.out z hz;have:=HCN.out.2;omega);have HGK2:=hQ (show 10*(bs.set (j'+1) true).count false+(m+9)<gk from by have:=HGK.out;have:=HCN.out.2;omega);have HLB:=hQ (show (bs.set (j'+1) true).length=N+1 from by rw [List.length_set];exact HB.out.1)
            clear hs8 hs9 st5 KD HS7 HST7 d0' d1' d2' d3' d4' q3' y1' y2' hK f0 f1 zf d9 zb hvb HB HCN;generalize bs.set (j'+1) true=bs2 at*;go_wp2
            go_loopg [8,12] K.length (fun k t i wr=> ∃(q:Nat) (T':List Int) (V':List Int),q+k=K.length∧i= .int .i64 q∧T'.length=m+q∧Hid (∀n∈T',GoodP look n)∧Hid (∀z∈V',0≤z∧z+10*((bs2.count false:Nat):Int)+10≤4096+10*((N:Int)+1)+q)∧Stays w wr∧OwnL [IntsRow t T',IntsRow (.slice ka K.length kc) K,Row 4 1 (.slice (some ⟨MB,0,none⟩) (N+1) (N+1)) (N+1) (bs2.map Value.bool),Row 3 1 (.slice (some ⟨IB,0,none⟩) (N+1) (N+1)) (N+1) (V'.map (Value.int .i64)),RefAt r s gs hush x0,Pr.own h,F] wr)
            case atStart=>exact⟨0,T,V,Nat.zero_add _,rfl,by rw [HM.out];rfl,HGD,hQ (fun z hz=>by have:=HVB2.out z hz;omega),HST9.out,HS9.out.to⟩
            case round=>
             obtain⟨q,T',V',hqk,rfl,htl,hgd,hvb,hst,hs⟩:=hrel;rename World=>wy
             clear HS9 HST9;obtain⟨ta,tc,rfl⟩:=Row.shape (hs.pull1 (A1:=IntsRow u8 T'));rcases Nat.lt_or_ge q K.length with hlt | hge
             · obtain⟨k0,hk0⟩:∃k0,k0+1=gk:=⟨gk-1,by omega⟩
               have hql:(q:Int)<(K.length:Int):=by omega
               obtain⟨kb,u,rfl,hu,d4,_,zk⟩:=Row.at1 (hs.row (.slice ka K.length kc)) q hlt;rw [List.getElem?_map,List.getElem?_eq_getElem hlt] at hu;obtain rfl:Value.int .i64 K[q]=u:=Option.some.inj hu;have hgc:=HKI.out _ (List.getElem_mem hlt);generalize K[q]=c at*;obtain⟨jc,rfl,hjc⟩:=good_at HH.out.1 HH.out.2.1 HH.out.2.2.1 hgc (hs.pull1 (A1:=RefAt r s gs hush x0));rw [HH.out.2.2.2] at hjc
               have hjcN:(jc:Int)+1<(N:Int)+1:=by omega
               obtain⟨_,u,e9,hu2,f0,f1,zf⟩:=Row.at1 (hs.row (.slice (some ⟨IB,0,none⟩) (N+1) (N+1))) (jc+1) (by omega);cases e9;rw [List.getElem?_map] at hu2;obtain⟨z,hz1',hz2'⟩:=Option.map_eq_some_iff.1 hu2;subst hz2';have hzb:=hvb.out z (List.mem_of_getElem? hz1');have hN5:(N:Int)≤65536:=by omega
               have hq9:(q:Int)≤9:=by omega
               have hz0':0≤z:=hzb.1;have hz9':z≤1000000:=by omega
               have hne:=row_row_ne2 (hs.pull2 (A1:=Row 3 1 (.slice (some ⟨kb,0,none⟩) K.length kc) K.length (K.map (Value.int .i64))) (A2:=Row 3 1 (.slice (some ⟨IB,0,none⟩) (N+1) (N+1)) (N+1) (V'.map (Value.int .i64))));have h7:=OwnL.of1 (Go.Proofs.YtiegeadmgpanoaaGreatDoor.F3.Row.set (hs.row (.slice (some ⟨IB,0,none⟩) (N+1) (N+1))) (i:=jc+1) (by omega) (.int .i64 (z+1)))
               rw [show (V'.map (Value.int .i64)).set (jc+1) (.int .i64 (z+1))=(V'.set (jc+1) (z+1)).map (Value.int .i64) by rw [List.map_set]] at h7;have h8:=h7.alloc (.cells #[.int .i64 ((jc:Int)+1)] 3);have H1:=hQ (h8.pull1 (A1:=IntsRow (.slice ta T'.length tc) T'));have HCN:=hQ (new_cells (wy.setCell ⟨IB,jc+1,none⟩ (.int .i64 (z+1))) [.int .i64 ((jc:Int)+1)] 3 _ rfl)
               rw [World.size_setCell] at HCN;have HST4:=hQ ((hst.setCell ⟨IB,jc+1,none⟩ (.int .i64 (z+1))).alloc (.cells #[.int .i64 ((jc:Int)+1)] 3));have HVB:=hvb;have HZB:=hQ hzb;have HGC:=hQ hgc;have htl3:(T'.length:Int)≤1000100:=by omega
               have HTL:=hQ htl;clear hs h7 h8 hst hu hu2 hz1' hvb hzb hgc htl
               go_wp2_with (at_builtin;refine wpList_append_sl rfl _ _ _ rfl 3 i0 (.int .i64 0) 1 8 Tryz.underlying22 hi0 hz0 hz1 hz2 rfl _ _ _ rfl H1.out ⟨wy.heap.size,0,none⟩ 1 1 [.int .i64 ((jc:Int)+1)] rfl rfl HCN.out (by simp [Value.oneCell']) (by simp only [maxLen];omega) (by omega) ?_;intro v7 w7 hs8 hg8 _;obtain⟨a7,c7,e7,_,_⟩:=Row.read hs8;subst e7;have hs9:=(OwnL.of1 hs8);have HS9:=hQ hs9;have HST6:=hQ (HST4.out.of_grown hg8);clear hs8 hs9 hg8)
               go_roundg k0
               case measure=>omega
               case rel=>
                refine⟨q+1,T'++ [((jc:Int)+1)],V'.set (jc+1) (z+1),by omega,congrArg (Value.int .i64) (by omega),by have:=HTL.out;simp;omega,hQ (fun n hn=> ?_),hQ (fun y hy=> ?_),HST6.out,?_⟩
                · rcases List.mem_append.1 hn with hn | hn
                  · exact hgd.out n hn
                  · obtain rfl:=List.mem_singleton.1 hn
                    exact HGC.out
                · rcases List.mem_or_eq_of_mem_set hy with hy | rfl
                  · have:=HVB.out y hy;omega
                  · have:=HZB.out;omega
                · have h7:=HS9.out.to (M:= [Row 3 1 (.slice a7 (T'.length+1) c7) (T'.length+1) (T'.map (Value.int .i64)++ [.int .i64 ((jc:Int)+1)]),IntsRow (.slice (some ⟨kb,0,none⟩) K.length kc) K,Row 4 1 (.slice (some ⟨MB,0,none⟩) (N+1) (N+1)) (N+1) (bs2.map Value.bool),Row 3 1 (.slice (some ⟨IB,0,none⟩) (N+1) (N+1)) (N+1) ((V'.set (jc+1) (z+1)).map (Value.int .i64)),RefAt r s gs hush x0,Pr.own h,F])
                  refine⟨h7.sat.perm ?_⟩;unfold IntsRow;rw [List.length_append,List.map_append];rfl
             · have hql:¬(q:Int)<(K.length:Int):=by omega
               have HS3:=hQ hs;have HST3:=hQ hst;have HVB:=hvb;have HTL:=hQ (And.intro htl hqk);clear hs hst hvb htl hqk;go_wp2;go_roundg (10*bs2.count false+T'.length)
               case measure=>have:=HGK2.out;have:=HTL.out;omega
               case rel=>
                have h1:=HGK2.out;have h2:=HTL.out;have h3:=HKB.out;exact⟨T',bs2,V',HLB.out,rfl,by omega,hgd,hQ (fun z hz=>by have:=HVB.out z hz;omega),HST3.out,HS3.out.to⟩
end Go.Proofs.YtiegeadmgpanoaaGreatDoor.Y8
