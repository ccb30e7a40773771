/- The image of the law's lives: two leaves under an index; the conditions stand as hypotheses. -/
import Derived.Test.YtiegeadmgpanoaaGreatDoorWalkChecksM31
import Derived.Test.YtiegeadmgpanoaaGreatDoorWalkChecksM24
import Derived.Test.YtiegeadmgpanoaaGreatDoorWalkChecksM25
import Derived.Test.YtiegeadmgpanoaaGreatDoorWalkChecksM23
import Derived.Lib.SmallJoins
import Derived.BigQuiet
import Derived.Laws.BytesArg
import Derived.Test.YtiegeadmgpanoaaGreatDoorWalkChecksM01
set_option maxRecDepth 100000
set_option maxHeartbeats 16000000
namespace Go.Sl
open Go.RowKit
theorem row_of_pts {T b n:Nat}{xs:List Value}(hl:xs.length=n)(hm:n≤maxLen):∀h,Pr.pts b (.cells xs.toArray T (0,0)) h→Row T 1 (.slice (some ⟨b,0,none⟩) n n) n xs h:=
 fun _ hp=>⟨by rw [hl,Nat.mul_one],.inr ⟨b,n,[],rfl,by simpa using hl,Nat.le_refl _,hm,by simpa using hp⟩⟩
theorem OwnL.turn {L R:List Pr}{w:World}(A B:Pr)(h:∀x,A x→B x)(o:OwnL L w) [Pull A L R]:OwnL (B :: R) w:=⟨(o.pull1 (A1:=A)).mono h⟩
end Go.Sl
namespace Go.Proofs.YtiegeadmgpanoaaGreatDoor.E8
open ChangeShapes WideShapes ChangeAt RowKit Sl Cop Go.Shelf D2 F3 G2 J2 Q3 V3 G4 X3 M5 P5 U5 W5 L6 T6 G6 Q6 V6 X6 C8 X3 N5 S5 V7 Z7 E7 J4 G5 J6 P6 F6 P3
abbrev cO(c:Int):Obj:= .cells #[.int .u8 c] 5 (1,2)
abbrev jO(N:Nat):Obj:= .cells #[.slice none 0 0,.slice none 0 0,.int .i64 1,.int .i64 0,.slice (some ⟨N,0,none⟩) 1 1,.slice none 0 0,.int .i64 2,.int .i64 0] 89
abbrev nO(N:Nat)(ao bo:Option Addr)(co do':Nat):Obj:= .cells #[.int .i64 1,.int .i64 1,.int .i64 0,.slice ao 4 co,.slice none 0 0,.int .i64 0,.int .i64 2,.int .i64 1,.int .i64 0,.slice bo 5 do',.slice none 0 0,.int .i64 0,.int .i64 3,.int .i64 2,.int .i64 1,.slice (some ⟨N+1,0,none⟩) 2 2,.slice none 0 0,.int .i64 0] 91
theorem const_in {N:Nat}{c:Int}{h:Hp}(ha:Pr.pts N (cO c) h):Bytes h (.slice (some ⟨N,0,none⟩) 1 1) [c]:=
 ⟨by simp,_,_,rfl,Nat.le_refl _,by simp [maxLen],fun _=>⟨_,_,rfl,fun i hi=>by
   have:i=0:=by simp at hi;omega
   subst this
   show h.cell _ _=_
   rw [ha]
   simp [Hp.cell]⟩⟩
theorem rows_items {v:Value}{xs:List (Value × Value)}{l:List ItemV}{a b h:Hp}(hl:xs.length=l.length)(ha:ItRow v xs l a)(hb:big rowsOf (xs.zip l) b)(s1:a.sub h)(s2:b.sub h):ItemsIn h v l:=
 ⟨xs,hl,(Row.rowIn ha).sub s1,fun k hx hy=>by
   have hm:=big_rows_in hb (xs[k],l[k]) (by
    have hz:k<(xs.zip l).length:=by simp;omega
    have:=List.getElem_mem hz
    rwa [List.getElem_zip] at this)
   exact⟨hm.1.sub s2,hm.2.sub s2⟩⟩
theorem image_in {CB N:Nat}{ao bo:Option Addr}{co do':Nat}{ys zs:List (Value × Value)}(hyl:ys.length=4)(hzl:zs.length=5){h:Hp}
 (hh:(starL [Pr.pts CB (.cells #[.int .i64 1,.int .i64 1,.int .i64 1] 3),ItRow (.slice ao 4 co) ys lowL,big rowsOf (ys.zip lowL),ItRow (.slice bo 5 do') zs highL,big rowsOf (zs.zip highL),Pr.pts N (cO 109),Pr.pts (N+1) (jO N),Pr.pts (N+1+1+1) (nO N ao bo co do')]) h):
 Ints h (.slice (some ⟨CB,0,none⟩) 3 3) [1,1,1]∧NumsIn h (.slice (some ⟨N+1+1+1,0,none⟩) 3 3) numsP:=by
 obtain⟨a1,b1,ha1,hb1,s1,t1⟩:=star_sub hh;obtain⟨a2,b2,ha2,hb2,s2,t2⟩:=star_sub hb1;obtain⟨a3,b3,ha3,hb3,s3,t3⟩:=star_sub hb2;obtain⟨a4,b4,ha4,hb4,s4,t4⟩:=star_sub hb3;obtain⟨a5,b5,ha5,hb5,s5,t5⟩:=star_sub hb4;obtain⟨a6,b6,ha6,hb6,s6,t6⟩:=star_sub hb5;obtain⟨a7,b7,ha7,hb7,s7,t7⟩:=star_sub hb6;obtain⟨a8,b8,ha8,_,s8,_⟩:=star_sub hb7
 have tt {a b c:Hp} (h1:a.sub b) (h2:b.sub c):a.sub c:=fun k o e=>h2 k o (h1 k o e)
 have u1:=t1;have u2:=tt t2 u1;have u3:=tt t3 u2;have u4:=tt t4 u3;have u5:=tt t5 u4;have u6:=tt t6 u5;have u7:=tt t7 u6;have I1:ItemsIn h (.slice ao 4 co) lowL:=rows_items hyl ha2 ha3 (tt s2 u1) (tt s3 u2);have I2:ItemsIn h (.slice bo 5 do') highL:=rows_items hzl ha4 ha5 (tt s4 u3) (tt s5 u4)
 have I3:ItemsIn h (.slice (some ⟨N+1,0,none⟩) 2 2) idxP.items:=by
  refine⟨[(.slice none 0 0,.slice none 0 0),(.slice (some ⟨N,0,none⟩) 1 1,.slice none 0 0)],rfl,(pts_rowIn (xs:= [.slice none 0 0,.slice none 0 0,.int .i64 1,.int .i64 0,.slice (some ⟨N,0,none⟩) 1 1,.slice none 0 0,.int .i64 2,.int .i64 0]) ha7 rfl rfl (by simp [maxLen])).sub (tt s7 u6),fun i hx hl=> ?_⟩;have:i=0∨i=1:=by simp at hx;omega
  rcases this with rfl | rfl
  · exact⟨RowIn.nil _ _,RowIn.nil _ _⟩
  · exact⟨(const_in ha6).sub (tt s6 u5),RowIn.nil _ _⟩
 refine⟨(pts_rowIn (xs:= [.int .i64 1,.int .i64 1,.int .i64 1]) ha1 rfl rfl (by simp [maxLen])).sub s1,[(.slice ao 4 co,.slice none 0 0),(.slice bo 5 do',.slice none 0 0),(.slice (some ⟨N+1,0,none⟩) 2 2,.slice none 0 0)],rfl,(pts_rowIn (xs:=_) ha8 rfl rfl (by simp [maxLen])).sub (tt s8 u7),fun i hx hl=> ?_⟩;have:i=0∨i=1∨i=2:=by simp at hx;omega
 rcases this with rfl | rfl | rfl
 · exact⟨I1,RowIn.nil _ _⟩
 · exact⟨I2,RowIn.nil _ _⟩
 · exact⟨I3,RowIn.nil _ _⟩
theorem len_three {α:Type}:∀ {l:List α},l.length=3→∃a b c,l= [a,b,c]
 | [a,b,c],_=>⟨a,b,c,rfl⟩
 | [],h=>by cases h
 | [_],h=>by simp at h
 | [_,_],h=>by simp at h
 | _ :: _ :: _ :: _ :: _,h=>by simp at h
theorem conv_str {a:Option Addr}{c:Nat}{l:List Int}{F:Pr}{w:World}(h:Sat ((BytesRow (.slice a l.length c) l).star F) w)(hl:l≠ []):(convert 42 9 (.slice a l.length c)).run Tryz.prog w= .ok (.string (strOfNums l)) w:=by
 have hp:0<l.length:=List.length_pos_iff.2 hl;obtain⟨_,_,e,_,hc⟩:=Row.read h;cases e;obtain⟨b,rfl,hd⟩:=hc hp;refine run_convert_bytes_arg w 42 5 Tryz.underlying42 Tryz.underlying5 b 0 l.length c l rfl (fun i hi=> ?_) 9 Tryz.underlying9;rw [Nat.zero_add,(hd i (by omega)).1,List.getElem?_map,List.getElem?_eq_getElem hi,List.getD_eq_getElem?_getD,List.getElem?_eq_getElem hi];rfl
theorem lives_any(hg:Hp)(GE:EveryIn hg)(F:Pr)(w:World)(hF:OwnL [Pr.own hg,F] w):
 Calls Tryz.prog 8 #[] w fun e w'=>e= .returned (.bool true)∧Stays w w'∧OwnL [Pr.own hg,F] w':=by
 have es:∀(u:World) (o:Obj),(u.alloc o).heap.size=u.heap.size+1:=fun u o=>by simp
 have hs0:=(((hF.alloc (imgC 2 (.slice (some ⟨w.heap.size+1,0,none⟩) 3 3) (.slice none 0 0) (.slice none 0 0))).alloc (.cells #[.int .i64 1,.int .i64 1,.int .i64 1] 3)).alloc (pageC 1 0 (.slice none 0 0) (.slice none 0 0) 0)).alloc (pageC 1 0 (.slice none 0 0) (.slice none 0 0) 0);simp only [es] at hs0
 have st0:=((((Stays.refl w).alloc (imgC 2 (.slice (some ⟨w.heap.size+1,0,none⟩) 3 3) (.slice none 0 0) (.slice none 0 0))).alloc (.cells #[.int .i64 1,.int .i64 1,.int .i64 1] 3)).alloc (pageC 1 0 (.slice none 0 0) (.slice none 0 0) 0)).alloc (pageC 1 0 (.slice none 0 0) (.slice none 0 0) 0);have HS0:=hQ hs0;have HST0:=hQ st0;obtain⟨i0,hi0,hz0,hz1,hz2⟩:=info_parts infoItem;clear hF hs0 st0 es
 go_enter Tryz.func8,Tryz.ntmps8
 go_wp2_with fail
 have hs0:=HS0.out;have st0:=HST0.out;clear HS0 HST0;generalize ((((w.alloc (imgC 2 (.slice (some ⟨w.heap.size+1,0,none⟩) 3 3) (.slice none 0 0) (.slice none 0 0))).alloc (.cells #[.int .i64 1,.int .i64 1,.int .i64 1] 3)).alloc (pageC 1 0 (.slice none 0 0) (.slice none 0 0) 0)).alloc (pageC 1 0 (.slice none 0 0) (.slice none 0 0) 0))=w0 at*;generalize w.heap.size+1+1+1=PB at*
 generalize w.heap.size+1+1=PA at*;generalize w.heap.size+1=CB at*;generalize w.heap.size=IB at*;have HS0:=hQ hs0;have HST0:=hQ st0;clear hs0 st0
 go_loopw [6] (fun i wr=> ∃(k:Nat) (iv:Value) (ys:List (Value × Value)),k≤4∧ys.length=k∧i= .int .i64 k∧Stays w wr∧OwnL [Pr.pts IB (imgC 2 (.slice (some ⟨CB,0,none⟩) 3 3) (.slice none 0 0) (.slice none 0 0)),Pr.pts CB (.cells #[.int .i64 1,.int .i64 1,.int .i64 1] 3),Pr.pts PA (pageC 1 0 (iv) (.slice none 0 0) 0),Pr.pts PB (pageC 1 0 (.slice none 0 0) (.slice none 0 0) 0),Row 89 4 iv k ((ys.zip (lowL.take k)).flatMap itCells),big rowsOf (ys.zip (lowL.take k)),Pr.own hg,F] wr) (fun i _=>4-(intOf i).toNat)
 case atStart=>
  refine⟨0,.slice none 0 0,[],by omega,rfl,rfl,HST0.out,?_⟩;have h1:=(HS0.out.emp).nothing rowsOf;rw [← Row.nil 89 4] at h1
  exact h1.to (M:= [Pr.pts IB (imgC 2 (.slice (some ⟨CB,0,none⟩) 3 3) (.slice none 0 0) (.slice none 0 0)),Pr.pts CB (.cells #[.int .i64 1,.int .i64 1,.int .i64 1] 3),Pr.pts PA (pageC 1 0 (.slice none 0 0) (.slice none 0 0) 0),Pr.pts PB (pageC 1 0 (.slice none 0 0) (.slice none 0 0) 0),Row 89 4 (.slice none 0 0) 0 [],big rowsOf [],Pr.own hg,F])
 case round=>
  obtain⟨k,iv,ys,hk,hyl,rfl,hst,hs⟩:=hrel;clear HS0 HST0;obtain⟨ao,co,rfl⟩:=Row.shape (hs.pull1 (A1:=Row 89 4 iv k ((ys.zip (lowL.take k)).flatMap itCells)));have hk5:k=0∨k=1∨k=2∨k=3∨k=4:=by omega
  have HS:=hQ hs;have HST:=hQ hst;have HYL:=hQ hyl;have c1:=hs.facts;simp only [CellsAt,Nat.reduceAdd,and_true] at c1;clear hs hst hyl hk;rcases hk5 with rfl | rfl | rfl | rfl | rfl
  · go_wp2_with fail
    refine wp_region_forked (sz:=155) (by kernel_rfl) [0,1,2,3,4,6,7,8,9,10,11] [(5,[],[0,1,2,3,6,7,8,9,10,11],[(12,[13],[0,1,2,3,6,7,9,10]),(14,[],[0,1,2,3,6,7,9,10]),(15,[16],[0,2,3,6,7,9,10]),(17,[],[])]),(12,[],[0,1,2,3,4,6,7,9,10],[(5,[13],[0,1,2,3,6,7,9,10]),(14,[],[0,1,2,3,6,7,9,10]),(15,[16],[0,2,3,6,7,9,10]),(17,[],[])])] rfl (by kernel_rfl) (by kernel_rfl) (by kernel_rfl) ?_
    refine wpQ_all _ rfl rfl ?_;simp only [pick,pQ];iterate 11 (go_big_quiet_step (fail))
    refine wpQuiet_nil ?_;rw [show (((ByteArray.mk #[97,99,101,103])[0]'(by decide)).toNat:Int)=97 from rfl];intro sx hsx;rcases List.mem_cons.1 hsx with rfl | hsx
    · have hs1:=(HS.out.alloc (.cells #[.int .u8 97] 5)).alloc (.cells #[.int .u8 97,.int .u8 97] 5)
      rw [show (wr.alloc (.cells #[.int .u8 97] 5)).heap.size=wr.heap.size+1 by simp] at hs1;have st1:=(HST.out.alloc (.cells #[.int .u8 97] 5)).alloc (.cells #[.int .u8 97,.int .u8 97] 5);have HS1:=hQ hs1;have HST1:=hQ st1;clear hs1 st1;refine wpRest_act rfl ?_;go_wp2;refine onN_mk ?_;refine wpQ_nil ⟨?_,?_⟩
      · exact cQ
      refine wpRest_act rfl ?_;go_wp2;refine onN_mk ?_;refine wpQ_all _ rfl rfl ?_;simp only [pick,pQ];iterate 1 (go_big_quiet_step (fail))
      refine wpQuiet_nil ⟨?_,?_⟩
      · exact cQ
      refine wpRest_act rfl ?_;have hs1:=HS1.out;have st1:=HST1.out;clear HS1 HST1 c1;generalize (wr.alloc (.cells #[.int .u8 97] 5)).alloc (.cells #[.int .u8 97,.int .u8 97] 5)=w2 at*;generalize wr.heap.size=BN at*;have c1:=hs1.facts;simp only [CellsAt,Nat.reduceAdd,and_true] at c1
      have hs2:=(hs1.alloc (.cells #[.slice (some ⟨BN,0,none⟩) 1 1,.slice (some ⟨BN+1,0,none⟩) 2 2,.int .i64 0,.int .i64 2] 89)).drew;have H1:=hQ (hs2.pull1 (A1:=Row 89 4 (.slice ao 0 co) 0 ((ys.zip (lowL.take 0)).flatMap itCells)));have HC:=hQ (new_cells w2 [.slice (some ⟨BN,0,none⟩) 1 1,.slice (some ⟨BN+1,0,none⟩) 2 2,.int .i64 0,.int .i64 2] 89 w2.heap.size rfl)
      have HST2:=hQ (st1.alloc (.cells #[.slice (some ⟨BN,0,none⟩) 1 1,.slice (some ⟨BN+1,0,none⟩) 2 2,.int .i64 0,.int .i64 2] 89)).drew;clear hs1 hs2 st1;go_wp2;refine onN_mk ?_;refine wpQ_nil ⟨?_,?_⟩
      · exact cQ
      refine wpRest_act rfl ?_;refine wpList_append_slK rfl _ _ _ rfl 89 i0 _ 4 64 Tryz.underlying81 hi0 hz0 hz1 hz2 rfl _ _ _ rfl H1.out ⟨w2.heap.size,0,none⟩ 1 1 _ rfl rfl HC.out (by simp [Value.oneCell']) (by simp only [maxLen];omega) (by omega) (fun v7 w7 hs7 hg7 K0 hK0=> ?_);obtain⟨a7,c7,e7,_,_⟩:=Row.read hs7;subst e7;clear c1;have hs8:=OwnL.of1 hs7;have c1:=hs8.facts
      simp only [CellsAt,Nat.reduceAdd,and_true] at c1;have HS8:=hQ hs8;have HST7:=hQ (HST2.out.of_grown hg7);clear hs7 hs8 hg7 H1 HC HST2;go_simp;refine hK0 _ ?_;clear hK0 K0;refine wpList_nil ?_;refine onN_mk ?_;refine wpQ_all _ rfl rfl ?_;simp only [pick,pQ];iterate 1 (go_big_quiet_step (fail))
      refine wpQuiet_nil ⟨?_,?_⟩
      · exact cQ
      refine wpRest_act rfl ?_;go_wp2;refine onN_mk ?_;refine wpQ_nil ⟨?_,?_⟩
      · exact chk_nil
      refine wpRest_nil ?_;go_wp2;go_roundw
      case rel=>
       have h9:=HS8.out.set PA 2 (.slice a7 1 c7);have h10:=(h9.turn (Pr.pts (BN) (.cells #[.int .u8 97] 5)) (BytesRow (.slice (some ⟨BN,0,none⟩) 1 1) [97]) (row_of_pts rfl (by simp [maxLen]))).turn (Pr.pts (BN+1) (.cells #[.int .u8 97,.int .u8 97] 5)) (BytesRow (.slice (some ⟨BN+1,0,none⟩) 2 2) [97,97]) (row_of_pts rfl (by simp [maxLen]))
       have h12:=h10.join2 (BytesRow (.slice (some ⟨BN,0,none⟩) 1 1) [97]) (BytesRow (.slice (some ⟨BN+1,0,none⟩) 2 2) [97,97]);have h13:OwnL (rowsOf ((.slice (some ⟨BN,0,none⟩) 1 1,.slice (some ⟨BN+1,0,none⟩) 2 2),itemC 97) :: _) _:=h12;have h14:=h13.snoc rowsOf (ys.zip (lowL.take 0)) ((.slice (some ⟨BN,0,none⟩) 1 1,.slice (some ⟨BN+1,0,none⟩) 2 2),itemC 97)
       have e:(ys++ [(Value.slice (some ⟨BN,0,none⟩) 1 1,Value.slice (some ⟨BN+1,0,none⟩) 2 2)]).zip (lowL.take 1)=ys.zip (lowL.take 0)++ [((Value.slice (some ⟨BN,0,none⟩) 1 1,Value.slice (some ⟨BN+1,0,none⟩) 2 2),itemC 97)]:=by
        rw [show lowL.take 1=lowL.take 0++ [itemC 97] from rfl,List.zip_append (by rw [HYL.out];rfl)];rfl
       refine⟨1,.slice a7 1 c7,ys++ [(.slice (some ⟨BN,0,none⟩) 1 1,.slice (some ⟨BN+1,0,none⟩) 2 2)],by omega,by rw [List.length_append,HYL.out];rfl,rfl,HST7.out.setCell _ _,?_⟩;rw [e,List.flatMap_append]
       exact h14.to (M:= [Pr.pts IB (imgC 2 (.slice (some ⟨CB,0,none⟩) 3 3) (.slice none 0 0) (.slice none 0 0)),Pr.pts CB (.cells #[.int .i64 1,.int .i64 1,.int .i64 1] 3),Pr.pts PA (pageC 1 0 (.slice a7 1 c7) (.slice none 0 0) 0),Pr.pts PB (pageC 1 0 (.slice none 0 0) (.slice none 0 0) 0),Row 89 4 (.slice a7 1 c7) 1 ((ys.zip (lowL.take 0)).flatMap itCells++ [.slice (some ⟨BN,0,none⟩) 1 1,.slice (some ⟨BN+1,0,none⟩) 2 2,.int .i64 0,.int .i64 2]),big rowsOf (ys.zip (lowL.take 0)++ [((.slice (some ⟨BN,0,none⟩) 1 1,.slice (some ⟨BN+1,0,none⟩) 2 2),itemC 97)]),Pr.own hg,F])
      case measure=>simp [intOf]
    · cases List.mem_singleton.1 hsx
      have hs1:=(HS.out.alloc (.cells #[.int .u8 97,.int .u8 97] 5)).alloc (.cells #[.int .u8 97] 5);rw [show (wr.alloc (.cells #[.int .u8 97,.int .u8 97] 5)).heap.size=wr.heap.size+1 by simp] at hs1;have st1:=(HST.out.alloc (.cells #[.int .u8 97,.int .u8 97] 5)).alloc (.cells #[.int .u8 97] 5);have HS1:=hQ hs1;have HST1:=hQ st1;clear hs1 st1;refine wpRest_act rfl ?_;go_wp2;refine onN_mk ?_
      refine wpQ_nil ⟨?_,?_⟩
      · exact cQ
      refine wpRest_act rfl ?_;go_wp2;refine onN_mk ?_;refine wpQ_all _ rfl rfl ?_;simp only [pick,pQ];iterate 1 (go_big_quiet_step (fail))
      refine wpQuiet_nil ⟨?_,?_⟩
      · exact cQ
      refine wpRest_act rfl ?_;have hs1:=HS1.out;have st1:=HST1.out;clear HS1 HST1 c1;generalize (wr.alloc (.cells #[.int .u8 97,.int .u8 97] 5)).alloc (.cells #[.int .u8 97] 5)=w2 at*;generalize wr.heap.size=BN at*;have c1:=hs1.facts;simp only [CellsAt,Nat.reduceAdd,and_true] at c1
      have hs2:=(hs1.alloc (.cells #[.slice (some ⟨BN+1,0,none⟩) 1 1,.slice (some ⟨BN,0,none⟩) 2 2,.int .i64 0,.int .i64 2] 89)).drew;have H1:=hQ (hs2.pull1 (A1:=Row 89 4 (.slice ao 0 co) 0 ((ys.zip (lowL.take 0)).flatMap itCells)));have HC:=hQ (new_cells w2 [.slice (some ⟨BN+1,0,none⟩) 1 1,.slice (some ⟨BN,0,none⟩) 2 2,.int .i64 0,.int .i64 2] 89 w2.heap.size rfl)
      have HST2:=hQ (st1.alloc (.cells #[.slice (some ⟨BN+1,0,none⟩) 1 1,.slice (some ⟨BN,0,none⟩) 2 2,.int .i64 0,.int .i64 2] 89)).drew;clear hs1 hs2 st1;go_wp2;refine onN_mk ?_;refine wpQ_nil ⟨?_,?_⟩
      · exact cQ
      refine wpRest_act rfl ?_;refine wpList_append_slK rfl _ _ _ rfl 89 i0 _ 4 64 Tryz.underlying81 hi0 hz0 hz1 hz2 rfl _ _ _ rfl H1.out ⟨w2.heap.size,0,none⟩ 1 1 _ rfl rfl HC.out (by simp [Value.oneCell']) (by simp only [maxLen];omega) (by omega) (fun v7 w7 hs7 hg7 K0 hK0=> ?_);obtain⟨a7,c7,e7,_,_⟩:=Row.read hs7;subst e7;clear c1;have hs8:=OwnL.of1 hs7;have c1:=hs8.facts
      simp only [CellsAt,Nat.reduceAdd,and_true] at c1;have HS8:=hQ hs8;have HST7:=hQ (HST2.out.of_grown hg7);clear hs7 hs8 hg7 H1 HC HST2;go_simp;refine hK0 _ ?_;clear hK0 K0;refine wpList_nil ?_;refine onN_mk ?_;refine wpQ_all _ rfl rfl ?_;simp only [pick,pQ];iterate 1 (go_big_quiet_step (fail))
      refine wpQuiet_nil ⟨?_,?_⟩
      · exact cQ
      refine wpRest_act rfl ?_;go_wp2;refine onN_mk ?_;refine wpQ_nil ⟨?_,?_⟩
      · exact chk_nil
      refine wpRest_nil ?_;go_wp2;go_roundw
      case rel=>
       have h9:=HS8.out.set PA 2 (.slice a7 1 c7);have h10:=(h9.turn (Pr.pts (BN+1) (.cells #[.int .u8 97] 5)) (BytesRow (.slice (some ⟨BN+1,0,none⟩) 1 1) [97]) (row_of_pts rfl (by simp [maxLen]))).turn (Pr.pts (BN) (.cells #[.int .u8 97,.int .u8 97] 5)) (BytesRow (.slice (some ⟨BN,0,none⟩) 2 2) [97,97]) (row_of_pts rfl (by simp [maxLen]))
       have h12:=h10.join2 (BytesRow (.slice (some ⟨BN+1,0,none⟩) 1 1) [97]) (BytesRow (.slice (some ⟨BN,0,none⟩) 2 2) [97,97]);have h13:OwnL (rowsOf ((.slice (some ⟨BN+1,0,none⟩) 1 1,.slice (some ⟨BN,0,none⟩) 2 2),itemC 97) :: _) _:=h12;have h14:=h13.snoc rowsOf (ys.zip (lowL.take 0)) ((.slice (some ⟨BN+1,0,none⟩) 1 1,.slice (some ⟨BN,0,none⟩) 2 2),itemC 97)
       have e:(ys++ [(Value.slice (some ⟨BN+1,0,none⟩) 1 1,Value.slice (some ⟨BN,0,none⟩) 2 2)]).zip (lowL.take 1)=ys.zip (lowL.take 0)++ [((Value.slice (some ⟨BN+1,0,none⟩) 1 1,Value.slice (some ⟨BN,0,none⟩) 2 2),itemC 97)]:=by
        rw [show lowL.take 1=lowL.take 0++ [itemC 97] from rfl,List.zip_append (by rw [HYL.out];rfl)];rfl
       refine⟨1,.slice a7 1 c7,ys++ [(.slice (some ⟨BN+1,0,none⟩) 1 1,.slice (some ⟨BN,0,none⟩) 2 2)],by omega,by rw [List.length_append,HYL.out];rfl,rfl,HST7.out.setCell _ _,?_⟩;rw [e,List.flatMap_append]
       exact h14.to (M:= [Pr.pts IB (imgC 2 (.slice (some ⟨CB,0,none⟩) 3 3) (.slice none 0 0) (.slice none 0 0)),Pr.pts CB (.cells #[.int .i64 1,.int .i64 1,.int .i64 1] 3),Pr.pts PA (pageC 1 0 (.slice a7 1 c7) (.slice none 0 0) 0),Pr.pts PB (pageC 1 0 (.slice none 0 0) (.slice none 0 0) 0),Row 89 4 (.slice a7 1 c7) 1 ((ys.zip (lowL.take 0)).flatMap itCells++ [.slice (some ⟨BN+1,0,none⟩) 1 1,.slice (some ⟨BN,0,none⟩) 2 2,.int .i64 0,.int .i64 2]),big rowsOf (ys.zip (lowL.take 0)++ [((.slice (some ⟨BN+1,0,none⟩) 1 1,.slice (some ⟨BN,0,none⟩) 2 2),itemC 97)]),Pr.own hg,F])
      case measure=>simp [intOf]
  · go_wp2_with fail
    refine wp_region_forked (sz:=155) (by kernel_rfl) [0,1,2,3,4,6,7,8,9,10,11] [(5,[],[0,1,2,3,6,7,8,9,10,11],[(12,[13],[0,1,2,3,6,7,9,10]),(14,[],[0,1,2,3,6,7,9,10]),(15,[16],[0,2,3,6,7,9,10]),(17,[],[])]),(12,[],[0,1,2,3,4,6,7,9,10],[(5,[13],[0,1,2,3,6,7,9,10]),(14,[],[0,1,2,3,6,7,9,10]),(15,[16],[0,2,3,6,7,9,10]),(17,[],[])])] rfl (by kernel_rfl) (by kernel_rfl) (by kernel_rfl) ?_
    refine wpQ_all _ rfl rfl ?_;simp only [pick,pQ];iterate 11 (go_big_quiet_step (fail))
    refine wpQuiet_nil ?_;rw [show (((ByteArray.mk #[97,99,101,103])[1]'(by decide)).toNat:Int)=99 from rfl];intro sx hsx;rcases List.mem_cons.1 hsx with rfl | hsx
    · have hs1:=(HS.out.alloc (.cells #[.int .u8 99] 5)).alloc (.cells #[.int .u8 99,.int .u8 99] 5)
      rw [show (wr.alloc (.cells #[.int .u8 99] 5)).heap.size=wr.heap.size+1 by simp] at hs1;have st1:=(HST.out.alloc (.cells #[.int .u8 99] 5)).alloc (.cells #[.int .u8 99,.int .u8 99] 5);have HS1:=hQ hs1;have HST1:=hQ st1;clear hs1 st1;refine wpRest_act rfl ?_;go_wp2;refine onN_mk ?_;refine wpQ_nil ⟨?_,?_⟩
      · exact cQ
      refine wpRest_act rfl ?_;go_wp2;refine onN_mk ?_;refine wpQ_all _ rfl rfl ?_;simp only [pick,pQ];iterate 1 (go_big_quiet_step (fail))
      refine wpQuiet_nil ⟨?_,?_⟩
      · exact cQ
      refine wpRest_act rfl ?_;have hs1:=HS1.out;have st1:=HST1.out;clear HS1 HST1 c1;generalize (wr.alloc (.cells #[.int .u8 99] 5)).alloc (.cells #[.int .u8 99,.int .u8 99] 5)=w2 at*;generalize wr.heap.size=BN at*;have c1:=hs1.facts;simp only [CellsAt,Nat.reduceAdd,and_true] at c1
      have hs2:=(hs1.alloc (.cells #[.slice (some ⟨BN,0,none⟩) 1 1,.slice (some ⟨BN+1,0,none⟩) 2 2,.int .i64 0,.int .i64 2] 89)).drew;have H1:=hQ (hs2.pull1 (A1:=Row 89 4 (.slice ao 1 co) 1 ((ys.zip (lowL.take 1)).flatMap itCells)));have HC:=hQ (new_cells w2 [.slice (some ⟨BN,0,none⟩) 1 1,.slice (some ⟨BN+1,0,none⟩) 2 2,.int .i64 0,.int .i64 2] 89 w2.heap.size rfl)
      have HST2:=hQ (st1.alloc (.cells #[.slice (some ⟨BN,0,none⟩) 1 1,.slice (some ⟨BN+1,0,none⟩) 2 2,.int .i64 0,.int .i64 2] 89)).drew;clear hs1 hs2 st1;go_wp2;refine onN_mk ?_;refine wpQ_nil ⟨?_,?_⟩
      · exact cQ
      refine wpRest_act rfl ?_;refine wpList_append_slK rfl _ _ _ rfl 89 i0 _ 4 64 Tryz.underlying81 hi0 hz0 hz1 hz2 rfl _ _ _ rfl H1.out ⟨w2.heap.size,0,none⟩ 1 1 _ rfl rfl HC.out (by simp [Value.oneCell']) (by simp only [maxLen];omega) (by omega) (fun v7 w7 hs7 hg7 K0 hK0=> ?_);obtain⟨a7,c7,e7,_,_⟩:=Row.read hs7;subst e7;clear c1;have hs8:=OwnL.of1 hs7;have c1:=hs8.facts
      simp only [CellsAt,Nat.reduceAdd,and_true] at c1;have HS8:=hQ hs8;have HST7:=hQ (HST2.out.of_grown hg7);clear hs7 hs8 hg7 H1 HC HST2;go_simp;refine hK0 _ ?_;clear hK0 K0;refine wpList_nil ?_;refine onN_mk ?_;refine wpQ_all _ rfl rfl ?_;simp only [pick,pQ];iterate 1 (go_big_quiet_step (fail))
      refine wpQuiet_nil ⟨?_,?_⟩
      · exact cQ
      refine wpRest_act rfl ?_;go_wp2;refine onN_mk ?_;refine wpQ_nil ⟨?_,?_⟩
      · exact chk_nil
      refine wpRest_nil ?_;go_wp2;go_roundw
      case rel=>
       have h9:=HS8.out.set PA 2 (.slice a7 2 c7);have h10:=(h9.turn (Pr.pts (BN) (.cells #[.int .u8 99] 5)) (BytesRow (.slice (some ⟨BN,0,none⟩) 1 1) [99]) (row_of_pts rfl (by simp [maxLen]))).turn (Pr.pts (BN+1) (.cells #[.int .u8 99,.int .u8 99] 5)) (BytesRow (.slice (some ⟨BN+1,0,none⟩) 2 2) [99,99]) (row_of_pts rfl (by simp [maxLen]))
       have h12:=h10.join2 (BytesRow (.slice (some ⟨BN,0,none⟩) 1 1) [99]) (BytesRow (.slice (some ⟨BN+1,0,none⟩) 2 2) [99,99]);have h13:OwnL (rowsOf ((.slice (some ⟨BN,0,none⟩) 1 1,.slice (some ⟨BN+1,0,none⟩) 2 2),itemC 99) :: _) _:=h12;have h14:=h13.snoc rowsOf (ys.zip (lowL.take 1)) ((.slice (some ⟨BN,0,none⟩) 1 1,.slice (some ⟨BN+1,0,none⟩) 2 2),itemC 99)
       have e:(ys++ [(Value.slice (some ⟨BN,0,none⟩) 1 1,Value.slice (some ⟨BN+1,0,none⟩) 2 2)]).zip (lowL.take 2)=ys.zip (lowL.take 1)++ [((Value.slice (some ⟨BN,0,none⟩) 1 1,Value.slice (some ⟨BN+1,0,none⟩) 2 2),itemC 99)]:=by
        rw [show lowL.take 2=lowL.take 1++ [itemC 99] from rfl,List.zip_append (by rw [HYL.out];rfl)];rfl
       refine⟨2,.slice a7 2 c7,ys++ [(.slice (some ⟨BN,0,none⟩) 1 1,.slice (some ⟨BN+1,0,none⟩) 2 2)],by omega,by rw [List.length_append,HYL.out];rfl,rfl,HST7.out.setCell _ _,?_⟩;rw [e,List.flatMap_append]
       exact h14.to (M:= [Pr.pts IB (imgC 2 (.slice (some ⟨CB,0,none⟩) 3 3) (.slice none 0 0) (.slice none 0 0)),Pr.pts CB (.cells #[.int .i64 1,.int .i64 1,.int .i64 1] 3),Pr.pts PA (pageC 1 0 (.slice a7 2 c7) (.slice none 0 0) 0),Pr.pts PB (pageC 1 0 (.slice none 0 0) (.slice none 0 0) 0),Row 89 4 (.slice a7 2 c7) 2 ((ys.zip (lowL.take 1)).flatMap itCells++ [.slice (some ⟨BN,0,none⟩) 1 1,.slice (some ⟨BN+1,0,none⟩) 2 2,.int .i64 0,.int .i64 2]),big rowsOf (ys.zip (lowL.take 1)++ [((.slice (some ⟨BN,0,none⟩) 1 1,.slice (some ⟨BN+1,0,none⟩) 2 2),itemC 99)]),Pr.own hg,F])
      case measure=>simp [intOf]
    · cases List.mem_singleton.1 hsx
      have hs1:=(HS.out.alloc (.cells #[.int .u8 99,.int .u8 99] 5)).alloc (.cells #[.int .u8 99] 5);rw [show (wr.alloc (.cells #[.int .u8 99,.int .u8 99] 5)).heap.size=wr.heap.size+1 by simp] at hs1;have st1:=(HST.out.alloc (.cells #[.int .u8 99,.int .u8 99] 5)).alloc (.cells #[.int .u8 99] 5);have HS1:=hQ hs1;have HST1:=hQ st1;clear hs1 st1;refine wpRest_act rfl ?_;go_wp2;refine onN_mk ?_
      refine wpQ_nil ⟨?_,?_⟩
      · exact cQ
      refine wpRest_act rfl ?_;go_wp2;refine onN_mk ?_;refine wpQ_all _ rfl rfl ?_;simp only [pick,pQ];iterate 1 (go_big_quiet_step (fail))
      refine wpQuiet_nil ⟨?_,?_⟩
      · exact cQ
      refine wpRest_act rfl ?_;have hs1:=HS1.out;have st1:=HST1.out;clear HS1 HST1 c1;generalize (wr.alloc (.cells #[.int .u8 99,.int .u8 99] 5)).alloc (.cells #[.int .u8 99] 5)=w2 at*;generalize wr.heap.size=BN at*;have c1:=hs1.facts;simp only [CellsAt,Nat.reduceAdd,and_true] at c1
      have hs2:=(hs1.alloc (.cells #[.slice (some ⟨BN+1,0,none⟩) 1 1,.slice (some ⟨BN,0,none⟩) 2 2,.int .i64 0,.int .i64 2] 89)).drew;have H1:=hQ (hs2.pull1 (A1:=Row 89 4 (.slice ao 1 co) 1 ((ys.zip (lowL.take 1)).flatMap itCells)));have HC:=hQ (new_cells w2 [.slice (some ⟨BN+1,0,none⟩) 1 1,.slice (some ⟨BN,0,none⟩) 2 2,.int .i64 0,.int .i64 2] 89 w2.heap.size rfl)
      have HST2:=hQ (st1.alloc (.cells #[.slice (some ⟨BN+1,0,none⟩) 1 1,.slice (some ⟨BN,0,none⟩) 2 2,.int .i64 0,.int .i64 2] 89)).drew;clear hs1 hs2 st1;go_wp2;refine onN_mk ?_;refine wpQ_nil ⟨?_,?_⟩
      · exact cQ
      refine wpRest_act rfl ?_;refine wpList_append_slK rfl _ _ _ rfl 89 i0 _ 4 64 Tryz.underlying81 hi0 hz0 hz1 hz2 rfl _ _ _ rfl H1.out ⟨w2.heap.size,0,none⟩ 1 1 _ rfl rfl HC.out (by simp [Value.oneCell']) (by simp only [maxLen];omega) (by omega) (fun v7 w7 hs7 hg7 K0 hK0=> ?_);obtain⟨a7,c7,e7,_,_⟩:=Row.read hs7;subst e7;clear c1;have hs8:=OwnL.of1 hs7;have c1:=hs8.facts
      simp only [CellsAt,Nat.reduceAdd,and_true] at c1;have HS8:=hQ hs8;have HST7:=hQ (HST2.out.of_grown hg7);clear hs7 hs8 hg7 H1 HC HST2;go_simp;refine hK0 _ ?_;clear hK0 K0;refine wpList_nil ?_;refine onN_mk ?_;refine wpQ_all _ rfl rfl ?_;simp only [pick,pQ];iterate 1 (go_big_quiet_step (fail))
      refine wpQuiet_nil ⟨?_,?_⟩
      · exact cQ
      refine wpRest_act rfl ?_;go_wp2;refine onN_mk ?_;refine wpQ_nil ⟨?_,?_⟩
      · exact chk_nil
      refine wpRest_nil ?_;go_wp2;go_roundw
      case rel=>
       have h9:=HS8.out.set PA 2 (.slice a7 2 c7);have h10:=(h9.turn (Pr.pts (BN+1) (.cells #[.int .u8 99] 5)) (BytesRow (.slice (some ⟨BN+1,0,none⟩) 1 1) [99]) (row_of_pts rfl (by simp [maxLen]))).turn (Pr.pts (BN) (.cells #[.int .u8 99,.int .u8 99] 5)) (BytesRow (.slice (some ⟨BN,0,none⟩) 2 2) [99,99]) (row_of_pts rfl (by simp [maxLen]))
       have h12:=h10.join2 (BytesRow (.slice (some ⟨BN+1,0,none⟩) 1 1) [99]) (BytesRow (.slice (some ⟨BN,0,none⟩) 2 2) [99,99]);have h13:OwnL (rowsOf ((.slice (some ⟨BN+1,0,none⟩) 1 1,.slice (some ⟨BN,0,none⟩) 2 2),itemC 99) :: _) _:=h12;have h14:=h13.snoc rowsOf (ys.zip (lowL.take 1)) ((.slice (some ⟨BN+1,0,none⟩) 1 1,.slice (some ⟨BN,0,none⟩) 2 2),itemC 99)
       have e:(ys++ [(Value.slice (some ⟨BN+1,0,none⟩) 1 1,Value.slice (some ⟨BN,0,none⟩) 2 2)]).zip (lowL.take 2)=ys.zip (lowL.take 1)++ [((Value.slice (some ⟨BN+1,0,none⟩) 1 1,Value.slice (some ⟨BN,0,none⟩) 2 2),itemC 99)]:=by
        rw [show lowL.take 2=lowL.take 1++ [itemC 99] from rfl,List.zip_append (by rw [HYL.out];rfl)];rfl
       refine⟨2,.slice a7 2 c7,ys++ [(.slice (some ⟨BN+1,0,none⟩) 1 1,.slice (some ⟨BN,0,none⟩) 2 2)],by omega,by rw [List.length_append,HYL.out];rfl,rfl,HST7.out.setCell _ _,?_⟩;rw [e,List.flatMap_append]
       exact h14.to (M:= [Pr.pts IB (imgC 2 (.slice (some ⟨CB,0,none⟩) 3 3) (.slice none 0 0) (.slice none 0 0)),Pr.pts CB (.cells #[.int .i64 1,.int .i64 1,.int .i64 1] 3),Pr.pts PA (pageC 1 0 (.slice a7 2 c7) (.slice none 0 0) 0),Pr.pts PB (pageC 1 0 (.slice none 0 0) (.slice none 0 0) 0),Row 89 4 (.slice a7 2 c7) 2 ((ys.zip (lowL.take 1)).flatMap itCells++ [.slice (some ⟨BN+1,0,none⟩) 1 1,.slice (some ⟨BN,0,none⟩) 2 2,.int .i64 0,.int .i64 2]),big rowsOf (ys.zip (lowL.take 1)++ [((.slice (some ⟨BN+1,0,none⟩) 1 1,.slice (some ⟨BN,0,none⟩) 2 2),itemC 99)]),Pr.own hg,F])
      case measure=>simp [intOf]
  · go_wp2_with fail
    refine wp_region_forked (sz:=155) (by kernel_rfl) [0,1,2,3,4,6,7,8,9,10,11] [(5,[],[0,1,2,3,6,7,8,9,10,11],[(12,[13],[0,1,2,3,6,7,9,10]),(14,[],[0,1,2,3,6,7,9,10]),(15,[16],[0,2,3,6,7,9,10]),(17,[],[])]),(12,[],[0,1,2,3,4,6,7,9,10],[(5,[13],[0,1,2,3,6,7,9,10]),(14,[],[0,1,2,3,6,7,9,10]),(15,[16],[0,2,3,6,7,9,10]),(17,[],[])])] rfl (by kernel_rfl) (by kernel_rfl) (by kernel_rfl) ?_
    refine wpQ_all _ rfl rfl ?_;simp only [pick,pQ];iterate 11 (go_big_quiet_step (fail))
    refine wpQuiet_nil ?_;rw [show (((ByteArray.mk #[97,99,101,103])[2]'(by decide)).toNat:Int)=101 from rfl];intro sx hsx;rcases List.mem_cons.1 hsx with rfl | hsx
    · have hs1:=(HS.out.alloc (.cells #[.int .u8 101] 5)).alloc (.cells #[.int .u8 101,.int .u8 101] 5)
      rw [show (wr.alloc (.cells #[.int .u8 101] 5)).heap.size=wr.heap.size+1 by simp] at hs1;have st1:=(HST.out.alloc (.cells #[.int .u8 101] 5)).alloc (.cells #[.int .u8 101,.int .u8 101] 5);have HS1:=hQ hs1;have HST1:=hQ st1;clear hs1 st1;refine wpRest_act rfl ?_;go_wp2;refine onN_mk ?_;refine wpQ_nil ⟨?_,?_⟩
      · exact cQ
      refine wpRest_act rfl ?_;go_wp2;refine onN_mk ?_;refine wpQ_all _ rfl rfl ?_;simp only [pick,pQ];iterate 1 (go_big_quiet_step (fail))
      refine wpQuiet_nil ⟨?_,?_⟩
      · exact cQ
      refine wpRest_act rfl ?_;have hs1:=HS1.out;have st1:=HST1.out;clear HS1 HST1 c1;generalize (wr.alloc (.cells #[.int .u8 101] 5)).alloc (.cells #[.int .u8 101,.int .u8 101] 5)=w2 at*;generalize wr.heap.size=BN at*;have c1:=hs1.facts;simp only [CellsAt,Nat.reduceAdd,and_true] at c1
      have hs2:=(hs1.alloc (.cells #[.slice (some ⟨BN,0,none⟩) 1 1,.slice (some ⟨BN+1,0,none⟩) 2 2,.int .i64 0,.int .i64 2] 89)).drew;have H1:=hQ (hs2.pull1 (A1:=Row 89 4 (.slice ao 2 co) 2 ((ys.zip (lowL.take 2)).flatMap itCells)));have HC:=hQ (new_cells w2 [.slice (some ⟨BN,0,none⟩) 1 1,.slice (some ⟨BN+1,0,none⟩) 2 2,.int .i64 0,.int .i64 2] 89 w2.heap.size rfl)
      have HST2:=hQ (st1.alloc (.cells #[.slice (some ⟨BN,0,none⟩) 1 1,.slice (some ⟨BN+1,0,none⟩) 2 2,.int .i64 0,.int .i64 2] 89)).drew;clear hs1 hs2 st1;go_wp2;refine onN_mk ?_;refine wpQ_nil ⟨?_,?_⟩
      · exact cQ
      refine wpRest_act rfl ?_;refine wpList_append_slK rfl _ _ _ rfl 89 i0 _ 4 64 Tryz.underlying81 hi0 hz0 hz1 hz2 rfl _ _ _ rfl H1.out ⟨w2.heap.size,0,none⟩ 1 1 _ rfl rfl HC.out (by simp [Value.oneCell']) (by simp only [maxLen];omega) (by omega) (fun v7 w7 hs7 hg7 K0 hK0=> ?_);obtain⟨a7,c7,e7,_,_⟩:=Row.read hs7;subst e7;clear c1;have hs8:=OwnL.of1 hs7;have c1:=hs8.facts
      simp only [CellsAt,Nat.reduceAdd,and_true] at c1;have HS8:=hQ hs8;have HST7:=hQ (HST2.out.of_grown hg7);clear hs7 hs8 hg7 H1 HC HST2;go_simp;refine hK0 _ ?_;clear hK0 K0;refine wpList_nil ?_;refine onN_mk ?_;refine wpQ_all _ rfl rfl ?_;simp only [pick,pQ];iterate 1 (go_big_quiet_step (fail))
      refine wpQuiet_nil ⟨?_,?_⟩
      · exact cQ
      refine wpRest_act rfl ?_;go_wp2;refine onN_mk ?_;refine wpQ_nil ⟨?_,?_⟩
      · exact chk_nil
      refine wpRest_nil ?_;go_wp2;go_roundw
      case rel=>
       have h9:=HS8.out.set PA 2 (.slice a7 3 c7);have h10:=(h9.turn (Pr.pts (BN) (.cells #[.int .u8 101] 5)) (BytesRow (.slice (some ⟨BN,0,none⟩) 1 1) [101]) (row_of_pts rfl (by simp [maxLen]))).turn (Pr.pts (BN+1) (.cells #[.int .u8 101,.int .u8 101] 5)) (BytesRow (.slice (some ⟨BN+1,0,none⟩) 2 2) [101,101]) (row_of_pts rfl (by simp [maxLen]))
       have h12:=h10.join2 (BytesRow (.slice (some ⟨BN,0,none⟩) 1 1) [101]) (BytesRow (.slice (some ⟨BN+1,0,none⟩) 2 2) [101,101]);have h13:OwnL (rowsOf ((.slice (some ⟨BN,0,none⟩) 1 1,.slice (some ⟨BN+1,0,none⟩) 2 2),itemC 101) :: _) _:=h12;have h14:=h13.snoc rowsOf (ys.zip (lowL.take 2)) ((.slice (some ⟨BN,0,none⟩) 1 1,.slice (some ⟨BN+1,0,none⟩) 2 2),itemC 101)
       have e:(ys++ [(Value.slice (some ⟨BN,0,none⟩) 1 1,Value.slice (some ⟨BN+1,0,none⟩) 2 2)]).zip (lowL.take 3)=ys.zip (lowL.take 2)++ [((Value.slice (some ⟨BN,0,none⟩) 1 1,Value.slice (some ⟨BN+1,0,none⟩) 2 2),itemC 101)]:=by
        rw [show lowL.take 3=lowL.take 2++ [itemC 101] from rfl,List.zip_append (by rw [HYL.out];rfl)];rfl
       refine⟨3,.slice a7 3 c7,ys++ [(.slice (some ⟨BN,0,none⟩) 1 1,.slice (some ⟨BN+1,0,none⟩) 2 2)],by omega,by rw [List.length_append,HYL.out];rfl,rfl,HST7.out.setCell _ _,?_⟩;rw [e,List.flatMap_append]
       exact h14.to (M:= [Pr.pts IB (imgC 2 (.slice (some ⟨CB,0,none⟩) 3 3) (.slice none 0 0) (.slice none 0 0)),Pr.pts CB (.cells #[.int .i64 1,.int .i64 1,.int .i64 1] 3),Pr.pts PA (pageC 1 0 (.slice a7 3 c7) (.slice none 0 0) 0),Pr.pts PB (pageC 1 0 (.slice none 0 0) (.slice none 0 0) 0),Row 89 4 (.slice a7 3 c7) 3 ((ys.zip (lowL.take 2)).flatMap itCells++ [.slice (some ⟨BN,0,none⟩) 1 1,.slice (some ⟨BN+1,0,none⟩) 2 2,.int .i64 0,.int .i64 2]),big rowsOf (ys.zip (lowL.take 2)++ [((.slice (some ⟨BN,0,none⟩) 1 1,.slice (some ⟨BN+1,0,none⟩) 2 2),itemC 101)]),Pr.own hg,F])
      case measure=>simp [intOf]
    · cases List.mem_singleton.1 hsx
      have hs1:=(HS.out.alloc (.cells #[.int .u8 101,.int .u8 101] 5)).alloc (.cells #[.int .u8 101] 5);rw [show (wr.alloc (.cells #[.int .u8 101,.int .u8 101] 5)).heap.size=wr.heap.size+1 by simp] at hs1;have st1:=(HST.out.alloc (.cells #[.int .u8 101,.int .u8 101] 5)).alloc (.cells #[.int .u8 101] 5);have HS1:=hQ hs1;have HST1:=hQ st1;clear hs1 st1;refine wpRest_act rfl ?_;go_wp2
      refine onN_mk ?_;refine wpQ_nil ⟨?_,?_⟩
      · exact cQ
      refine wpRest_act rfl ?_;go_wp2;refine onN_mk ?_;refine wpQ_all _ rfl rfl ?_;simp only [pick,pQ];iterate 1 (go_big_quiet_step (fail))
      refine wpQuiet_nil ⟨?_,?_⟩
      · exact cQ
      refine wpRest_act rfl ?_;have hs1:=HS1.out;have st1:=HST1.out;clear HS1 HST1 c1;generalize (wr.alloc (.cells #[.int .u8 101,.int .u8 101] 5)).alloc (.cells #[.int .u8 101] 5)=w2 at*;generalize wr.heap.size=BN at*;have c1:=hs1.facts;simp only [CellsAt,Nat.reduceAdd,and_true] at c1
      have hs2:=(hs1.alloc (.cells #[.slice (some ⟨BN+1,0,none⟩) 1 1,.slice (some ⟨BN,0,none⟩) 2 2,.int .i64 0,.int .i64 2] 89)).drew;have H1:=hQ (hs2.pull1 (A1:=Row 89 4 (.slice ao 2 co) 2 ((ys.zip (lowL.take 2)).flatMap itCells)));have HC:=hQ (new_cells w2 [.slice (some ⟨BN+1,0,none⟩) 1 1,.slice (some ⟨BN,0,none⟩) 2 2,.int .i64 0,.int .i64 2] 89 w2.heap.size rfl)
      have HST2:=hQ (st1.alloc (.cells #[.slice (some ⟨BN+1,0,none⟩) 1 1,.slice (some ⟨BN,0,none⟩) 2 2,.int .i64 0,.int .i64 2] 89)).drew;clear hs1 hs2 st1;go_wp2;refine onN_mk ?_;refine wpQ_nil ⟨?_,?_⟩
      · exact cQ
      refine wpRest_act rfl ?_;refine wpList_append_slK rfl _ _ _ rfl 89 i0 _ 4 64 Tryz.underlying81 hi0 hz0 hz1 hz2 rfl _ _ _ rfl H1.out ⟨w2.heap.size,0,none⟩ 1 1 _ rfl rfl HC.out (by simp [Value.oneCell']) (by simp only [maxLen];omega) (by omega) (fun v7 w7 hs7 hg7 K0 hK0=> ?_);obtain⟨a7,c7,e7,_,_⟩:=Row.read hs7;subst e7;clear c1;have hs8:=OwnL.of1 hs7;have c1:=hs8.facts
      simp only [CellsAt,Nat.reduceAdd,and_true] at c1;have HS8:=hQ hs8;have HST7:=hQ (HST2.out.of_grown hg7);clear hs7 hs8 hg7 H1 HC HST2;go_simp;refine hK0 _ ?_;clear hK0 K0;refine wpList_nil ?_;refine onN_mk ?_;refine wpQ_all _ rfl rfl ?_;simp only [pick,pQ];iterate 1 (go_big_quiet_step (fail))
      refine wpQuiet_nil ⟨?_,?_⟩
      · exact cQ
      refine wpRest_act rfl ?_;go_wp2;refine onN_mk ?_;refine wpQ_nil ⟨?_,?_⟩
      · exact chk_nil
      refine wpRest_nil ?_;go_wp2;go_roundw
      case rel=>
       have h9:=HS8.out.set PA 2 (.slice a7 3 c7);have h10:=(h9.turn (Pr.pts (BN+1) (.cells #[.int .u8 101] 5)) (BytesRow (.slice (some ⟨BN+1,0,none⟩) 1 1) [101]) (row_of_pts rfl (by simp [maxLen]))).turn (Pr.pts (BN) (.cells #[.int .u8 101,.int .u8 101] 5)) (BytesRow (.slice (some ⟨BN,0,none⟩) 2 2) [101,101]) (row_of_pts rfl (by simp [maxLen]))
       have h12:=h10.join2 (BytesRow (.slice (some ⟨BN+1,0,none⟩) 1 1) [101]) (BytesRow (.slice (some ⟨BN,0,none⟩) 2 2) [101,101]);have h13:OwnL (rowsOf ((.slice (some ⟨BN+1,0,none⟩) 1 1,.slice (some ⟨BN,0,none⟩) 2 2),itemC 101) :: _) _:=h12;have h14:=h13.snoc rowsOf (ys.zip (lowL.take 2)) ((.slice (some ⟨BN+1,0,none⟩) 1 1,.slice (some ⟨BN,0,none⟩) 2 2),itemC 101)
       have e:(ys++ [(Value.slice (some ⟨BN+1,0,none⟩) 1 1,Value.slice (some ⟨BN,0,none⟩) 2 2)]).zip (lowL.take 3)=ys.zip (lowL.take 2)++ [((Value.slice (some ⟨BN+1,0,none⟩) 1 1,Value.slice (some ⟨BN,0,none⟩) 2 2),itemC 101)]:=by
        rw [show lowL.take 3=lowL.take 2++ [itemC 101] from rfl,List.zip_append (by rw [HYL.out];rfl)];rfl
       refine⟨3,.slice a7 3 c7,ys++ [(.slice (some ⟨BN+1,0,none⟩) 1 1,.slice (some ⟨BN,0,none⟩) 2 2)],by omega,by rw [List.length_append,HYL.out];rfl,rfl,HST7.out.setCell _ _,?_⟩;rw [e,List.flatMap_append]
       exact h14.to (M:= [Pr.pts IB (imgC 2 (.slice (some ⟨CB,0,none⟩) 3 3) (.slice none 0 0) (.slice none 0 0)),Pr.pts CB (.cells #[.int .i64 1,.int .i64 1,.int .i64 1] 3),Pr.pts PA (pageC 1 0 (.slice a7 3 c7) (.slice none 0 0) 0),Pr.pts PB (pageC 1 0 (.slice none 0 0) (.slice none 0 0) 0),Row 89 4 (.slice a7 3 c7) 3 ((ys.zip (lowL.take 2)).flatMap itCells++ [.slice (some ⟨BN+1,0,none⟩) 1 1,.slice (some ⟨BN,0,none⟩) 2 2,.int .i64 0,.int .i64 2]),big rowsOf (ys.zip (lowL.take 2)++ [((.slice (some ⟨BN+1,0,none⟩) 1 1,.slice (some ⟨BN,0,none⟩) 2 2),itemC 101)]),Pr.own hg,F])
      case measure=>simp [intOf]
  · go_wp2_with fail
    refine wp_region_forked (sz:=155) (by kernel_rfl) [0,1,2,3,4,6,7,8,9,10,11] [(5,[],[0,1,2,3,6,7,8,9,10,11],[(12,[13],[0,1,2,3,6,7,9,10]),(14,[],[0,1,2,3,6,7,9,10]),(15,[16],[0,2,3,6,7,9,10]),(17,[],[])]),(12,[],[0,1,2,3,4,6,7,9,10],[(5,[13],[0,1,2,3,6,7,9,10]),(14,[],[0,1,2,3,6,7,9,10]),(15,[16],[0,2,3,6,7,9,10]),(17,[],[])])] rfl (by kernel_rfl) (by kernel_rfl) (by kernel_rfl) ?_
    refine wpQ_all _ rfl rfl ?_;simp only [pick,pQ];iterate 11 (go_big_quiet_step (fail))
    refine wpQuiet_nil ?_;rw [show (((ByteArray.mk #[97,99,101,103])[3]'(by decide)).toNat:Int)=103 from rfl];intro sx hsx;rcases List.mem_cons.1 hsx with rfl | hsx
    · have hs1:=(HS.out.alloc (.cells #[.int .u8 103] 5)).alloc (.cells #[.int .u8 103,.int .u8 103] 5)
      rw [show (wr.alloc (.cells #[.int .u8 103] 5)).heap.size=wr.heap.size+1 by simp] at hs1;have st1:=(HST.out.alloc (.cells #[.int .u8 103] 5)).alloc (.cells #[.int .u8 103,.int .u8 103] 5);have HS1:=hQ hs1;have HST1:=hQ st1;clear hs1 st1;refine wpRest_act rfl ?_;go_wp2;refine onN_mk ?_;refine wpQ_nil ⟨?_,?_⟩
      · exact cQ
      refine wpRest_act rfl ?_;go_wp2;refine onN_mk ?_;refine wpQ_all _ rfl rfl ?_;simp only [pick,pQ];iterate 1 (go_big_quiet_step (fail))
      refine wpQuiet_nil ⟨?_,?_⟩
      · exact cQ
      refine wpRest_act rfl ?_;have hs1:=HS1.out;have st1:=HST1.out;clear HS1 HST1 c1;generalize (wr.alloc (.cells #[.int .u8 103] 5)).alloc (.cells #[.int .u8 103,.int .u8 103] 5)=w2 at*;generalize wr.heap.size=BN at*;have c1:=hs1.facts;simp only [CellsAt,Nat.reduceAdd,and_true] at c1
      have hs2:=(hs1.alloc (.cells #[.slice (some ⟨BN,0,none⟩) 1 1,.slice (some ⟨BN+1,0,none⟩) 2 2,.int .i64 0,.int .i64 2] 89)).drew;have H1:=hQ (hs2.pull1 (A1:=Row 89 4 (.slice ao 3 co) 3 ((ys.zip (lowL.take 3)).flatMap itCells)));have HC:=hQ (new_cells w2 [.slice (some ⟨BN,0,none⟩) 1 1,.slice (some ⟨BN+1,0,none⟩) 2 2,.int .i64 0,.int .i64 2] 89 w2.heap.size rfl)
      have HST2:=hQ (st1.alloc (.cells #[.slice (some ⟨BN,0,none⟩) 1 1,.slice (some ⟨BN+1,0,none⟩) 2 2,.int .i64 0,.int .i64 2] 89)).drew;clear hs1 hs2 st1;go_wp2;refine onN_mk ?_;refine wpQ_nil ⟨?_,?_⟩
      · exact cQ
      refine wpRest_act rfl ?_;refine wpList_append_slK rfl _ _ _ rfl 89 i0 _ 4 64 Tryz.underlying81 hi0 hz0 hz1 hz2 rfl _ _ _ rfl H1.out ⟨w2.heap.size,0,none⟩ 1 1 _ rfl rfl HC.out (by simp [Value.oneCell']) (by simp only [maxLen];omega) (by omega) (fun v7 w7 hs7 hg7 K0 hK0=> ?_);obtain⟨a7,c7,e7,_,_⟩:=Row.read hs7;subst e7;clear c1;have hs8:=OwnL.of1 hs7;have c1:=hs8.facts
      simp only [CellsAt,Nat.reduceAdd,and_true] at c1;have HS8:=hQ hs8;have HST7:=hQ (HST2.out.of_grown hg7);clear hs7 hs8 hg7 H1 HC HST2;go_simp;refine hK0 _ ?_;clear hK0 K0;refine wpList_nil ?_;refine onN_mk ?_;refine wpQ_all _ rfl rfl ?_;simp only [pick,pQ];iterate 1 (go_big_quiet_step (fail))
      refine wpQuiet_nil ⟨?_,?_⟩
      · exact cQ
      refine wpRest_act rfl ?_;go_wp2;refine onN_mk ?_;refine wpQ_nil ⟨?_,?_⟩
      · exact chk_nil
      refine wpRest_nil ?_;go_wp2;go_roundw
      case rel=>
       have h9:=HS8.out.set PA 2 (.slice a7 4 c7);have h10:=(h9.turn (Pr.pts (BN) (.cells #[.int .u8 103] 5)) (BytesRow (.slice (some ⟨BN,0,none⟩) 1 1) [103]) (row_of_pts rfl (by simp [maxLen]))).turn (Pr.pts (BN+1) (.cells #[.int .u8 103,.int .u8 103] 5)) (BytesRow (.slice (some ⟨BN+1,0,none⟩) 2 2) [103,103]) (row_of_pts rfl (by simp [maxLen]))
       have h12:=h10.join2 (BytesRow (.slice (some ⟨BN,0,none⟩) 1 1) [103]) (BytesRow (.slice (some ⟨BN+1,0,none⟩) 2 2) [103,103]);have h13:OwnL (rowsOf ((.slice (some ⟨BN,0,none⟩) 1 1,.slice (some ⟨BN+1,0,none⟩) 2 2),itemC 103) :: _) _:=h12;have h14:=h13.snoc rowsOf (ys.zip (lowL.take 3)) ((.slice (some ⟨BN,0,none⟩) 1 1,.slice (some ⟨BN+1,0,none⟩) 2 2),itemC 103)
       have e:(ys++ [(Value.slice (some ⟨BN,0,none⟩) 1 1,Value.slice (some ⟨BN+1,0,none⟩) 2 2)]).zip (lowL.take 4)=ys.zip (lowL.take 3)++ [((Value.slice (some ⟨BN,0,none⟩) 1 1,Value.slice (some ⟨BN+1,0,none⟩) 2 2),itemC 103)]:=by
        rw [show lowL.take 4=lowL.take 3++ [itemC 103] from rfl,List.zip_append (by rw [HYL.out];rfl)];rfl
       refine⟨4,.slice a7 4 c7,ys++ [(.slice (some ⟨BN,0,none⟩) 1 1,.slice (some ⟨BN+1,0,none⟩) 2 2)],by omega,by rw [List.length_append,HYL.out];rfl,rfl,HST7.out.setCell _ _,?_⟩;rw [e,List.flatMap_append]
       exact h14.to (M:= [Pr.pts IB (imgC 2 (.slice (some ⟨CB,0,none⟩) 3 3) (.slice none 0 0) (.slice none 0 0)),Pr.pts CB (.cells #[.int .i64 1,.int .i64 1,.int .i64 1] 3),Pr.pts PA (pageC 1 0 (.slice a7 4 c7) (.slice none 0 0) 0),Pr.pts PB (pageC 1 0 (.slice none 0 0) (.slice none 0 0) 0),Row 89 4 (.slice a7 4 c7) 4 ((ys.zip (lowL.take 3)).flatMap itCells++ [.slice (some ⟨BN,0,none⟩) 1 1,.slice (some ⟨BN+1,0,none⟩) 2 2,.int .i64 0,.int .i64 2]),big rowsOf (ys.zip (lowL.take 3)++ [((.slice (some ⟨BN,0,none⟩) 1 1,.slice (some ⟨BN+1,0,none⟩) 2 2),itemC 103)]),Pr.own hg,F])
      case measure=>simp [intOf]
    · cases List.mem_singleton.1 hsx
      have hs1:=(HS.out.alloc (.cells #[.int .u8 103,.int .u8 103] 5)).alloc (.cells #[.int .u8 103] 5);rw [show (wr.alloc (.cells #[.int .u8 103,.int .u8 103] 5)).heap.size=wr.heap.size+1 by simp] at hs1;have st1:=(HST.out.alloc (.cells #[.int .u8 103,.int .u8 103] 5)).alloc (.cells #[.int .u8 103] 5);have HS1:=hQ hs1;have HST1:=hQ st1;clear hs1 st1;refine wpRest_act rfl ?_;go_wp2
      refine onN_mk ?_;refine wpQ_nil ⟨?_,?_⟩
      · exact cQ
      refine wpRest_act rfl ?_;go_wp2;refine onN_mk ?_;refine wpQ_all _ rfl rfl ?_;simp only [pick,pQ];iterate 1 (go_big_quiet_step (fail))
      refine wpQuiet_nil ⟨?_,?_⟩
      · exact cQ
      refine wpRest_act rfl ?_;have hs1:=HS1.out;have st1:=HST1.out;clear HS1 HST1 c1;generalize (wr.alloc (.cells #[.int .u8 103,.int .u8 103] 5)).alloc (.cells #[.int .u8 103] 5)=w2 at*;generalize wr.heap.size=BN at*;have c1:=hs1.facts;simp only [CellsAt,Nat.reduceAdd,and_true] at c1
      have hs2:=(hs1.alloc (.cells #[.slice (some ⟨BN+1,0,none⟩) 1 1,.slice (some ⟨BN,0,none⟩) 2 2,.int .i64 0,.int .i64 2] 89)).drew;have H1:=hQ (hs2.pull1 (A1:=Row 89 4 (.slice ao 3 co) 3 ((ys.zip (lowL.take 3)).flatMap itCells)));have HC:=hQ (new_cells w2 [.slice (some ⟨BN+1,0,none⟩) 1 1,.slice (some ⟨BN,0,none⟩) 2 2,.int .i64 0,.int .i64 2] 89 w2.heap.size rfl)
      have HST2:=hQ (st1.alloc (.cells #[.slice (some ⟨BN+1,0,none⟩) 1 1,.slice (some ⟨BN,0,none⟩) 2 2,.int .i64 0,.int .i64 2] 89)).drew;clear hs1 hs2 st1;go_wp2;refine onN_mk ?_;refine wpQ_nil ⟨?_,?_⟩
      · exact cQ
      refine wpRest_act rfl ?_;refine wpList_append_slK rfl _ _ _ rfl 89 i0 _ 4 64 Tryz.underlying81 hi0 hz0 hz1 hz2 rfl _ _ _ rfl H1.out ⟨w2.heap.size,0,none⟩ 1 1 _ rfl rfl HC.out (by simp [Value.oneCell']) (by simp only [maxLen];omega) (by omega) (fun v7 w7 hs7 hg7 K0 hK0=> ?_);obtain⟨a7,c7,e7,_,_⟩:=Row.read hs7;subst e7;clear c1;have hs8:=OwnL.of1 hs7;have c1:=hs8.facts
      simp only [CellsAt,Nat.reduceAdd,and_true] at c1;have HS8:=hQ hs8;have HST7:=hQ (HST2.out.of_grown hg7);clear hs7 hs8 hg7 H1 HC HST2;go_simp;refine hK0 _ ?_;clear hK0 K0;refine wpList_nil ?_;refine onN_mk ?_;refine wpQ_all _ rfl rfl ?_;simp only [pick,pQ];iterate 1 (go_big_quiet_step (fail))
      refine wpQuiet_nil ⟨?_,?_⟩
      · exact cQ
      refine wpRest_act rfl ?_;go_wp2;refine onN_mk ?_;refine wpQ_nil ⟨?_,?_⟩
      · exact chk_nil
      refine wpRest_nil ?_;go_wp2;go_roundw
      case rel=>
       have h9:=HS8.out.set PA 2 (.slice a7 4 c7);have h10:=(h9.turn (Pr.pts (BN+1) (.cells #[.int .u8 103] 5)) (BytesRow (.slice (some ⟨BN+1,0,none⟩) 1 1) [103]) (row_of_pts rfl (by simp [maxLen]))).turn (Pr.pts (BN) (.cells #[.int .u8 103,.int .u8 103] 5)) (BytesRow (.slice (some ⟨BN,0,none⟩) 2 2) [103,103]) (row_of_pts rfl (by simp [maxLen]))
       have h12:=h10.join2 (BytesRow (.slice (some ⟨BN+1,0,none⟩) 1 1) [103]) (BytesRow (.slice (some ⟨BN,0,none⟩) 2 2) [103,103]);have h13:OwnL (rowsOf ((.slice (some ⟨BN+1,0,none⟩) 1 1,.slice (some ⟨BN,0,none⟩) 2 2),itemC 103) :: _) _:=h12;have h14:=h13.snoc rowsOf (ys.zip (lowL.take 3)) ((.slice (some ⟨BN+1,0,none⟩) 1 1,.slice (some ⟨BN,0,none⟩) 2 2),itemC 103)
       have e:(ys++ [(Value.slice (some ⟨BN+1,0,none⟩) 1 1,Value.slice (some ⟨BN,0,none⟩) 2 2)]).zip (lowL.take 4)=ys.zip (lowL.take 3)++ [((Value.slice (some ⟨BN+1,0,none⟩) 1 1,Value.slice (some ⟨BN,0,none⟩) 2 2),itemC 103)]:=by
        rw [show lowL.take 4=lowL.take 3++ [itemC 103] from rfl,List.zip_append (by rw [HYL.out];rfl)];rfl
       refine⟨4,.slice a7 4 c7,ys++ [(.slice (some ⟨BN+1,0,none⟩) 1 1,.slice (some ⟨BN,0,none⟩) 2 2)],by omega,by rw [List.length_append,HYL.out];rfl,rfl,HST7.out.setCell _ _,?_⟩;rw [e,List.flatMap_append]
       exact h14.to (M:= [Pr.pts IB (imgC 2 (.slice (some ⟨CB,0,none⟩) 3 3) (.slice none 0 0) (.slice none 0 0)),Pr.pts CB (.cells #[.int .i64 1,.int .i64 1,.int .i64 1] 3),Pr.pts PA (pageC 1 0 (.slice a7 4 c7) (.slice none 0 0) 0),Pr.pts PB (pageC 1 0 (.slice none 0 0) (.slice none 0 0) 0),Row 89 4 (.slice a7 4 c7) 4 ((ys.zip (lowL.take 3)).flatMap itCells++ [.slice (some ⟨BN+1,0,none⟩) 1 1,.slice (some ⟨BN,0,none⟩) 2 2,.int .i64 0,.int .i64 2]),big rowsOf (ys.zip (lowL.take 3)++ [((.slice (some ⟨BN+1,0,none⟩) 1 1,.slice (some ⟨BN,0,none⟩) 2 2),itemC 103)]),Pr.own hg,F])
      case measure=>simp [intOf]
  · have hs1:OwnL [Pr.pts IB (imgC 2 (.slice (some ⟨CB,0,none⟩) 3 3) (.slice none 0 0) (.slice none 0 0)),Pr.pts CB (.cells #[.int .i64 1,.int .i64 1,.int .i64 1] 3),Pr.pts PA (pageC 1 0 (.slice ao 4 co) (.slice none 0 0) 0),Pr.pts PB (pageC 1 0 (.slice none 0 0) (.slice none 0 0) 0),ItRow (.slice ao 4 co) ys lowL,big rowsOf (ys.zip lowL),Pr.own hg,F] wr:=HS.out
    have HS1:=hQ hs1;clear HS hs1;rw [show ((4:Nat):Int)=4 from rfl];go_wp2;clear c1;have HST0:=HST;clear HST
    go_loopw [7] (fun i wr=> ∃(k:Nat) (iv:Value) (zs:List (Value × Value)),k≤5∧zs.length=k∧i= .int .i64 k∧Stays w wr∧OwnL [Pr.pts IB (imgC 2 (.slice (some ⟨CB,0,none⟩) 3 3) (.slice none 0 0) (.slice none 0 0)),Pr.pts CB (.cells #[.int .i64 1,.int .i64 1,.int .i64 1] 3),Pr.pts PA (pageC 1 0 (.slice ao 4 co) (.slice none 0 0) 0),Pr.pts PB (pageC 1 0 (iv) (.slice none 0 0) 0),ItRow (.slice ao 4 co) ys lowL,big rowsOf (ys.zip lowL),Row 89 4 iv k ((zs.zip (highL.take k)).flatMap itCells),big rowsOf (zs.zip (highL.take k)),Pr.own hg,F] wr) (fun i _=>5-(intOf i).toNat)
    case atStart=>
     refine⟨0,.slice none 0 0,[],by omega,rfl,rfl,HST0.out,?_⟩;have h1:=(HS1.out.emp).nothing rowsOf;rw [← Row.nil 89 4] at h1
     exact h1.to (M:= [Pr.pts IB (imgC 2 (.slice (some ⟨CB,0,none⟩) 3 3) (.slice none 0 0) (.slice none 0 0)),Pr.pts CB (.cells #[.int .i64 1,.int .i64 1,.int .i64 1] 3),Pr.pts PA (pageC 1 0 (.slice ao 4 co) (.slice none 0 0) 0),Pr.pts PB (pageC 1 0 (.slice none 0 0) (.slice none 0 0) 0),ItRow (.slice ao 4 co) ys lowL,big rowsOf (ys.zip lowL),Row 89 4 (.slice none 0 0) 0 [],big rowsOf [],Pr.own hg,F])
    case round=>
     obtain⟨k,iv,zs,hk,hzl,rfl,hst,hs⟩:=hrel;clear HS1 HST0;obtain⟨bo,do',rfl⟩:=Row.shape (hs.pull1 (A1:=Row 89 4 iv k ((zs.zip (highL.take k)).flatMap itCells)));have hk5:k=0∨k=1∨k=2∨k=3∨k=4∨k=5:=by omega
     have HS:=hQ hs;have HST:=hQ hst;have HZL:=hQ hzl;have c1:=hs.facts;simp only [CellsAt,Nat.reduceAdd,and_true] at c1;clear hs hst hzl hk;rcases hk5 with rfl | rfl | rfl | rfl | rfl | rfl
     · go_wp2_with fail
       refine wp_region_forked (sz:=155) (by kernel_rfl) [0,1,2,3,4,6,7,8,9,10,11] [(5,[],[0,1,2,3,6,7,8,9,10,11],[(12,[13],[0,1,2,3,6,7,9,10]),(14,[],[0,1,2,3,6,7,9,10]),(15,[16],[0,2,3,6,7,9,10]),(17,[],[])]),(12,[],[0,1,2,3,4,6,7,9,10],[(5,[13],[0,1,2,3,6,7,9,10]),(14,[],[0,1,2,3,6,7,9,10]),(15,[16],[0,2,3,6,7,9,10]),(17,[],[])])] rfl (by kernel_rfl) (by kernel_rfl) (by kernel_rfl) ?_
       refine wpQ_all _ rfl rfl ?_;simp only [pick,pQ];iterate 11 (go_big_quiet_step (fail))
       refine wpQuiet_nil ?_;rw [show (((ByteArray.mk #[109,112,114,116,118])[0]'(by decide)).toNat:Int)=109 from rfl];intro sx hsx;rcases List.mem_cons.1 hsx with rfl | hsx
       · have hs1:=(HS.out.alloc (.cells #[.int .u8 109] 5)).alloc (.cells #[.int .u8 109,.int .u8 109] 5)
         rw [show (wr.alloc (.cells #[.int .u8 109] 5)).heap.size=wr.heap.size+1 by simp] at hs1;have st1:=(HST.out.alloc (.cells #[.int .u8 109] 5)).alloc (.cells #[.int .u8 109,.int .u8 109] 5);have HS1:=hQ hs1;have HST1:=hQ st1;clear hs1 st1;refine wpRest_act rfl ?_;go_wp2;refine onN_mk ?_;refine wpQ_nil ⟨?_,?_⟩
         · exact cQ
         refine wpRest_act rfl ?_;go_wp2;refine onN_mk ?_;refine wpQ_all _ rfl rfl ?_;simp only [pick,pQ];iterate 1 (go_big_quiet_step (fail))
         refine wpQuiet_nil ⟨?_,?_⟩
         · exact cQ
         refine wpRest_act rfl ?_;have hs1:=HS1.out;have st1:=HST1.out;clear HS1 HST1 c1;generalize (wr.alloc (.cells #[.int .u8 109] 5)).alloc (.cells #[.int .u8 109,.int .u8 109] 5)=w2 at*;generalize wr.heap.size=BN at*;have c1:=hs1.facts;simp only [CellsAt,Nat.reduceAdd,and_true] at c1
         have hs2:=(hs1.alloc (.cells #[.slice (some ⟨BN,0,none⟩) 1 1,.slice (some ⟨BN+1,0,none⟩) 2 2,.int .i64 0,.int .i64 2] 89)).drew;have H1:=hQ (hs2.pull1 (A1:=Row 89 4 (.slice bo 0 do') 0 ((zs.zip (highL.take 0)).flatMap itCells)));have HC:=hQ (new_cells w2 [.slice (some ⟨BN,0,none⟩) 1 1,.slice (some ⟨BN+1,0,none⟩) 2 2,.int .i64 0,.int .i64 2] 89 w2.heap.size rfl)
         have HST2:=hQ (st1.alloc (.cells #[.slice (some ⟨BN,0,none⟩) 1 1,.slice (some ⟨BN+1,0,none⟩) 2 2,.int .i64 0,.int .i64 2] 89)).drew;clear hs1 hs2 st1;go_wp2;refine onN_mk ?_;refine wpQ_nil ⟨?_,?_⟩
         · exact cQ
         refine wpRest_act rfl ?_;refine wpList_append_slK rfl _ _ _ rfl 89 i0 _ 4 64 Tryz.underlying81 hi0 hz0 hz1 hz2 rfl _ _ _ rfl H1.out ⟨w2.heap.size,0,none⟩ 1 1 _ rfl rfl HC.out (by simp [Value.oneCell']) (by simp only [maxLen];omega) (by omega) (fun v7 w7 hs7 hg7 K0 hK0=> ?_);obtain⟨a7,c7,e7,_,_⟩:=Row.read hs7;subst e7;clear c1;have hs8:=OwnL.of1 hs7;have c1:=hs8.facts
         simp only [CellsAt,Nat.reduceAdd,and_true] at c1;have HS8:=hQ hs8;have HST7:=hQ (HST2.out.of_grown hg7);clear hs7 hs8 hg7 H1 HC HST2;go_simp;refine hK0 _ ?_;clear hK0 K0;refine wpList_nil ?_;refine onN_mk ?_;refine wpQ_all _ rfl rfl ?_;simp only [pick,pQ];iterate 1 (go_big_quiet_step (fail))
         refine wpQuiet_nil ⟨?_,?_⟩
         · exact cQ
         refine wpRest_act rfl ?_;go_wp2;refine onN_mk ?_;refine wpQ_nil ⟨?_,?_⟩
         · exact chk_nil
         refine wpRest_nil ?_;go_wp2;go_roundw
         case rel=>
          have h9:=HS8.out.set PB 2 (.slice a7 1 c7);have h10:=(h9.turn (Pr.pts (BN) (.cells #[.int .u8 109] 5)) (BytesRow (.slice (some ⟨BN,0,none⟩) 1 1) [109]) (row_of_pts rfl (by simp [maxLen]))).turn (Pr.pts (BN+1) (.cells #[.int .u8 109,.int .u8 109] 5)) (BytesRow (.slice (some ⟨BN+1,0,none⟩) 2 2) [109,109]) (row_of_pts rfl (by simp [maxLen]))
          have h12:=h10.join2 (BytesRow (.slice (some ⟨BN,0,none⟩) 1 1) [109]) (BytesRow (.slice (some ⟨BN+1,0,none⟩) 2 2) [109,109]);have h13:OwnL (rowsOf ((.slice (some ⟨BN,0,none⟩) 1 1,.slice (some ⟨BN+1,0,none⟩) 2 2),itemC 109) :: _) _:=h12;have h14:=h13.snoc rowsOf (zs.zip (highL.take 0)) ((.slice (some ⟨BN,0,none⟩) 1 1,.slice (some ⟨BN+1,0,none⟩) 2 2),itemC 109)
          have e:(zs++ [(Value.slice (some ⟨BN,0,none⟩) 1 1,Value.slice (some ⟨BN+1,0,none⟩) 2 2)]).zip (highL.take 1)=zs.zip (highL.take 0)++ [((Value.slice (some ⟨BN,0,none⟩) 1 1,Value.slice (some ⟨BN+1,0,none⟩) 2 2),itemC 109)]:=by
           rw [show highL.take 1=highL.take 0++ [itemC 109] from rfl,List.zip_append (by rw [HZL.out];rfl)];rfl
          refine⟨1,.slice a7 1 c7,zs++ [(.slice (some ⟨BN,0,none⟩) 1 1,.slice (some ⟨BN+1,0,none⟩) 2 2)],by omega,by rw [List.length_append,HZL.out];rfl,rfl,HST7.out.setCell _ _,?_⟩;rw [e,List.flatMap_append]
          exact h14.to (M:= [Pr.pts IB (imgC 2 (.slice (some ⟨CB,0,none⟩) 3 3) (.slice none 0 0) (.slice none 0 0)),Pr.pts CB (.cells #[.int .i64 1,.int .i64 1,.int .i64 1] 3),Pr.pts PA (pageC 1 0 (.slice ao 4 co) (.slice none 0 0) 0),Pr.pts PB (pageC 1 0 (.slice a7 1 c7) (.slice none 0 0) 0),ItRow (.slice ao 4 co) ys lowL,big rowsOf (ys.zip lowL),Row 89 4 (.slice a7 1 c7) 1 ((zs.zip (highL.take 0)).flatMap itCells++ [.slice (some ⟨BN,0,none⟩) 1 1,.slice (some ⟨BN+1,0,none⟩) 2 2,.int .i64 0,.int .i64 2]),big rowsOf (zs.zip (highL.take 0)++ [((.slice (some ⟨BN,0,none⟩) 1 1,.slice (some ⟨BN+1,0,none⟩) 2 2),itemC 109)]),Pr.own hg,F])
         case measure=>simp [intOf]
       · cases List.mem_singleton.1 hsx
         have hs1:=(HS.out.alloc (.cells #[.int .u8 109,.int .u8 109] 5)).alloc (.cells #[.int .u8 109] 5);rw [show (wr.alloc (.cells #[.int .u8 109,.int .u8 109] 5)).heap.size=wr.heap.size+1 by simp] at hs1;have st1:=(HST.out.alloc (.cells #[.int .u8 109,.int .u8 109] 5)).alloc (.cells #[.int .u8 109] 5);have HS1:=hQ hs1;have HST1:=hQ st1;clear hs1 st1;refine wpRest_act rfl ?_;go_wp2
         refine onN_mk ?_;refine wpQ_nil ⟨?_,?_⟩
         · exact cQ
         refine wpRest_act rfl ?_;go_wp2;refine onN_mk ?_;refine wpQ_all _ rfl rfl ?_;simp only [pick,pQ];iterate 1 (go_big_quiet_step (fail))
         refine wpQuiet_nil ⟨?_,?_⟩
         · exact cQ
         refine wpRest_act rfl ?_;have hs1:=HS1.out;have st1:=HST1.out;clear HS1 HST1 c1;generalize (wr.alloc (.cells #[.int .u8 109,.int .u8 109] 5)).alloc (.cells #[.int .u8 109] 5)=w2 at*;generalize wr.heap.size=BN at*;have c1:=hs1.facts;simp only [CellsAt,Nat.reduceAdd,and_true] at c1
         have hs2:=(hs1.alloc (.cells #[.slice (some ⟨BN+1,0,none⟩) 1 1,.slice (some ⟨BN,0,none⟩) 2 2,.int .i64 0,.int .i64 2] 89)).drew;have H1:=hQ (hs2.pull1 (A1:=Row 89 4 (.slice bo 0 do') 0 ((zs.zip (highL.take 0)).flatMap itCells)));have HC:=hQ (new_cells w2 [.slice (some ⟨BN+1,0,none⟩) 1 1,.slice (some ⟨BN,0,none⟩) 2 2,.int .i64 0,.int .i64 2] 89 w2.heap.size rfl)
         have HST2:=hQ (st1.alloc (.cells #[.slice (some ⟨BN+1,0,none⟩) 1 1,.slice (some ⟨BN,0,none⟩) 2 2,.int .i64 0,.int .i64 2] 89)).drew;clear hs1 hs2 st1;go_wp2;refine onN_mk ?_;refine wpQ_nil ⟨?_,?_⟩
         · exact cQ
         refine wpRest_act rfl ?_;refine wpList_append_slK rfl _ _ _ rfl 89 i0 _ 4 64 Tryz.underlying81 hi0 hz0 hz1 hz2 rfl _ _ _ rfl H1.out ⟨w2.heap.size,0,none⟩ 1 1 _ rfl rfl HC.out (by simp [Value.oneCell']) (by simp only [maxLen];omega) (by omega) (fun v7 w7 hs7 hg7 K0 hK0=> ?_);obtain⟨a7,c7,e7,_,_⟩:=Row.read hs7;subst e7;clear c1;have hs8:=OwnL.of1 hs7;have c1:=hs8.facts
         simp only [CellsAt,Nat.reduceAdd,and_true] at c1;have HS8:=hQ hs8;have HST7:=hQ (HST2.out.of_grown hg7);clear hs7 hs8 hg7 H1 HC HST2;go_simp;refine hK0 _ ?_;clear hK0 K0;refine wpList_nil ?_;refine onN_mk ?_;refine wpQ_all _ rfl rfl ?_;simp only [pick,pQ];iterate 1 (go_big_quiet_step (fail))
         refine wpQuiet_nil ⟨?_,?_⟩
         · exact cQ
         refine wpRest_act rfl ?_;go_wp2;refine onN_mk ?_;refine wpQ_nil ⟨?_,?_⟩
         · exact chk_nil
         refine wpRest_nil ?_;go_wp2;go_roundw
         case rel=>
          have h9:=HS8.out.set PB 2 (.slice a7 1 c7);have h10:=(h9.turn (Pr.pts (BN+1) (.cells #[.int .u8 109] 5)) (BytesRow (.slice (some ⟨BN+1,0,none⟩) 1 1) [109]) (row_of_pts rfl (by simp [maxLen]))).turn (Pr.pts (BN) (.cells #[.int .u8 109,.int .u8 109] 5)) (BytesRow (.slice (some ⟨BN,0,none⟩) 2 2) [109,109]) (row_of_pts rfl (by simp [maxLen]))
          have h12:=h10.join2 (BytesRow (.slice (some ⟨BN+1,0,none⟩) 1 1) [109]) (BytesRow (.slice (some ⟨BN,0,none⟩) 2 2) [109,109]);have h13:OwnL (rowsOf ((.slice (some ⟨BN+1,0,none⟩) 1 1,.slice (some ⟨BN,0,none⟩) 2 2),itemC 109) :: _) _:=h12;have h14:=h13.snoc rowsOf (zs.zip (highL.take 0)) ((.slice (some ⟨BN+1,0,none⟩) 1 1,.slice (some ⟨BN,0,none⟩) 2 2),itemC 109)
          have e:(zs++ [(Value.slice (some ⟨BN+1,0,none⟩) 1 1,Value.slice (some ⟨BN,0,none⟩) 2 2)]).zip (highL.take 1)=zs.zip (highL.take 0)++ [((Value.slice (some ⟨BN+1,0,none⟩) 1 1,Value.slice (some ⟨BN,0,none⟩) 2 2),itemC 109)]:=by
           rw [show highL.take 1=highL.take 0++ [itemC 109] from rfl,List.zip_append (by rw [HZL.out];rfl)];rfl
          refine⟨1,.slice a7 1 c7,zs++ [(.slice (some ⟨BN+1,0,none⟩) 1 1,.slice (some ⟨BN,0,none⟩) 2 2)],by omega,by rw [List.length_append,HZL.out];rfl,rfl,HST7.out.setCell _ _,?_⟩;rw [e,List.flatMap_append]
          exact h14.to (M:= [Pr.pts IB (imgC 2 (.slice (some ⟨CB,0,none⟩) 3 3) (.slice none 0 0) (.slice none 0 0)),Pr.pts CB (.cells #[.int .i64 1,.int .i64 1,.int .i64 1] 3),Pr.pts PA (pageC 1 0 (.slice ao 4 co) (.slice none 0 0) 0),Pr.pts PB (pageC 1 0 (.slice a7 1 c7) (.slice none 0 0) 0),ItRow (.slice ao 4 co) ys lowL,big rowsOf (ys.zip lowL),Row 89 4 (.slice a7 1 c7) 1 ((zs.zip (highL.take 0)).flatMap itCells++ [.slice (some ⟨BN+1,0,none⟩) 1 1,.slice (some ⟨BN,0,none⟩) 2 2,.int .i64 0,.int .i64 2]),big rowsOf (zs.zip (highL.take 0)++ [((.slice (some ⟨BN+1,0,none⟩) 1 1,.slice (some ⟨BN,0,none⟩) 2 2),itemC 109)]),Pr.own hg,F])
         case measure=>simp [intOf]
     · go_wp2_with fail
       refine wp_region_forked (sz:=155) (by kernel_rfl) [0,1,2,3,4,6,7,8,9,10,11] [(5,[],[0,1,2,3,6,7,8,9,10,11],[(12,[13],[0,1,2,3,6,7,9,10]),(14,[],[0,1,2,3,6,7,9,10]),(15,[16],[0,2,3,6,7,9,10]),(17,[],[])]),(12,[],[0,1,2,3,4,6,7,9,10],[(5,[13],[0,1,2,3,6,7,9,10]),(14,[],[0,1,2,3,6,7,9,10]),(15,[16],[0,2,3,6,7,9,10]),(17,[],[])])] rfl (by kernel_rfl) (by kernel_rfl) (by kernel_rfl) ?_
       refine wpQ_all _ rfl rfl ?_;simp only [pick,pQ];iterate 11 (go_big_quiet_step (fail))
       refine wpQuiet_nil ?_;rw [show (((ByteArray.mk #[109,112,114,116,118])[1]'(by decide)).toNat:Int)=112 from rfl];intro sx hsx;rcases List.mem_cons.1 hsx with rfl | hsx
       · have hs1:=(HS.out.alloc (.cells #[.int .u8 112] 5)).alloc (.cells #[.int .u8 112,.int .u8 112] 5)
         rw [show (wr.alloc (.cells #[.int .u8 112] 5)).heap.size=wr.heap.size+1 by simp] at hs1;have st1:=(HST.out.alloc (.cells #[.int .u8 112] 5)).alloc (.cells #[.int .u8 112,.int .u8 112] 5);have HS1:=hQ hs1;have HST1:=hQ st1;clear hs1 st1;refine wpRest_act rfl ?_;go_wp2;refine onN_mk ?_;refine wpQ_nil ⟨?_,?_⟩
         · exact cQ
         refine wpRest_act rfl ?_;go_wp2;refine onN_mk ?_;refine wpQ_all _ rfl rfl ?_;simp only [pick,pQ];iterate 1 (go_big_quiet_step (fail))
         refine wpQuiet_nil ⟨?_,?_⟩
         · exact cQ
         refine wpRest_act rfl ?_;have hs1:=HS1.out;have st1:=HST1.out;clear HS1 HST1 c1;generalize (wr.alloc (.cells #[.int .u8 112] 5)).alloc (.cells #[.int .u8 112,.int .u8 112] 5)=w2 at*;generalize wr.heap.size=BN at*;have c1:=hs1.facts;simp only [CellsAt,Nat.reduceAdd,and_true] at c1
         have hs2:=(hs1.alloc (.cells #[.slice (some ⟨BN,0,none⟩) 1 1,.slice (some ⟨BN+1,0,none⟩) 2 2,.int .i64 0,.int .i64 2] 89)).drew;have H1:=hQ (hs2.pull1 (A1:=Row 89 4 (.slice bo 1 do') 1 ((zs.zip (highL.take 1)).flatMap itCells)));have HC:=hQ (new_cells w2 [.slice (some ⟨BN,0,none⟩) 1 1,.slice (some ⟨BN+1,0,none⟩) 2 2,.int .i64 0,.int .i64 2] 89 w2.heap.size rfl)
         have HST2:=hQ (st1.alloc (.cells #[.slice (some ⟨BN,0,none⟩) 1 1,.slice (some ⟨BN+1,0,none⟩) 2 2,.int .i64 0,.int .i64 2] 89)).drew;clear hs1 hs2 st1;go_wp2;refine onN_mk ?_;refine wpQ_nil ⟨?_,?_⟩
         · exact cQ
         refine wpRest_act rfl ?_;refine wpList_append_slK rfl _ _ _ rfl 89 i0 _ 4 64 Tryz.underlying81 hi0 hz0 hz1 hz2 rfl _ _ _ rfl H1.out ⟨w2.heap.size,0,none⟩ 1 1 _ rfl rfl HC.out (by simp [Value.oneCell']) (by simp only [maxLen];omega) (by omega) (fun v7 w7 hs7 hg7 K0 hK0=> ?_);obtain⟨a7,c7,e7,_,_⟩:=Row.read hs7;subst e7;clear c1;have hs8:=OwnL.of1 hs7;have c1:=hs8.facts
         simp only [CellsAt,Nat.reduceAdd,and_true] at c1;have HS8:=hQ hs8;have HST7:=hQ (HST2.out.of_grown hg7);clear hs7 hs8 hg7 H1 HC HST2;go_simp;refine hK0 _ ?_;clear hK0 K0;refine wpList_nil ?_;refine onN_mk ?_;refine wpQ_all _ rfl rfl ?_;simp only [pick,pQ];iterate 1 (go_big_quiet_step (fail))
         refine wpQuiet_nil ⟨?_,?_⟩
         · exact cQ
         refine wpRest_act rfl ?_;go_wp2;refine onN_mk ?_;refine wpQ_nil ⟨?_,?_⟩
         · exact chk_nil
         refine wpRest_nil ?_;go_wp2;go_roundw
         case rel=>
          have h9:=HS8.out.set PB 2 (.slice a7 2 c7);have h10:=(h9.turn (Pr.pts (BN) (.cells #[.int .u8 112] 5)) (BytesRow (.slice (some ⟨BN,0,none⟩) 1 1) [112]) (row_of_pts rfl (by simp [maxLen]))).turn (Pr.pts (BN+1) (.cells #[.int .u8 112,.int .u8 112] 5)) (BytesRow (.slice (some ⟨BN+1,0,none⟩) 2 2) [112,112]) (row_of_pts rfl (by simp [maxLen]))
          have h12:=h10.join2 (BytesRow (.slice (some ⟨BN,0,none⟩) 1 1) [112]) (BytesRow (.slice (some ⟨BN+1,0,none⟩) 2 2) [112,112]);have h13:OwnL (rowsOf ((.slice (some ⟨BN,0,none⟩) 1 1,.slice (some ⟨BN+1,0,none⟩) 2 2),itemC 112) :: _) _:=h12;have h14:=h13.snoc rowsOf (zs.zip (highL.take 1)) ((.slice (some ⟨BN,0,none⟩) 1 1,.slice (some ⟨BN+1,0,none⟩) 2 2),itemC 112)
          have e:(zs++ [(Value.slice (some ⟨BN,0,none⟩) 1 1,Value.slice (some ⟨BN+1,0,none⟩) 2 2)]).zip (highL.take 2)=zs.zip (highL.take 1)++ [((Value.slice (some ⟨BN,0,none⟩) 1 1,Value.slice (some ⟨BN+1,0,none⟩) 2 2),itemC 112)]:=by
           rw [show highL.take 2=highL.take 1++ [itemC 112] from rfl,List.zip_append (by rw [HZL.out];rfl)];rfl
          refine⟨2,.slice a7 2 c7,zs++ [(.slice (some ⟨BN,0,none⟩) 1 1,.slice (some ⟨BN+1,0,none⟩) 2 2)],by omega,by rw [List.length_append,HZL.out];rfl,rfl,HST7.out.setCell _ _,?_⟩;rw [e,List.flatMap_append]
          exact h14.to (M:= [Pr.pts IB (imgC 2 (.slice (some ⟨CB,0,none⟩) 3 3) (.slice none 0 0) (.slice none 0 0)),Pr.pts CB (.cells #[.int .i64 1,.int .i64 1,.int .i64 1] 3),Pr.pts PA (pageC 1 0 (.slice ao 4 co) (.slice none 0 0) 0),Pr.pts PB (pageC 1 0 (.slice a7 2 c7) (.slice none 0 0) 0),ItRow (.slice ao 4 co) ys lowL,big rowsOf (ys.zip lowL),Row 89 4 (.slice a7 2 c7) 2 ((zs.zip (highL.take 1)).flatMap itCells++ [.slice (some ⟨BN,0,none⟩) 1 1,.slice (some ⟨BN+1,0,none⟩) 2 2,.int .i64 0,.int .i64 2]),big rowsOf (zs.zip (highL.take 1)++ [((.slice (some ⟨BN,0,none⟩) 1 1,.slice (some ⟨BN+1,0,none⟩) 2 2),itemC 112)]),Pr.own hg,F])
         case measure=>simp [intOf]
       · cases List.mem_singleton.1 hsx
         have hs1:=(HS.out.alloc (.cells #[.int .u8 112,.int .u8 112] 5)).alloc (.cells #[.int .u8 112] 5);rw [show (wr.alloc (.cells #[.int .u8 112,.int .u8 112] 5)).heap.size=wr.heap.size+1 by simp] at hs1;have st1:=(HST.out.alloc (.cells #[.int .u8 112,.int .u8 112] 5)).alloc (.cells #[.int .u8 112] 5);have HS1:=hQ hs1;have HST1:=hQ st1;clear hs1 st1;refine wpRest_act rfl ?_;go_wp2
         refine onN_mk ?_;refine wpQ_nil ⟨?_,?_⟩
         · exact cQ
         refine wpRest_act rfl ?_;go_wp2;refine onN_mk ?_;refine wpQ_all _ rfl rfl ?_;simp only [pick,pQ];iterate 1 (go_big_quiet_step (fail))
         refine wpQuiet_nil ⟨?_,?_⟩
         · exact cQ
         refine wpRest_act rfl ?_;have hs1:=HS1.out;have st1:=HST1.out;clear HS1 HST1 c1;generalize (wr.alloc (.cells #[.int .u8 112,.int .u8 112] 5)).alloc (.cells #[.int .u8 112] 5)=w2 at*;generalize wr.heap.size=BN at*;have c1:=hs1.facts;simp only [CellsAt,Nat.reduceAdd,and_true] at c1
         have hs2:=(hs1.alloc (.cells #[.slice (some ⟨BN+1,0,none⟩) 1 1,.slice (some ⟨BN,0,none⟩) 2 2,.int .i64 0,.int .i64 2] 89)).drew;have H1:=hQ (hs2.pull1 (A1:=Row 89 4 (.slice bo 1 do') 1 ((zs.zip (highL.take 1)).flatMap itCells)));have HC:=hQ (new_cells w2 [.slice (some ⟨BN+1,0,none⟩) 1 1,.slice (some ⟨BN,0,none⟩) 2 2,.int .i64 0,.int .i64 2] 89 w2.heap.size rfl)
         have HST2:=hQ (st1.alloc (.cells #[.slice (some ⟨BN+1,0,none⟩) 1 1,.slice (some ⟨BN,0,none⟩) 2 2,.int .i64 0,.int .i64 2] 89)).drew;clear hs1 hs2 st1;go_wp2;refine onN_mk ?_;refine wpQ_nil ⟨?_,?_⟩
         · exact cQ
         refine wpRest_act rfl ?_;refine wpList_append_slK rfl _ _ _ rfl 89 i0 _ 4 64 Tryz.underlying81 hi0 hz0 hz1 hz2 rfl _ _ _ rfl H1.out ⟨w2.heap.size,0,none⟩ 1 1 _ rfl rfl HC.out (by simp [Value.oneCell']) (by simp only [maxLen];omega) (by omega) (fun v7 w7 hs7 hg7 K0 hK0=> ?_);obtain⟨a7,c7,e7,_,_⟩:=Row.read hs7;subst e7;clear c1;have hs8:=OwnL.of1 hs7;have c1:=hs8.facts
         simp only [CellsAt,Nat.reduceAdd,and_true] at c1;have HS8:=hQ hs8;have HST7:=hQ (HST2.out.of_grown hg7);clear hs7 hs8 hg7 H1 HC HST2;go_simp;refine hK0 _ ?_;clear hK0 K0;refine wpList_nil ?_;refine onN_mk ?_;refine wpQ_all _ rfl rfl ?_;simp only [pick,pQ];iterate 1 (go_big_quiet_step (fail))
         refine wpQuiet_nil ⟨?_,?_⟩
         · exact cQ
         refine wpRest_act rfl ?_;go_wp2;refine onN_mk ?_;refine wpQ_nil ⟨?_,?_⟩
         · exact chk_nil
         refine wpRest_nil ?_;go_wp2;go_roundw
         case rel=>
          have h9:=HS8.out.set PB 2 (.slice a7 2 c7);have h10:=(h9.turn (Pr.pts (BN+1) (.cells #[.int .u8 112] 5)) (BytesRow (.slice (some ⟨BN+1,0,none⟩) 1 1) [112]) (row_of_pts rfl (by simp [maxLen]))).turn (Pr.pts (BN) (.cells #[.int .u8 112,.int .u8 112] 5)) (BytesRow (.slice (some ⟨BN,0,none⟩) 2 2) [112,112]) (row_of_pts rfl (by simp [maxLen]))
          have h12:=h10.join2 (BytesRow (.slice (some ⟨BN+1,0,none⟩) 1 1) [112]) (BytesRow (.slice (some ⟨BN,0,none⟩) 2 2) [112,112]);have h13:OwnL (rowsOf ((.slice (some ⟨BN+1,0,none⟩) 1 1,.slice (some ⟨BN,0,none⟩) 2 2),itemC 112) :: _) _:=h12;have h14:=h13.snoc rowsOf (zs.zip (highL.take 1)) ((.slice (some ⟨BN+1,0,none⟩) 1 1,.slice (some ⟨BN,0,none⟩) 2 2),itemC 112)
          have e:(zs++ [(Value.slice (some ⟨BN+1,0,none⟩) 1 1,Value.slice (some ⟨BN,0,none⟩) 2 2)]).zip (highL.take 2)=zs.zip (highL.take 1)++ [((Value.slice (some ⟨BN+1,0,none⟩) 1 1,Value.slice (some ⟨BN,0,none⟩) 2 2),itemC 112)]:=by
           rw [show highL.take 2=highL.take 1++ [itemC 112] from rfl,List.zip_append (by rw [HZL.out];rfl)];rfl
          refine⟨2,.slice a7 2 c7,zs++ [(.slice (some ⟨BN+1,0,none⟩) 1 1,.slice (some ⟨BN,0,none⟩) 2 2)],by omega,by rw [List.length_append,HZL.out];rfl,rfl,HST7.out.setCell _ _,?_⟩;rw [e,List.flatMap_append]
          exact h14.to (M:= [Pr.pts IB (imgC 2 (.slice (some ⟨CB,0,none⟩) 3 3) (.slice none 0 0) (.slice none 0 0)),Pr.pts CB (.cells #[.int .i64 1,.int .i64 1,.int .i64 1] 3),Pr.pts PA (pageC 1 0 (.slice ao 4 co) (.slice none 0 0) 0),Pr.pts PB (pageC 1 0 (.slice a7 2 c7) (.slice none 0 0) 0),ItRow (.slice ao 4 co) ys lowL,big rowsOf (ys.zip lowL),Row 89 4 (.slice a7 2 c7) 2 ((zs.zip (highL.take 1)).flatMap itCells++ [.slice (some ⟨BN+1,0,none⟩) 1 1,.slice (some ⟨BN,0,none⟩) 2 2,.int .i64 0,.int .i64 2]),big rowsOf (zs.zip (highL.take 1)++ [((.slice (some ⟨BN+1,0,none⟩) 1 1,.slice (some ⟨BN,0,none⟩) 2 2),itemC 112)]),Pr.own hg,F])
         case measure=>simp [intOf]
     · go_wp2_with fail
       refine wp_region_forked (sz:=155) (by kernel_rfl) [0,1,2,3,4,6,7,8,9,10,11] [(5,[],[0,1,2,3,6,7,8,9,10,11],[(12,[13],[0,1,2,3,6,7,9,10]),(14,[],[0,1,2,3,6,7,9,10]),(15,[16],[0,2,3,6,7,9,10]),(17,[],[])]),(12,[],[0,1,2,3,4,6,7,9,10],[(5,[13],[0,1,2,3,6,7,9,10]),(14,[],[0,1,2,3,6,7,9,10]),(15,[16],[0,2,3,6,7,9,10]),(17,[],[])])] rfl (by kernel_rfl) (by kernel_rfl) (by kernel_rfl) ?_
       refine wpQ_all _ rfl rfl ?_;simp only [pick,pQ];iterate 11 (go_big_quiet_step (fail))
       refine wpQuiet_nil ?_;rw [show (((ByteArray.mk #[109,112,114,116,118])[2]'(by decide)).toNat:Int)=114 from rfl];intro sx hsx;rcases List.mem_cons.1 hsx with rfl | hsx
       · have hs1:=(HS.out.alloc (.cells #[.int .u8 114] 5)).alloc (.cells #[.int .u8 114,.int .u8 114] 5)
         rw [show (wr.alloc (.cells #[.int .u8 114] 5)).heap.size=wr.heap.size+1 by simp] at hs1;have st1:=(HST.out.alloc (.cells #[.int .u8 114] 5)).alloc (.cells #[.int .u8 114,.int .u8 114] 5);have HS1:=hQ hs1;have HST1:=hQ st1;clear hs1 st1;refine wpRest_act rfl ?_;go_wp2;refine onN_mk ?_;refine wpQ_nil ⟨?_,?_⟩
         · exact cQ
         refine wpRest_act rfl ?_;go_wp2;refine onN_mk ?_;refine wpQ_all _ rfl rfl ?_;simp only [pick,pQ];iterate 1 (go_big_quiet_step (fail))
         refine wpQuiet_nil ⟨?_,?_⟩
         · exact cQ
         refine wpRest_act rfl ?_;have hs1:=HS1.out;have st1:=HST1.out;clear HS1 HST1 c1;generalize (wr.alloc (.cells #[.int .u8 114] 5)).alloc (.cells #[.int .u8 114,.int .u8 114] 5)=w2 at*;generalize wr.heap.size=BN at*;have c1:=hs1.facts;simp only [CellsAt,Nat.reduceAdd,and_true] at c1
         have hs2:=(hs1.alloc (.cells #[.slice (some ⟨BN,0,none⟩) 1 1,.slice (some ⟨BN+1,0,none⟩) 2 2,.int .i64 0,.int .i64 2] 89)).drew;have H1:=hQ (hs2.pull1 (A1:=Row 89 4 (.slice bo 2 do') 2 ((zs.zip (highL.take 2)).flatMap itCells)));have HC:=hQ (new_cells w2 [.slice (some ⟨BN,0,none⟩) 1 1,.slice (some ⟨BN+1,0,none⟩) 2 2,.int .i64 0,.int .i64 2] 89 w2.heap.size rfl)
         have HST2:=hQ (st1.alloc (.cells #[.slice (some ⟨BN,0,none⟩) 1 1,.slice (some ⟨BN+1,0,none⟩) 2 2,.int .i64 0,.int .i64 2] 89)).drew;clear hs1 hs2 st1;go_wp2;refine onN_mk ?_;refine wpQ_nil ⟨?_,?_⟩
         · exact cQ
         refine wpRest_act rfl ?_;refine wpList_append_slK rfl _ _ _ rfl 89 i0 _ 4 64 Tryz.underlying81 hi0 hz0 hz1 hz2 rfl _ _ _ rfl H1.out ⟨w2.heap.size,0,none⟩ 1 1 _ rfl rfl HC.out (by simp [Value.oneCell']) (by simp only [maxLen];omega) (by omega) (fun v7 w7 hs7 hg7 K0 hK0=> ?_);obtain⟨a7,c7,e7,_,_⟩:=Row.read hs7;subst e7;clear c1;have hs8:=OwnL.of1 hs7;have c1:=hs8.facts
         simp only [CellsAt,Nat.reduceAdd,and_true] at c1;have HS8:=hQ hs8;have HST7:=hQ (HST2.out.of_grown hg7);clear hs7 hs8 hg7 H1 HC HST2;go_simp;refine hK0 _ ?_;clear hK0 K0;refine wpList_nil ?_;refine onN_mk ?_;refine wpQ_all _ rfl rfl ?_;simp only [pick,pQ];iterate 1 (go_big_quiet_step (fail))
         refine wpQuiet_nil ⟨?_,?_⟩
         · exact cQ
         refine wpRest_act rfl ?_;go_wp2;refine onN_mk ?_;refine wpQ_nil ⟨?_,?_⟩
         · exact chk_nil
         refine wpRest_nil ?_;go_wp2;go_roundw
         case rel=>
          have h9:=HS8.out.set PB 2 (.slice a7 3 c7);have h10:=(h9.turn (Pr.pts (BN) (.cells #[.int .u8 114] 5)) (BytesRow (.slice (some ⟨BN,0,none⟩) 1 1) [114]) (row_of_pts rfl (by simp [maxLen]))).turn (Pr.pts (BN+1) (.cells #[.int .u8 114,.int .u8 114] 5)) (BytesRow (.slice (some ⟨BN+1,0,none⟩) 2 2) [114,114]) (row_of_pts rfl (by simp [maxLen]))
          have h12:=h10.join2 (BytesRow (.slice (some ⟨BN,0,none⟩) 1 1) [114]) (BytesRow (.slice (some ⟨BN+1,0,none⟩) 2 2) [114,114]);have h13:OwnL (rowsOf ((.slice (some ⟨BN,0,none⟩) 1 1,.slice (some ⟨BN+1,0,none⟩) 2 2),itemC 114) :: _) _:=h12;have h14:=h13.snoc rowsOf (zs.zip (highL.take 2)) ((.slice (some ⟨BN,0,none⟩) 1 1,.slice (some ⟨BN+1,0,none⟩) 2 2),itemC 114)
          have e:(zs++ [(Value.slice (some ⟨BN,0,none⟩) 1 1,Value.slice (some ⟨BN+1,0,none⟩) 2 2)]).zip (highL.take 3)=zs.zip (highL.take 2)++ [((Value.slice (some ⟨BN,0,none⟩) 1 1,Value.slice (some ⟨BN+1,0,none⟩) 2 2),itemC 114)]:=by
           rw [show highL.take 3=highL.take 2++ [itemC 114] from rfl,List.zip_append (by rw [HZL.out];rfl)];rfl
          refine⟨3,.slice a7 3 c7,zs++ [(.slice (some ⟨BN,0,none⟩) 1 1,.slice (some ⟨BN+1,0,none⟩) 2 2)],by omega,by rw [List.length_append,HZL.out];rfl,rfl,HST7.out.setCell _ _,?_⟩;rw [e,List.flatMap_append]
          exact h14.to (M:= [Pr.pts IB (imgC 2 (.slice (some ⟨CB,0,none⟩) 3 3) (.slice none 0 0) (.slice none 0 0)),Pr.pts CB (.cells #[.int .i64 1,.int .i64 1,.int .i64 1] 3),Pr.pts PA (pageC 1 0 (.slice ao 4 co) (.slice none 0 0) 0),Pr.pts PB (pageC 1 0 (.slice a7 3 c7) (.slice none 0 0) 0),ItRow (.slice ao 4 co) ys lowL,big rowsOf (ys.zip lowL),Row 89 4 (.slice a7 3 c7) 3 ((zs.zip (highL.take 2)).flatMap itCells++ [.slice (some ⟨BN,0,none⟩) 1 1,.slice (some ⟨BN+1,0,none⟩) 2 2,.int .i64 0,.int .i64 2]),big rowsOf (zs.zip (highL.take 2)++ [((.slice (some ⟨BN,0,none⟩) 1 1,.slice (some ⟨BN+1,0,none⟩) 2 2),itemC 114)]),Pr.own hg,F])
         case measure=>simp [intOf]
       · cases List.mem_singleton.1 hsx
         have hs1:=(HS.out.alloc (.cells #[.int .u8 114,.int .u8 114] 5)).alloc (.cells #[.int .u8 114] 5);rw [show (wr.alloc (.cells #[.int .u8 114,.int .u8 114] 5)).heap.size=wr.heap.size+1 by simp] at hs1;have st1:=(HST.out.alloc (.cells #[.int .u8 114,.int .u8 114] 5)).alloc (.cells #[.int .u8 114] 5);have HS1:=hQ hs1;have HST1:=hQ st1;clear hs1 st1;refine wpRest_act rfl ?_;go_wp2
         refine onN_mk ?_;refine wpQ_nil ⟨?_,?_⟩
         · exact cQ
         refine wpRest_act rfl ?_;go_wp2;refine onN_mk ?_;refine wpQ_all _ rfl rfl ?_;simp only [pick,pQ];iterate 1 (go_big_quiet_step (fail))
         refine wpQuiet_nil ⟨?_,?_⟩
         · exact cQ
         refine wpRest_act rfl ?_;have hs1:=HS1.out;have st1:=HST1.out;clear HS1 HST1 c1;generalize (wr.alloc (.cells #[.int .u8 114,.int .u8 114] 5)).alloc (.cells #[.int .u8 114] 5)=w2 at*;generalize wr.heap.size=BN at*;have c1:=hs1.facts;simp only [CellsAt,Nat.reduceAdd,and_true] at c1
         have hs2:=(hs1.alloc (.cells #[.slice (some ⟨BN+1,0,none⟩) 1 1,.slice (some ⟨BN,0,none⟩) 2 2,.int .i64 0,.int .i64 2] 89)).drew;have H1:=hQ (hs2.pull1 (A1:=Row 89 4 (.slice bo 2 do') 2 ((zs.zip (highL.take 2)).flatMap itCells)));have HC:=hQ (new_cells w2 [.slice (some ⟨BN+1,0,none⟩) 1 1,.slice (some ⟨BN,0,none⟩) 2 2,.int .i64 0,.int .i64 2] 89 w2.heap.size rfl)
         have HST2:=hQ (st1.alloc (.cells #[.slice (some ⟨BN+1,0,none⟩) 1 1,.slice (some ⟨BN,0,none⟩) 2 2,.int .i64 0,.int .i64 2] 89)).drew;clear hs1 hs2 st1;go_wp2;refine onN_mk ?_;refine wpQ_nil ⟨?_,?_⟩
         · exact cQ
         refine wpRest_act rfl ?_;refine wpList_append_slK rfl _ _ _ rfl 89 i0 _ 4 64 Tryz.underlying81 hi0 hz0 hz1 hz2 rfl _ _ _ rfl H1.out ⟨w2.heap.size,0,none⟩ 1 1 _ rfl rfl HC.out (by simp [Value.oneCell']) (by simp only [maxLen];omega) (by omega) (fun v7 w7 hs7 hg7 K0 hK0=> ?_);obtain⟨a7,c7,e7,_,_⟩:=Row.read hs7;subst e7;clear c1;have hs8:=OwnL.of1 hs7;have c1:=hs8.facts
         simp only [CellsAt,Nat.reduceAdd,and_true] at c1;have HS8:=hQ hs8;have HST7:=hQ (HST2.out.of_grown hg7);clear hs7 hs8 hg7 H1 HC HST2;go_simp;refine hK0 _ ?_;clear hK0 K0;refine wpList_nil ?_;refine onN_mk ?_;refine wpQ_all _ rfl rfl ?_;simp only [pick,pQ];iterate 1 (go_big_quiet_step (fail))
         refine wpQuiet_nil ⟨?_,?_⟩
         · exact cQ
         refine wpRest_act rfl ?_;go_wp2;refine onN_mk ?_;refine wpQ_nil ⟨?_,?_⟩
         · exact chk_nil
         refine wpRest_nil ?_;go_wp2;go_roundw
         case rel=>
          have h9:=HS8.out.set PB 2 (.slice a7 3 c7);have h10:=(h9.turn (Pr.pts (BN+1) (.cells #[.int .u8 114] 5)) (BytesRow (.slice (some ⟨BN+1,0,none⟩) 1 1) [114]) (row_of_pts rfl (by simp [maxLen]))).turn (Pr.pts (BN) (.cells #[.int .u8 114,.int .u8 114] 5)) (BytesRow (.slice (some ⟨BN,0,none⟩) 2 2) [114,114]) (row_of_pts rfl (by simp [maxLen]))
          have h12:=h10.join2 (BytesRow (.slice (some ⟨BN+1,0,none⟩) 1 1) [114]) (BytesRow (.slice (some ⟨BN,0,none⟩) 2 2) [114,114]);have h13:OwnL (rowsOf ((.slice (some ⟨BN+1,0,none⟩) 1 1,.slice (some ⟨BN,0,none⟩) 2 2),itemC 114) :: _) _:=h12;have h14:=h13.snoc rowsOf (zs.zip (highL.take 2)) ((.slice (some ⟨BN+1,0,none⟩) 1 1,.slice (some ⟨BN,0,none⟩) 2 2),itemC 114)
          have e:(zs++ [(Value.slice (some ⟨BN+1,0,none⟩) 1 1,Value.slice (some ⟨BN,0,none⟩) 2 2)]).zip (highL.take 3)=zs.zip (highL.take 2)++ [((Value.slice (some ⟨BN+1,0,none⟩) 1 1,Value.slice (some ⟨BN,0,none⟩) 2 2),itemC 114)]:=by
           rw [show highL.take 3=highL.take 2++ [itemC 114] from rfl,List.zip_append (by rw [HZL.out];rfl)];rfl
          refine⟨3,.slice a7 3 c7,zs++ [(.slice (some ⟨BN+1,0,none⟩) 1 1,.slice (some ⟨BN,0,none⟩) 2 2)],by omega,by rw [List.length_append,HZL.out];rfl,rfl,HST7.out.setCell _ _,?_⟩;rw [e,List.flatMap_append]
          exact h14.to (M:= [Pr.pts IB (imgC 2 (.slice (some ⟨CB,0,none⟩) 3 3) (.slice none 0 0) (.slice none 0 0)),Pr.pts CB (.cells #[.int .i64 1,.int .i64 1,.int .i64 1] 3),Pr.pts PA (pageC 1 0 (.slice ao 4 co) (.slice none 0 0) 0),Pr.pts PB (pageC 1 0 (.slice a7 3 c7) (.slice none 0 0) 0),ItRow (.slice ao 4 co) ys lowL,big rowsOf (ys.zip lowL),Row 89 4 (.slice a7 3 c7) 3 ((zs.zip (highL.take 2)).flatMap itCells++ [.slice (some ⟨BN+1,0,none⟩) 1 1,.slice (some ⟨BN,0,none⟩) 2 2,.int .i64 0,.int .i64 2]),big rowsOf (zs.zip (highL.take 2)++ [((.slice (some ⟨BN+1,0,none⟩) 1 1,.slice (some ⟨BN,0,none⟩) 2 2),itemC 114)]),Pr.own hg,F])
         case measure=>simp [intOf]
     · go_wp2_with fail
       refine wp_region_forked (sz:=155) (by kernel_rfl) [0,1,2,3,4,6,7,8,9,10,11] [(5,[],[0,1,2,3,6,7,8,9,10,11],[(12,[13],[0,1,2,3,6,7,9,10]),(14,[],[0,1,2,3,6,7,9,10]),(15,[16],[0,2,3,6,7,9,10]),(17,[],[])]),(12,[],[0,1,2,3,4,6,7,9,10],[(5,[13],[0,1,2,3,6,7,9,10]),(14,[],[0,1,2,3,6,7,9,10]),(15,[16],[0,2,3,6,7,9,10]),(17,[],[])])] rfl (by kernel_rfl) (by kernel_rfl) (by kernel_rfl) ?_
       refine wpQ_all _ rfl rfl ?_;simp only [pick,pQ];iterate 11 (go_big_quiet_step (fail))
       refine wpQuiet_nil ?_;rw [show (((ByteArray.mk #[109,112,114,116,118])[3]'(by decide)).toNat:Int)=116 from rfl];intro sx hsx;rcases List.mem_cons.1 hsx with rfl | hsx
       · have hs1:=(HS.out.alloc (.cells #[.int .u8 116] 5)).alloc (.cells #[.int .u8 116,.int .u8 116] 5)
         rw [show (wr.alloc (.cells #[.int .u8 116] 5)).heap.size=wr.heap.size+1 by simp] at hs1;have st1:=(HST.out.alloc (.cells #[.int .u8 116] 5)).alloc (.cells #[.int .u8 116,.int .u8 116] 5);have HS1:=hQ hs1;have HST1:=hQ st1;clear hs1 st1;refine wpRest_act rfl ?_;go_wp2;refine onN_mk ?_;refine wpQ_nil ⟨?_,?_⟩
         · exact cQ
         refine wpRest_act rfl ?_;go_wp2;refine onN_mk ?_;refine wpQ_all _ rfl rfl ?_;simp only [pick,pQ];iterate 1 (go_big_quiet_step (fail))
         refine wpQuiet_nil ⟨?_,?_⟩
         · exact cQ
         refine wpRest_act rfl ?_;have hs1:=HS1.out;have st1:=HST1.out;clear HS1 HST1 c1;generalize (wr.alloc (.cells #[.int .u8 116] 5)).alloc (.cells #[.int .u8 116,.int .u8 116] 5)=w2 at*;generalize wr.heap.size=BN at*;have c1:=hs1.facts;simp only [CellsAt,Nat.reduceAdd,and_true] at c1
         have hs2:=(hs1.alloc (.cells #[.slice (some ⟨BN,0,none⟩) 1 1,.slice (some ⟨BN+1,0,none⟩) 2 2,.int .i64 0,.int .i64 2] 89)).drew;have H1:=hQ (hs2.pull1 (A1:=Row 89 4 (.slice bo 3 do') 3 ((zs.zip (highL.take 3)).flatMap itCells)));have HC:=hQ (new_cells w2 [.slice (some ⟨BN,0,none⟩) 1 1,.slice (some ⟨BN+1,0,none⟩) 2 2,.int .i64 0,.int .i64 2] 89 w2.heap.size rfl)
         have HST2:=hQ (st1.alloc (.cells #[.slice (some ⟨BN,0,none⟩) 1 1,.slice (some ⟨BN+1,0,none⟩) 2 2,.int .i64 0,.int .i64 2] 89)).drew;clear hs1 hs2 st1;go_wp2;refine onN_mk ?_;refine wpQ_nil ⟨?_,?_⟩
         · exact cQ
         refine wpRest_act rfl ?_;refine wpList_append_slK rfl _ _ _ rfl 89 i0 _ 4 64 Tryz.underlying81 hi0 hz0 hz1 hz2 rfl _ _ _ rfl H1.out ⟨w2.heap.size,0,none⟩ 1 1 _ rfl rfl HC.out (by simp [Value.oneCell']) (by simp only [maxLen];omega) (by omega) (fun v7 w7 hs7 hg7 K0 hK0=> ?_);obtain⟨a7,c7,e7,_,_⟩:=Row.read hs7;subst e7;clear c1;have hs8:=OwnL.of1 hs7;have c1:=hs8.facts
         simp only [CellsAt,Nat.reduceAdd,and_true] at c1;have HS8:=hQ hs8;have HST7:=hQ (HST2.out.of_grown hg7);clear hs7 hs8 hg7 H1 HC HST2;go_simp;refine hK0 _ ?_;clear hK0 K0;refine wpList_nil ?_;refine onN_mk ?_;refine wpQ_all _ rfl rfl ?_;simp only [pick,pQ];iterate 1 (go_big_quiet_step (fail))
         refine wpQuiet_nil ⟨?_,?_⟩
         · exact cQ
         refine wpRest_act rfl ?_;go_wp2;refine onN_mk ?_;refine wpQ_nil ⟨?_,?_⟩
         · exact chk_nil
         refine wpRest_nil ?_;go_wp2;go_roundw
         case rel=>
          have h9:=HS8.out.set PB 2 (.slice a7 4 c7);have h10:=(h9.turn (Pr.pts (BN) (.cells #[.int .u8 116] 5)) (BytesRow (.slice (some ⟨BN,0,none⟩) 1 1) [116]) (row_of_pts rfl (by simp [maxLen]))).turn (Pr.pts (BN+1) (.cells #[.int .u8 116,.int .u8 116] 5)) (BytesRow (.slice (some ⟨BN+1,0,none⟩) 2 2) [116,116]) (row_of_pts rfl (by simp [maxLen]))
          have h12:=h10.join2 (BytesRow (.slice (some ⟨BN,0,none⟩) 1 1) [116]) (BytesRow (.slice (some ⟨BN+1,0,none⟩) 2 2) [116,116]);have h13:OwnL (rowsOf ((.slice (some ⟨BN,0,none⟩) 1 1,.slice (some ⟨BN+1,0,none⟩) 2 2),itemC 116) :: _) _:=h12;have h14:=h13.snoc rowsOf (zs.zip (highL.take 3)) ((.slice (some ⟨BN,0,none⟩) 1 1,.slice (some ⟨BN+1,0,none⟩) 2 2),itemC 116)
          have e:(zs++ [(Value.slice (some ⟨BN,0,none⟩) 1 1,Value.slice (some ⟨BN+1,0,none⟩) 2 2)]).zip (highL.take 4)=zs.zip (highL.take 3)++ [((Value.slice (some ⟨BN,0,none⟩) 1 1,Value.slice (some ⟨BN+1,0,none⟩) 2 2),itemC 116)]:=by
           rw [show highL.take 4=highL.take 3++ [itemC 116] from rfl,List.zip_append (by rw [HZL.out];rfl)];rfl
          refine⟨4,.slice a7 4 c7,zs++ [(.slice (some ⟨BN,0,none⟩) 1 1,.slice (some ⟨BN+1,0,none⟩) 2 2)],by omega,by rw [List.length_append,HZL.out];rfl,rfl,HST7.out.setCell _ _,?_⟩;rw [e,List.flatMap_append]
          exact h14.to (M:= [Pr.pts IB (imgC 2 (.slice (some ⟨CB,0,none⟩) 3 3) (.slice none 0 0) (.slice none 0 0)),Pr.pts CB (.cells #[.int .i64 1,.int .i64 1,.int .i64 1] 3),Pr.pts PA (pageC 1 0 (.slice ao 4 co) (.slice none 0 0) 0),Pr.pts PB (pageC 1 0 (.slice a7 4 c7) (.slice none 0 0) 0),ItRow (.slice ao 4 co) ys lowL,big rowsOf (ys.zip lowL),Row 89 4 (.slice a7 4 c7) 4 ((zs.zip (highL.take 3)).flatMap itCells++ [.slice (some ⟨BN,0,none⟩) 1 1,.slice (some ⟨BN+1,0,none⟩) 2 2,.int .i64 0,.int .i64 2]),big rowsOf (zs.zip (highL.take 3)++ [((.slice (some ⟨BN,0,none⟩) 1 1,.slice (some ⟨BN+1,0,none⟩) 2 2),itemC 116)]),Pr.own hg,F])
         case measure=>simp [intOf]
       · cases List.mem_singleton.1 hsx
         have hs1:=(HS.out.alloc (.cells #[.int .u8 116,.int .u8 116] 5)).alloc (.cells #[.int .u8 116] 5);rw [show (wr.alloc (.cells #[.int .u8 116,.int .u8 116] 5)).heap.size=wr.heap.size+1 by simp] at hs1;have st1:=(HST.out.alloc (.cells #[.int .u8 116,.int .u8 116] 5)).alloc (.cells #[.int .u8 116] 5);have HS1:=hQ hs1;have HST1:=hQ st1;clear hs1 st1;refine wpRest_act rfl ?_;go_wp2
         refine onN_mk ?_;refine wpQ_nil ⟨?_,?_⟩
         · exact cQ
         refine wpRest_act rfl ?_;go_wp2;refine onN_mk ?_;refine wpQ_all _ rfl rfl ?_;simp only [pick,pQ];iterate 1 (go_big_quiet_step (fail))
         refine wpQuiet_nil ⟨?_,?_⟩
         · exact cQ
         refine wpRest_act rfl ?_;have hs1:=HS1.out;have st1:=HST1.out;clear HS1 HST1 c1;generalize (wr.alloc (.cells #[.int .u8 116,.int .u8 116] 5)).alloc (.cells #[.int .u8 116] 5)=w2 at*;generalize wr.heap.size=BN at*;have c1:=hs1.facts;simp only [CellsAt,Nat.reduceAdd,and_true] at c1
         have hs2:=(hs1.alloc (.cells #[.slice (some ⟨BN+1,0,none⟩) 1 1,.slice (some ⟨BN,0,none⟩) 2 2,.int .i64 0,.int .i64 2] 89)).drew;have H1:=hQ (hs2.pull1 (A1:=Row 89 4 (.slice bo 3 do') 3 ((zs.zip (highL.take 3)).flatMap itCells)));have HC:=hQ (new_cells w2 [.slice (some ⟨BN+1,0,none⟩) 1 1,.slice (some ⟨BN,0,none⟩) 2 2,.int .i64 0,.int .i64 2] 89 w2.heap.size rfl)
         have HST2:=hQ (st1.alloc (.cells #[.slice (some ⟨BN+1,0,none⟩) 1 1,.slice (some ⟨BN,0,none⟩) 2 2,.int .i64 0,.int .i64 2] 89)).drew;clear hs1 hs2 st1;go_wp2;refine onN_mk ?_;refine wpQ_nil ⟨?_,?_⟩
         · exact cQ
         refine wpRest_act rfl ?_;refine wpList_append_slK rfl _ _ _ rfl 89 i0 _ 4 64 Tryz.underlying81 hi0 hz0 hz1 hz2 rfl _ _ _ rfl H1.out ⟨w2.heap.size,0,none⟩ 1 1 _ rfl rfl HC.out (by simp [Value.oneCell']) (by simp only [maxLen];omega) (by omega) (fun v7 w7 hs7 hg7 K0 hK0=> ?_);obtain⟨a7,c7,e7,_,_⟩:=Row.read hs7;subst e7;clear c1;have hs8:=OwnL.of1 hs7;have c1:=hs8.facts
         simp only [CellsAt,Nat.reduceAdd,and_true] at c1;have HS8:=hQ hs8;have HST7:=hQ (HST2.out.of_grown hg7);clear hs7 hs8 hg7 H1 HC HST2;go_simp;refine hK0 _ ?_;clear hK0 K0;refine wpList_nil ?_;refine onN_mk ?_;refine wpQ_all _ rfl rfl ?_;simp only [pick,pQ];iterate 1 (go_big_quiet_step (fail))
         refine wpQuiet_nil ⟨?_,?_⟩
         · exact cQ
         refine wpRest_act rfl ?_;go_wp2;refine onN_mk ?_;refine wpQ_nil ⟨?_,?_⟩
         · exact chk_nil
         refine wpRest_nil ?_;go_wp2;go_roundw
         case rel=>
          have h9:=HS8.out.set PB 2 (.slice a7 4 c7);have h10:=(h9.turn (Pr.pts (BN+1) (.cells #[.int .u8 116] 5)) (BytesRow (.slice (some ⟨BN+1,0,none⟩) 1 1) [116]) (row_of_pts rfl (by simp [maxLen]))).turn (Pr.pts (BN) (.cells #[.int .u8 116,.int .u8 116] 5)) (BytesRow (.slice (some ⟨BN,0,none⟩) 2 2) [116,116]) (row_of_pts rfl (by simp [maxLen]))
          have h12:=h10.join2 (BytesRow (.slice (some ⟨BN+1,0,none⟩) 1 1) [116]) (BytesRow (.slice (some ⟨BN,0,none⟩) 2 2) [116,116]);have h13:OwnL (rowsOf ((.slice (some ⟨BN+1,0,none⟩) 1 1,.slice (some ⟨BN,0,none⟩) 2 2),itemC 116) :: _) _:=h12;have h14:=h13.snoc rowsOf (zs.zip (highL.take 3)) ((.slice (some ⟨BN+1,0,none⟩) 1 1,.slice (some ⟨BN,0,none⟩) 2 2),itemC 116)
          have e:(zs++ [(Value.slice (some ⟨BN+1,0,none⟩) 1 1,Value.slice (some ⟨BN,0,none⟩) 2 2)]).zip (highL.take 4)=zs.zip (highL.take 3)++ [((Value.slice (some ⟨BN+1,0,none⟩) 1 1,Value.slice (some ⟨BN,0,none⟩) 2 2),itemC 116)]:=by
           rw [show highL.take 4=highL.take 3++ [itemC 116] from rfl,List.zip_append (by rw [HZL.out];rfl)];rfl
          refine⟨4,.slice a7 4 c7,zs++ [(.slice (some ⟨BN+1,0,none⟩) 1 1,.slice (some ⟨BN,0,none⟩) 2 2)],by omega,by rw [List.length_append,HZL.out];rfl,rfl,HST7.out.setCell _ _,?_⟩;rw [e,List.flatMap_append]
          exact h14.to (M:= [Pr.pts IB (imgC 2 (.slice (some ⟨CB,0,none⟩) 3 3) (.slice none 0 0) (.slice none 0 0)),Pr.pts CB (.cells #[.int .i64 1,.int .i64 1,.int .i64 1] 3),Pr.pts PA (pageC 1 0 (.slice ao 4 co) (.slice none 0 0) 0),Pr.pts PB (pageC 1 0 (.slice a7 4 c7) (.slice none 0 0) 0),ItRow (.slice ao 4 co) ys lowL,big rowsOf (ys.zip lowL),Row 89 4 (.slice a7 4 c7) 4 ((zs.zip (highL.take 3)).flatMap itCells++ [.slice (some ⟨BN+1,0,none⟩) 1 1,.slice (some ⟨BN,0,none⟩) 2 2,.int .i64 0,.int .i64 2]),big rowsOf (zs.zip (highL.take 3)++ [((.slice (some ⟨BN+1,0,none⟩) 1 1,.slice (some ⟨BN,0,none⟩) 2 2),itemC 116)]),Pr.own hg,F])
         case measure=>simp [intOf]
     · go_wp2_with fail
       refine wp_region_forked (sz:=155) (by kernel_rfl) [0,1,2,3,4,6,7,8,9,10,11] [(5,[],[0,1,2,3,6,7,8,9,10,11],[(12,[13],[0,1,2,3,6,7,9,10]),(14,[],[0,1,2,3,6,7,9,10]),(15,[16],[0,2,3,6,7,9,10]),(17,[],[])]),(12,[],[0,1,2,3,4,6,7,9,10],[(5,[13],[0,1,2,3,6,7,9,10]),(14,[],[0,1,2,3,6,7,9,10]),(15,[16],[0,2,3,6,7,9,10]),(17,[],[])])] rfl (by kernel_rfl) (by kernel_rfl) (by kernel_rfl) ?_
       refine wpQ_all _ rfl rfl ?_;simp only [pick,pQ];iterate 11 (go_big_quiet_step (fail))
       refine wpQuiet_nil ?_;rw [show (((ByteArray.mk #[109,112,114,116,118])[4]'(by decide)).toNat:Int)=118 from rfl];intro sx hsx;rcases List.mem_cons.1 hsx with rfl | hsx
       · have hs1:=(HS.out.alloc (.cells #[.int .u8 118] 5)).alloc (.cells #[.int .u8 118,.int .u8 118] 5)
         rw [show (wr.alloc (.cells #[.int .u8 118] 5)).heap.size=wr.heap.size+1 by simp] at hs1;have st1:=(HST.out.alloc (.cells #[.int .u8 118] 5)).alloc (.cells #[.int .u8 118,.int .u8 118] 5);have HS1:=hQ hs1;have HST1:=hQ st1;clear hs1 st1;refine wpRest_act rfl ?_;go_wp2;refine onN_mk ?_;refine wpQ_nil ⟨?_,?_⟩
         · exact cQ
         refine wpRest_act rfl ?_;go_wp2;refine onN_mk ?_;refine wpQ_all _ rfl rfl ?_;simp only [pick,pQ];iterate 1 (go_big_quiet_step (fail))
         refine wpQuiet_nil ⟨?_,?_⟩
         · exact cQ
         refine wpRest_act rfl ?_;have hs1:=HS1.out;have st1:=HST1.out;clear HS1 HST1 c1;generalize (wr.alloc (.cells #[.int .u8 118] 5)).alloc (.cells #[.int .u8 118,.int .u8 118] 5)=w2 at*;generalize wr.heap.size=BN at*;have c1:=hs1.facts;simp only [CellsAt,Nat.reduceAdd,and_true] at c1
         have hs2:=(hs1.alloc (.cells #[.slice (some ⟨BN,0,none⟩) 1 1,.slice (some ⟨BN+1,0,none⟩) 2 2,.int .i64 0,.int .i64 2] 89)).drew;have H1:=hQ (hs2.pull1 (A1:=Row 89 4 (.slice bo 4 do') 4 ((zs.zip (highL.take 4)).flatMap itCells)));have HC:=hQ (new_cells w2 [.slice (some ⟨BN,0,none⟩) 1 1,.slice (some ⟨BN+1,0,none⟩) 2 2,.int .i64 0,.int .i64 2] 89 w2.heap.size rfl)
         have HST2:=hQ (st1.alloc (.cells #[.slice (some ⟨BN,0,none⟩) 1 1,.slice (some ⟨BN+1,0,none⟩) 2 2,.int .i64 0,.int .i64 2] 89)).drew;clear hs1 hs2 st1;go_wp2;refine onN_mk ?_;refine wpQ_nil ⟨?_,?_⟩
         · exact cQ
         refine wpRest_act rfl ?_;refine wpList_append_slK rfl _ _ _ rfl 89 i0 _ 4 64 Tryz.underlying81 hi0 hz0 hz1 hz2 rfl _ _ _ rfl H1.out ⟨w2.heap.size,0,none⟩ 1 1 _ rfl rfl HC.out (by simp [Value.oneCell']) (by simp only [maxLen];omega) (by omega) (fun v7 w7 hs7 hg7 K0 hK0=> ?_);obtain⟨a7,c7,e7,_,_⟩:=Row.read hs7;subst e7;clear c1;have hs8:=OwnL.of1 hs7;have c1:=hs8.facts
         simp only [CellsAt,Nat.reduceAdd,and_true] at c1;have HS8:=hQ hs8;have HST7:=hQ (HST2.out.of_grown hg7);clear hs7 hs8 hg7 H1 HC HST2;go_simp;refine hK0 _ ?_;clear hK0 K0;refine wpList_nil ?_;refine onN_mk ?_;refine wpQ_all _ rfl rfl ?_;simp only [pick,pQ];iterate 1 (go_big_quiet_step (fail))
         refine wpQuiet_nil ⟨?_,?_⟩
         · exact cQ
         refine wpRest_act rfl ?_;go_wp2;refine onN_mk ?_;refine wpQ_nil ⟨?_,?_⟩
         · exact chk_nil
         refine wpRest_nil ?_;go_wp2;go_roundw
         case rel=>
          have h9:=HS8.out.set PB 2 (.slice a7 5 c7);have h10:=(h9.turn (Pr.pts (BN) (.cells #[.int .u8 118] 5)) (BytesRow (.slice (some ⟨BN,0,none⟩) 1 1) [118]) (row_of_pts rfl (by simp [maxLen]))).turn (Pr.pts (BN+1) (.cells #[.int .u8 118,.int .u8 118] 5)) (BytesRow (.slice (some ⟨BN+1,0,none⟩) 2 2) [118,118]) (row_of_pts rfl (by simp [maxLen]))
          have h12:=h10.join2 (BytesRow (.slice (some ⟨BN,0,none⟩) 1 1) [118]) (BytesRow (.slice (some ⟨BN+1,0,none⟩) 2 2) [118,118]);have h13:OwnL (rowsOf ((.slice (some ⟨BN,0,none⟩) 1 1,.slice (some ⟨BN+1,0,none⟩) 2 2),itemC 118) :: _) _:=h12;have h14:=h13.snoc rowsOf (zs.zip (highL.take 4)) ((.slice (some ⟨BN,0,none⟩) 1 1,.slice (some ⟨BN+1,0,none⟩) 2 2),itemC 118)
          have e:(zs++ [(Value.slice (some ⟨BN,0,none⟩) 1 1,Value.slice (some ⟨BN+1,0,none⟩) 2 2)]).zip (highL.take 5)=zs.zip (highL.take 4)++ [((Value.slice (some ⟨BN,0,none⟩) 1 1,Value.slice (some ⟨BN+1,0,none⟩) 2 2),itemC 118)]:=by
           rw [show highL.take 5=highL.take 4++ [itemC 118] from rfl,List.zip_append (by rw [HZL.out];rfl)];rfl
          refine⟨5,.slice a7 5 c7,zs++ [(.slice (some ⟨BN,0,none⟩) 1 1,.slice (some ⟨BN+1,0,none⟩) 2 2)],by omega,by rw [List.length_append,HZL.out];rfl,rfl,HST7.out.setCell _ _,?_⟩;rw [e,List.flatMap_append]
          exact h14.to (M:= [Pr.pts IB (imgC 2 (.slice (some ⟨CB,0,none⟩) 3 3) (.slice none 0 0) (.slice none 0 0)),Pr.pts CB (.cells #[.int .i64 1,.int .i64 1,.int .i64 1] 3),Pr.pts PA (pageC 1 0 (.slice ao 4 co) (.slice none 0 0) 0),Pr.pts PB (pageC 1 0 (.slice a7 5 c7) (.slice none 0 0) 0),ItRow (.slice ao 4 co) ys lowL,big rowsOf (ys.zip lowL),Row 89 4 (.slice a7 5 c7) 5 ((zs.zip (highL.take 4)).flatMap itCells++ [.slice (some ⟨BN,0,none⟩) 1 1,.slice (some ⟨BN+1,0,none⟩) 2 2,.int .i64 0,.int .i64 2]),big rowsOf (zs.zip (highL.take 4)++ [((.slice (some ⟨BN,0,none⟩) 1 1,.slice (some ⟨BN+1,0,none⟩) 2 2),itemC 118)]),Pr.own hg,F])
         case measure=>simp [intOf]
       · cases List.mem_singleton.1 hsx
         have hs1:=(HS.out.alloc (.cells #[.int .u8 118,.int .u8 118] 5)).alloc (.cells #[.int .u8 118] 5);rw [show (wr.alloc (.cells #[.int .u8 118,.int .u8 118] 5)).heap.size=wr.heap.size+1 by simp] at hs1;have st1:=(HST.out.alloc (.cells #[.int .u8 118,.int .u8 118] 5)).alloc (.cells #[.int .u8 118] 5);have HS1:=hQ hs1;have HST1:=hQ st1;clear hs1 st1;refine wpRest_act rfl ?_;go_wp2
         refine onN_mk ?_;refine wpQ_nil ⟨?_,?_⟩
         · exact cQ
         refine wpRest_act rfl ?_;go_wp2;refine onN_mk ?_;refine wpQ_all _ rfl rfl ?_;simp only [pick,pQ];iterate 1 (go_big_quiet_step (fail))
         refine wpQuiet_nil ⟨?_,?_⟩
         · exact cQ
         refine wpRest_act rfl ?_;have hs1:=HS1.out;have st1:=HST1.out;clear HS1 HST1 c1;generalize (wr.alloc (.cells #[.int .u8 118,.int .u8 118] 5)).alloc (.cells #[.int .u8 118] 5)=w2 at*;generalize wr.heap.size=BN at*;have c1:=hs1.facts;simp only [CellsAt,Nat.reduceAdd,and_true] at c1
         have hs2:=(hs1.alloc (.cells #[.slice (some ⟨BN+1,0,none⟩) 1 1,.slice (some ⟨BN,0,none⟩) 2 2,.int .i64 0,.int .i64 2] 89)).drew;have H1:=hQ (hs2.pull1 (A1:=Row 89 4 (.slice bo 4 do') 4 ((zs.zip (highL.take 4)).flatMap itCells)));have HC:=hQ (new_cells w2 [.slice (some ⟨BN+1,0,none⟩) 1 1,.slice (some ⟨BN,0,none⟩) 2 2,.int .i64 0,.int .i64 2] 89 w2.heap.size rfl)
         have HST2:=hQ (st1.alloc (.cells #[.slice (some ⟨BN+1,0,none⟩) 1 1,.slice (some ⟨BN,0,none⟩) 2 2,.int .i64 0,.int .i64 2] 89)).drew;clear hs1 hs2 st1;go_wp2;refine onN_mk ?_;refine wpQ_nil ⟨?_,?_⟩
         · exact cQ
         refine wpRest_act rfl ?_;refine wpList_append_slK rfl _ _ _ rfl 89 i0 _ 4 64 Tryz.underlying81 hi0 hz0 hz1 hz2 rfl _ _ _ rfl H1.out ⟨w2.heap.size,0,none⟩ 1 1 _ rfl rfl HC.out (by simp [Value.oneCell']) (by simp only [maxLen];omega) (by omega) (fun v7 w7 hs7 hg7 K0 hK0=> ?_);obtain⟨a7,c7,e7,_,_⟩:=Row.read hs7;subst e7;clear c1;have hs8:=OwnL.of1 hs7;have c1:=hs8.facts
         simp only [CellsAt,Nat.reduceAdd,and_true] at c1;have HS8:=hQ hs8;have HST7:=hQ (HST2.out.of_grown hg7);clear hs7 hs8 hg7 H1 HC HST2;go_simp;refine hK0 _ ?_;clear hK0 K0;refine wpList_nil ?_;refine onN_mk ?_;refine wpQ_all _ rfl rfl ?_;simp only [pick,pQ];iterate 1 (go_big_quiet_step (fail))
         refine wpQuiet_nil ⟨?_,?_⟩
         · exact cQ
         refine wpRest_act rfl ?_;go_wp2;refine onN_mk ?_;refine wpQ_nil ⟨?_,?_⟩
         · exact chk_nil
         refine wpRest_nil ?_;go_wp2;go_roundw
         case rel=>
          have h9:=HS8.out.set PB 2 (.slice a7 5 c7);have h10:=(h9.turn (Pr.pts (BN+1) (.cells #[.int .u8 118] 5)) (BytesRow (.slice (some ⟨BN+1,0,none⟩) 1 1) [118]) (row_of_pts rfl (by simp [maxLen]))).turn (Pr.pts (BN) (.cells #[.int .u8 118,.int .u8 118] 5)) (BytesRow (.slice (some ⟨BN,0,none⟩) 2 2) [118,118]) (row_of_pts rfl (by simp [maxLen]))
          have h12:=h10.join2 (BytesRow (.slice (some ⟨BN+1,0,none⟩) 1 1) [118]) (BytesRow (.slice (some ⟨BN,0,none⟩) 2 2) [118,118]);have h13:OwnL (rowsOf ((.slice (some ⟨BN+1,0,none⟩) 1 1,.slice (some ⟨BN,0,none⟩) 2 2),itemC 118) :: _) _:=h12;have h14:=h13.snoc rowsOf (zs.zip (highL.take 4)) ((.slice (some ⟨BN+1,0,none⟩) 1 1,.slice (some ⟨BN,0,none⟩) 2 2),itemC 118)
          have e:(zs++ [(Value.slice (some ⟨BN+1,0,none⟩) 1 1,Value.slice (some ⟨BN,0,none⟩) 2 2)]).zip (highL.take 5)=zs.zip (highL.take 4)++ [((Value.slice (some ⟨BN+1,0,none⟩) 1 1,Value.slice (some ⟨BN,0,none⟩) 2 2),itemC 118)]:=by
           rw [show highL.take 5=highL.take 4++ [itemC 118] from rfl,List.zip_append (by rw [HZL.out];rfl)];rfl
          refine⟨5,.slice a7 5 c7,zs++ [(.slice (some ⟨BN+1,0,none⟩) 1 1,.slice (some ⟨BN,0,none⟩) 2 2)],by omega,by rw [List.length_append,HZL.out];rfl,rfl,HST7.out.setCell _ _,?_⟩;rw [e,List.flatMap_append]
          exact h14.to (M:= [Pr.pts IB (imgC 2 (.slice (some ⟨CB,0,none⟩) 3 3) (.slice none 0 0) (.slice none 0 0)),Pr.pts CB (.cells #[.int .i64 1,.int .i64 1,.int .i64 1] 3),Pr.pts PA (pageC 1 0 (.slice ao 4 co) (.slice none 0 0) 0),Pr.pts PB (pageC 1 0 (.slice a7 5 c7) (.slice none 0 0) 0),ItRow (.slice ao 4 co) ys lowL,big rowsOf (ys.zip lowL),Row 89 4 (.slice a7 5 c7) 5 ((zs.zip (highL.take 4)).flatMap itCells++ [.slice (some ⟨BN+1,0,none⟩) 1 1,.slice (some ⟨BN,0,none⟩) 2 2,.int .i64 0,.int .i64 2]),big rowsOf (zs.zip (highL.take 4)++ [((.slice (some ⟨BN+1,0,none⟩) 1 1,.slice (some ⟨BN,0,none⟩) 2 2),itemC 118)]),Pr.own hg,F])
         case measure=>simp [intOf]
     · have hs1:OwnL [Pr.pts IB (imgC 2 (.slice (some ⟨CB,0,none⟩) 3 3) (.slice none 0 0) (.slice none 0 0)),Pr.pts CB (.cells #[.int .i64 1,.int .i64 1,.int .i64 1] 3),Pr.pts PA (pageC 1 0 (.slice ao 4 co) (.slice none 0 0) 0),Pr.pts PB (pageC 1 0 (.slice bo 5 do') (.slice none 0 0) 0),ItRow (.slice ao 4 co) ys lowL,big rowsOf (ys.zip lowL),ItRow (.slice bo 5 do') zs highL,big rowsOf (zs.zip highL),Pr.own hg,F] wr:=HS.out
       have es:∀(u:World) (o:Obj),(u.alloc o).heap.size=u.heap.size+1:=fun u o=>by simp
       have hcv:=Go.Joins.run_convert_bytes_const_at (P:=Tryz.prog) wr 42 5 #[.int .u8 109] 1 1 wr.heap.size rfl Tryz.underlying42 Tryz.underlying5;have hs2a:=((hs1.alloc (cO 109)).alloc (jO wr.heap.size)).alloc (pageC 2 1 (.slice (some ⟨wr.heap.size+1,0,none⟩) 2 2) (.slice none 0 0) 0);simp only [es] at hs2a;have c2:=hs2a.facts;simp only [CellsAt,Nat.reduceAdd,and_true] at c2
       have hs2:=(((hs1.alloc (cO 109)).alloc (jO wr.heap.size)).alloc (pageC 2 1 (.slice (some ⟨wr.heap.size+1,0,none⟩) 2 2) (.slice none 0 0) 0)).alloc (nO wr.heap.size ao bo co do');simp only [es] at hs2;have c3:=hs2.facts;simp only [CellsAt,Nat.reduceAdd,and_true] at c3;have hs3:=hs2.set IB 2 (.slice (some ⟨wr.heap.size+1+1+1,0,none⟩) 3 3)
       have st3:=((((HST.out.alloc (cO 109)).alloc (jO wr.heap.size)).alloc (pageC 2 1 (.slice (some ⟨wr.heap.size+1,0,none⟩) 2 2) (.slice none 0 0) 0)).alloc (nO wr.heap.size ao bo co do')).setCell ⟨IB,2,none⟩ (.slice (some ⟨wr.heap.size+1+1+1,0,none⟩) 3 3)
       have hs4:=hs3.to (M:= [Pr.pts CB (.cells #[.int .i64 1,.int .i64 1,.int .i64 1] 3),ItRow (.slice ao 4 co) ys lowL,big rowsOf (ys.zip lowL),ItRow (.slice bo 5 do') zs highL,big rowsOf (zs.zip highL),Pr.pts wr.heap.size (cO 109),Pr.pts (wr.heap.size+1) (jO wr.heap.size),Pr.pts (wr.heap.size+1+1+1) (nO wr.heap.size ao bo co do'),Pr.own hg,F])
       obtain⟨h,hh,hs5⟩:=Sat.toOwn (A:=starL [Pr.pts CB (.cells #[.int .i64 1,.int .i64 1,.int .i64 1] 3),ItRow (.slice ao 4 co) ys lowL,big rowsOf (ys.zip lowL),ItRow (.slice bo 5 do') zs highL,big rowsOf (zs.zip highL),Pr.pts wr.heap.size (cO 109),Pr.pts (wr.heap.size+1) (jO wr.heap.size),Pr.pts (wr.heap.size+1+1+1) (nO wr.heap.size ao bo co do')]) (F:=(Pr.own hg).star F) (hs4.sat.perm (by simp only [starL,Pr.star_emp,Pr.star_assoc]))
       obtain⟨hii,hni⟩:=image_in HYL.out HZL.out hh;have LO:=hQ (loaded_any 2 h _ _ none 0 0 [1,1,1] numsP hii hni numsP_u8 (by decide) _ _ hs5);have HST3:=hQ st3;clear HS hs1 hs2 hs2a hs3 hs4 hs5 st3 hh hii hni HST HYL HZL es;go_wp2_with fail
       refine LO.out.mono ?_;rintro e w1 ⟨st1,(⟨hbad,_⟩ | ⟨_,_,v,r,rfl,hs6⟩)⟩
       · rcases hbad with h1 | h1
         · exact absurd numsP_ok h1
         · exact absurd h1 (by decide)
       have HL:L6.Looks (loadV 2 [1,1,1] onP) lookP:=looks_of (right_load numsP_ok);have OKP:PgsOk lookP:=pgs_load numsP_ok numsP_u8;have hs7:OwnL [VaultA v (loadV 2 [1,1,1] onP),RefA r (poolOf 2 [1,1,1] 0) (pgsOf 3 onP) (quietT true),Pr.own h,Pr.own hg,F] w1:=⟨hs6.perm (by simp only [starL,Pr.star_emp];rfl)⟩;generalize loadV 2 [1,1,1] onP=s at*;have HST4:=hQ (HST3.out.trans st1)
       have HLK:=hQ (And.intro HL OKP);have HS7:=hQ (hs7.to (M:= [VaultA v s,Pr.own hg,F]));clear hs6 hs7 st1 LO HST3 c1 c2 c3 hcv HL OKP;have hcv:=Go.Joins.run_convert_bytes_const_at (P:=Tryz.prog) (w1.alloc (treeC 3 2 9)) 42 5 #[.int .u8 112] 1 1 (w1.heap.size+1) (by simp) Tryz.underlying42 Tryz.underlying5;have hs8:=(HS7.out.alloc (treeC 3 2 9)).alloc (cO 112)
       rw [show (w1.alloc (treeC 3 2 9)).heap.size=w1.heap.size+1 by simp] at hs8;obtain⟨hk,hhk,hs9⟩:=hs8.arena (Pr.pts (w1.heap.size+1) (cO 112));have GT:=get_any v s lookP HLK.out.1 HLK.out.2 hk _ [112] (const_in hhk) (by simp [U8]) (by decide) 3 2 9 _ standP _ _ (OwnL.in2 (hs9.pull2 (A1:=VaultA v s) (A2:=Pr.own hk)));rw [getP.1,getP.2.1,getP.2.2] at GT;have HGT:=hQ GT
       have HST5:=hQ ((HST4.out.alloc (treeC 3 2 9)).alloc (cO 112));clear hs8 hs9 hhk GT HST4 HS7;go_wp2_with fail
       refine HGT.out.mono ?_;rintro e w2 ⟨st2,o,rfl,hs10⟩;have hs11:=(hs10.flat).to (M:= [BytesRow o [112,112],Pr.pts w1.heap.size (treeC 3 2 9),VaultA v s,Pr.own hg,F]);obtain⟨go',gc,rfl⟩:=Row.shape (hs11.pull1 (A1:=BytesRow o [112,112]));generalize w1.heap.size=TB at*;have HST6:=hQ (HST5.out.trans st2);have HS11:=hQ hs11;have c1:=hs11.facts;simp only [CellsAt,Nat.reduceAdd,and_true] at c1
       clear hs10 hs11 st2 HGT HST5 hcv;have hcv1:=Go.Joins.run_convert_bytes_const_at (P:=Tryz.prog) w2 42 5 #[.int .u8 101] 1 1 w2.heap.size rfl Tryz.underlying42 Tryz.underlying5;have hcv2:=Go.Joins.run_convert_bytes_const_at (P:=Tryz.prog) (w2.alloc (cO 101)) 42 5 #[.int .u8 112] 1 1 (w2.heap.size+1) (by simp) Tryz.underlying42 Tryz.underlying5
       have hs12:=(HS11.out.alloc (cO 101)).alloc (cO 112);rw [show (w2.alloc (cO 101)).heap.size=w2.heap.size+1 by simp] at hs12;obtain⟨hk2,hhk2,hs13⟩:=(hs12.join2 (Pr.pts w2.heap.size (cO 101)) (Pr.pts (w2.heap.size+1) (cO 112))).arena ((Pr.pts w2.heap.size (cO 101)).star (Pr.pts (w2.heap.size+1) (cO 112)));obtain⟨a1,a2,ha1,ha2,q1,q2⟩:=star_sub hhk2
       have LI:=list_any v s lookP HLK.out.1 HLK.out.2 3 2 9 _ standP (.agg #[.slice (some ⟨w2.heap.size,0,none⟩) 1 1,.slice (some ⟨w2.heap.size+1,0,none⟩) 1 1,.bool false]) rangeP hk2 ⟨_,_,rfl,(const_in ha1).sub q1,(const_in ha2).sub q2⟩ ⟨by simp [U8,rangeP],by simp [U8,rangeP]⟩ ⟨by decide,by decide⟩ _ _ (OwnL.in2 (hs13.pull2 (A1:=VaultA v s) (A2:=Pr.own hk2)));rw [listP] at LI;have HLI:=hQ LI
       have HST7:=hQ ((HST6.out.alloc (cO 101)).alloc (cO 112));clear hs12 hs13 hhk2 ha1 ha2 q1 q2 LI HST6 HS11;go_wp2_with fail
       refine HLI.out.mono ?_;rintro e w3 ⟨st3,lo,ps,rfl,hps,hs14⟩;have hs15:=(hs14.flat).to (M:= [PairRow lo ps,big pairRows ps,BytesRow (.slice go' [112,112].length gc) [112,112],Pr.pts TB (treeC 3 2 9),VaultA v s,Pr.own hg,F]);have hp3:ps.length=3:=by have:=congrArg List.length hps;simpa using this
       obtain⟨⟨⟨k0,v0⟩,q0⟩,⟨⟨k1,v1⟩,q1⟩,⟨⟨k2,v2⟩,q2⟩,rfl⟩:=len_three hp3;simp only [List.map_cons,List.map_nil,List.cons.injEq,and_true] at hps;obtain⟨rfl,rfl,rfl⟩:=hps;obtain⟨la,lc,rfl⟩:=Row.shape (hs15.pull1 (A1:=PairRow lo [((k0,v0),([101],[101,101])),((k1,v1),([103],[103,103])),((k2,v2),([109],[109,109]))]))
       obtain⟨_,_,e,_,hrd⟩:=Row.read (hs15.pull1 (A1:=PairRow (.slice la 3 lc) [((k0,v0),([101],[101,101])),((k1,v1),([103],[103,103])),((k2,v2),([109],[109,109]))]));cases e;obtain⟨lb,rfl,hrd2⟩:=hrd (by simp);have l4:w3.cell? ⟨lb,4,none⟩=some k2:=(hrd2 4 (by simp)).1;have lz:=World.block_lt_of_cell? _ _ l4;simp only at lz
       have hb3:OwnL [BytesRow k2 [109],BytesRow v2 [109,109]] w3:=by
        have h1:=(((hs15.uncons pairRows ((k0,v0),([101],[101,101])) [((k1,v1),([103],[103,103])),((k2,v2),([109],[109,109]))]).lose (pairRows ((k0,v0),([101],[101,101])))).uncons pairRows ((k1,v1),([103],[103,103])) [((k2,v2),([109],[109,109]))]).lose (pairRows ((k1,v1),([103],[103,103])));have h2:=(h1.uncons pairRows ((k2,v2),([109],[109,109])) []).end1 (A1:=pairRows ((k2,v2),([109],[109,109])))
        exact⟨h2.perm (B:=(BytesRow k2 [109]).star ((BytesRow v2 [109,109]).star Pr.emp)) (by rw [Pr.star_emp];rfl)⟩
       obtain⟨ka,kc,rfl⟩:=Row.shape (hb3.pull1 (A1:=BytesRow k2 [109]));have hc1:(convert 42 9 (.slice go' 2 gc)).run Tryz.prog w3= .ok (.string { data:= #[112,112] }) w3:=conv_str (hs15.pull1 (A1:=BytesRow (.slice go' [112,112].length gc) [112,112])) (by simp)
       have hc2:(convert 42 9 (.slice ka 1 kc)).run Tryz.prog w3= .ok (.string { data:= #[109] }) w3:=conv_str (hb3.pull1 (A1:=BytesRow (.slice ka [109].length kc) [109])) (by simp);have HS15:=hQ (hs15.to (M:= [Pr.pts TB (treeC 3 2 9),VaultA v s,Pr.own hg,F]));have CH9:=check_any v s lookP HLK.out.1 HLK.out.2 3 2 9 (by decide) hg GE _ _ (OwnL.in2 (HS15.out.pull2 (A1:=VaultA v s) (A2:=Pr.own hg)))
       rw [checkP_9] at CH9;have HC9:=hQ CH9;have HST8:=hQ (HST7.out.trans st3);clear c1;have c1:=hs15.facts;simp only [CellsAt,Nat.reduceAdd,and_true] at c1;have hpp:({ data:= #[112,112] } == ({ data:= #[112,112] }:ByteArray))=true:=by decide
       clear hs14 hs15 hb3 st3 HLI HST7 hrd hrd2 hp3 CH9 hcv1 hcv2;go_wp2_with fail
       refine HC9.out.mono ?_;rintro e w4 ⟨st4,rfl,hs16⟩;have hs17:=hs16.flat;have CH8:=check_any v s lookP HLK.out.1 HLK.out.2 3 2 8 (by decide) hg GE _ _ (OwnL.in2 (hs17.pull2 (A1:=VaultA v s) (A2:=Pr.own hg)));rw [checkP_8] at CH8;have HC8:=hQ CH8;have HST9:=hQ (HST8.out.trans st4);clear hs16 hs17 st4 HC9 HST8 CH8 c1 hc1 hc2 l4 lz;go_wp2_with fail
       refine HC8.out.mono ?_;rintro e w5 ⟨st5,rfl,hs18⟩;have HE:=hQ (hs18.flat.to (M:= [Pr.own hg,F]));have HST10:=hQ (HST9.out.trans st5);clear hs18 st5 HC8 HST9;go_wp2;go_ret;exact⟨rfl,HST10.out,HE.out⟩
end Go.Proofs.YtiegeadmgpanoaaGreatDoor.E8
