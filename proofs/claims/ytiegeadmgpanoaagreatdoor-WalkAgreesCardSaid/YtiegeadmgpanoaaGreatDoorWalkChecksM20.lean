/- The least key that is not below a row, ranges that are empty; the conditions stand as hypotheses. -/
import Derived.Test.YtiegeadmgpanoaaGreatDoorWalkChecksM10
import Derived.Test.YtiegeadmgpanoaaGreatDoorWalkChecksM17
import Derived.Test.YtiegeadmgpanoaaGreatDoorWalkChecksM02
import Derived.Test.YtiegeadmgpanoaaGreatDoorWalkChecksM09
import Derived.Test.YtiegeadmgpanoaaGreatDoorWalkChecksM16
import Derived.Test.YtiegeadmgpanoaaGreatDoorWalkChecksM03
import Derived.Test.YtiegeadmgpanoaaGreatDoorWalkChecksM05
import Derived.Test.YtiegeadmgpanoaaGreatDoorWalkChecksM11
import Derived.Test.YtiegeadmgpanoaaGreatDoorWalkChecksM01
set_option maxRecDepth 100000
set_option maxHeartbeats 16000000
namespace Go.Cop
theorem stem_cons(x:Int)(l:List Int):∀m,stemN (x :: l) (m+1)=if stemN l m=0 then(if x=255 then 0 else 1) else stemN l m+1
 | 0=>by
   show (if(x :: l).getD 0 0=255 then stemN (x :: l) 0 else 1)=_
   rfl
 | m+1=>by
   have ih:=stem_cons x l m;show (if(x :: l).getD (m+1) 0=255 then stemN (x :: l) (m+1) else m+1+1)=_
   have e:(x :: l).getD (m+1) 0=l.getD m 0:=by simp
   have e2:stemN l (m+1)=if l.getD m 0=255 then stemN l m else m+1:=rfl
   rw [e,e2,ih];by_cases h:l.getD m 0=255
   · rw [if_pos h,if_pos h]
   · rw [if_neg h,if_neg h,if_neg (by omega)]
theorem stem_ne(k:List Int)(m:Nat)(h:stemN k k.length=m+1):k.getD m 0≠255:=by
 have key:∀n,stemN k n=m+1→k.getD m 0≠255:=by
  intro n;induction n with
  | zero=>intro h;cases h
  | succ n ih=>
    intro h;unfold stemN at h;split at h
    · exact ih h
    · rename_i h2
      obtain rfl:n=m:=by omega
      exact h2
 exact key _ h
theorem up_stem:∀k:List Int,upL k=if stemN k k.length=0 then [] else k.take (stemN k k.length-1)++ [k.getD (stemN k k.length-1) 0+1]
 | []=>rfl
 | x :: l=>by
   have ih:=up_stem l;rw [show (x :: l).length=l.length+1 from rfl,stem_cons];unfold upL;by_cases h:stemN l l.length=0
   · rw [if_pos h] at ih
     rw [if_pos h,if_pos ih];by_cases h2:x=255
     · rw [if_pos h2,if_pos h2,if_pos rfl]
     · rw [if_neg h2,if_neg h2,if_neg (by omega)]
       simp
   · rw [if_neg h] at ih
     have hne:upL l≠ []:=by rw [ih];simp
     obtain⟨n,hn⟩:∃n,stemN l l.length=n+1:=⟨stemN l l.length-1,by omega⟩;rw [if_neg h,if_neg hne,if_neg (by omega),ih,hn];simp
theorem from_len(k:List Int):(fromL k).length≤24:=by
 unfold fromL;split
 · rename_i h
   unfold keyR at h;have:=of_decide_eq_true h
   omega
 · split
   · simp;omega
   · have:=up_len (k.take 24)
     simp at this
     omega
theorem from_u8 {k:List Int}(h:U8 k):U8 (fromL k):=by
 unfold fromL;split
 · exact h
 · split
   · intro z hz
     rcases List.mem_append.1 hz with hz | hz
     · exact h z hz
     · cases List.mem_singleton.1 hz;omega
   · exact up_u8 fun z hz=>h z (List.mem_of_mem_take hz)
end Go.Cop
namespace Go.Sl
theorem RowIn.take {h:Hp}{k:Nat}{a:Option Addr}{n c:Nat}{xs:List Value}(hr:RowIn h k (.slice a n c) n xs)(m:Nat)(hm:m≤n):RowIn h k (.slice a m m) m (xs.take (m*k)):=by
 obtain⟨hl,a',c',e,h1,h2,h3⟩:=hr;cases e;have hmk:m*k≤n*k:=Nat.mul_le_mul_right k hm;refine⟨by rw [List.length_take];omega,a,m,rfl,Nat.le_refl _,by omega,fun h0=> ?_⟩;obtain⟨b,off,e,hc⟩:=h3 (by omega);refine⟨b,off,e,fun i hi=> ?_⟩;rw [hc i (by omega),List.getElem?_take,if_pos hi]
end Go.Sl
namespace Go.Proofs.YtiegeadmgpanoaaGreatDoor.C6
open ChangeShapes WideShapes ChangeAt RowKit Sl Cop F3 P3 G2 J2 N2 P2 N5 S5 Z5 Q3 V3
theorem bytes_take {h:Hp}{a:Option Addr}{k:List Int}{c:Nat}(hk:Bytes h (.slice a k.length c) k)(m:Nat)(hm:m≤k.length):Bytes h (.slice a m m) (k.take m):=by
 have:=hk.take m hm
 unfold Bytes;rw [List.length_take,Nat.min_eq_left hm,List.map_take];rwa [Nat.mul_one] at this
theorem fresh_room(h:Hp)(v:Value)(l:List Int)(hx:Bytes h v l)(hn:l.length≤140737488355000)(F:Pr)(w:World)(hF:Sat ((Pr.own h).star F) w):
 Calls Tryz.prog 125 #[v,.int .i64 1] w fun e w'=> ∃o,e= .returned o∧Stays w w'∧Sat ((BytesRow o l).star ((Pr.own h).star F)) w':=by
 obtain⟨a,c,rfl,rd⟩:=bytes_rd hx;obtain⟨i0,hi,hz0,hz1,hz2⟩:=info_parts infoByte;obtain⟨Z,hZ⟩:∃Z:List Value,Z=List.replicate (l.length+1) (Value.int .u8 0):=⟨_,rfl⟩;have hZl:Z.length=l.length+1:=by rw [hZ];simp
 have hmk:∀wx:World,(Instr.makeSlice 42 (.int .i64 (l.length:Int)) (.int .i64 ((l.length:Int)+1))).run Tryz.prog wx= .ok (.slice (some ⟨wx.heap.size,0,none⟩) l.length (l.length+1)) (wx.alloc (.cells Z.toArray 5)):=by
  intro wx;have:=run_make (P:=Tryz.prog) wx 42 5 i0 (.int .u8 0) Tryz.underlying42 hi hz0 .i64 .i64 l.length ((l.length:Int)+1) (by omega) (by omega) (by rw [hz2];omega) (by omega)
  rw [hz1,Int.toNat_natCast,show ((l.length:Int)+1).toNat=l.length+1 by omega,Nat.mul_one,show (Value.int .u8 0).cells= #[Value.int .u8 0] from rfl,made_rep, ← hZ] at this;exact this
 have hn2:(l.length:Int)≤140737488355000:=by omega
 have h2:=hF.alloc (.cells Z.toArray 5);have hle:=h2.right.own;have hsz:(Tryz.prog.info? 5).map (·.size)=some 1:=by rw [hi,Option.map_some,hz1]
 have hpos:0<(l.map (Value.int .u8)).length→(some (⟨w.heap.size,0,none⟩:Addr)=some ⟨w.heap.size,0,none⟩∧∃ad,a=some ad∧∀j u,(l.map (Value.int .u8))[j]? =some u→(w.alloc (.cells Z.toArray 5)).cell? (ad.add j)=some u):=by
  intro h0;rw [List.length_map] at h0;obtain⟨b,off,e0,_⟩:=rd 0 h0;refine⟨rfl,⟨b,off,none⟩,e0,fun j u hj=> ?_⟩;obtain⟨hj1,hj2⟩:=List.getElem?_eq_some_iff.1 hj;rw [List.length_map] at hj1;obtain⟨b2,off2,e,hc⟩:=rd j hj1;rw [e0] at e;cases e;have:=hc _ hle
  rw [show (⟨b,off,none⟩:Addr).add j=⟨b,off+j,none⟩ by unfold Addr.add;simp,this, ← hj2,List.getElem_map,List.getD_eq_getElem?_getD,List.getElem?_eq_getElem hj1];rfl
 have HPOS:=hQ hpos;have H2:=hQ h2;have hZL:=hQ hZl;have HZ:=hQ hZ;have HN:=hQ hn;have HB:=hQ (show Below w.heap.size w (w.alloc (.cells Z.toArray 5)) from(Below.refl w.heap.size w).alloc (Nat.le_refl _) _);clear hF hx h2 rd hle hpos hZ hZl;go_enter Tryz.func125,Tryz.ntmps125
 go_wp2_with
  (refine wpList_copy_splice rfl _ _ _ _ rfl 5 Tryz.underlying42 hsz _ _ _ _ _ _ rfl rfl w.heap.size 0 Z 5 H2.out.pts_heap (l.map (Value.int .u8)) (by simp) HPOS.out (by rw [hZL.out];simp) (by simp [Value.oneCell']) w.heap.size w HB.out (Nat.le_refl _) ?_
   intro w4 hg4 hb4
   have HG4:=hQ (And.intro hg4.out hb4)
   clear hg4 hb4)
 go_ret;obtain⟨g1,g2⟩:=HG4.out;refine⟨_,rfl,Stays.of_below g2,?_⟩
 have h3:=H2.out.put g1 fun k hk hne=>by
  have hk2:k<w.heap.size:=by simp at hk;omega
  rw [g2.block k hk2];exact(Below.heap_alloc w _ k hk2).symm
 refine Row.mk' (sp:= [.int .u8 0]) (by simp) (by simp) (by omega) (by have:=HN.out;simp only [maxLen];omega) ?_
 have e1:splice Z 0 (l.map (Value.int .u8))=l.map (Value.int .u8)++ [.int .u8 0]:=by
  unfold splice;rw [List.take_zero,List.nil_append,Nat.zero_add,List.length_map,HZ.out,List.drop_replicate,show l.length+1-l.length=1 by omega];rfl
 rw [← e1];exact h3
theorem up_any(h:Hp)(a:Option Addr)(k:List Int)(c:Nat)(hk:Bytes h (.slice a k.length c) k)(uk:U8 k)(nk:k.length≤140737488355000)(F:Pr)(w:World)(hF:Sat ((Pr.own h).star F) w):
 Calls Tryz.prog 158 #[.slice a k.length c] w fun e w'=> ∃o,e= .returned o∧Stays w w'∧Sat ((BytesRow o (upL k)).star ((Pr.own h).star F)) w':=by
 have ST:=hQ (stem_any h a k c hk (by omega) w hF.own);have hs:=stemN_le k k.length;have FR:=hQ (fun(wx:World) hG=>fresh_any h _ (k.take (stemN k k.length)) (bytes_take hk _ hs) (by rw [List.length_take];omega) F wx hG);have HS:=hQ (OwnL.in1 hF);have HU:=hQ (up_stem k);have HK:=hQ uk;have HNE:=hQ (fun m (h:stemN k k.length=m+1)=>stem_ne k m h);have hnk:(k.length:Int)≤140737488355000:=by omega
 clear hF hk uk;obtain⟨n,hn⟩:∃n,stemN k k.length=n:=⟨_,rfl⟩;rw [hn] at ST FR HU hs HNE;clear hn;go_enter Tryz.func158,Tryz.ntmps158
 go_wp2_with fail
 refine ST.out.mono ?_;rintro e w1 ⟨rfl,ho⟩;have hs1:=HS.out.ext ho.heap;have F1:=hQ (FR.out w1 (hs1.sat.perm (by simp only [starL,Pr.star_emp])));have HST:=hQ ho.st;clear ST FR HS hs1 ho;go_wp2_with fail
 refine F1.out.mono ?_;rintro e w2 ⟨o,rfl,st2,hs2⟩;have hlt:(k.take n).length=n:=by rw [List.length_take];omega
 obtain⟨ao,co,rfl⟩:=Row.shape hs2;rw [hlt];have HST2:=hQ (HST.out.trans st2);cases n with
 | zero=>
   have HQ:=hQ (HU.out.trans (if_pos rfl));have HS2:=hQ hs2;clear hs2 st2 HU HST F1;go_wp2;go_ret;rw [HQ.out];refine⟨_,rfl,HST2.out,?_⟩;have:=HS2.out
   rw [hlt] at this;exact this
 | succ m=>
   have HQ:=hQ (HU.out.trans (if_neg (by omega)))
   have hs3:Sat ((Row 5 1 (.slice ao (m+1) co) (m+1) ((k.take (m+1)).map (Value.int .u8))).star ((Pr.own h).star F)) w2:=by
    have:=hs2
    unfold BytesRow at this;rw [hlt] at this;exact this
   obtain⟨b,u,rfl,hu,c1,f1,z1⟩:=Row.at1 hs3 m (by omega)
   have hu2:u= .int .u8 (k.getD m 0):=by
    have h1:m<(k.take (m+1)).length:=by omega
    rw [List.getElem?_map,List.getElem?_eq_getElem h1,List.getElem_take] at hu;rw [List.getD_eq_getElem?_getD,List.getElem?_eq_getElem (by omega)];exact(Option.some.inj hu).symm
   subst hu2;have hx:=HK.out (k.getD m 0) (by rw [List.getD_eq_getElem?_getD,List.getElem?_eq_getElem (by omega)];exact List.getElem_mem _);have hx2:k.getD m 0≠255:=HNE.out m rfl;have hxl:k.getD m 0+1≤255:=by omega
   have hx0:0≤k.getD m 0:=by omega
   have HS3:=hQ hs3;have HTK:=hQ (show k.take (m+1)=k.take m++ [k.getD m 0] by rw [List.take_succ_eq_append_getElem (by omega),List.getD_eq_getElem?_getD,List.getElem?_eq_getElem (by omega)];rfl);have HML:=hQ (show m+1≤k.length from hs);rw [Nat.add_sub_cancel] at HQ;clear hs2 hs3 st2 HU HST F1 hu hx hx2 HK HNE;have hmc:(m:Int)+1≤140737488355000:=by omega
   generalize k.getD m 0=x at*;go_wp2;go_ret;rw [HQ.out];refine⟨_,rfl,HST2.out.setCell _ _,?_⟩;have h9:=Row.put1 HS3.out m (by rw [List.length_map,List.length_take];have:=HML.out;omega) (.int .u8 (x+1));have hl2:(k.take m++ [x+1]).length=m+1:=by rw [List.length_append,List.length_take];have:=HML.out;simp;omega
   unfold BytesRow;rw [hl2];rw [HTK.out] at h9
   have e:((k.take m++ [x]).map (Value.int .u8)).set m (.int .u8 (x+1))=(k.take m++ [x+1]).map (Value.int .u8):=by
    rw [List.map_append,List.map_append,List.set_append_right _ _ (by rw [List.length_map,List.length_take];omega),List.length_map,List.length_take,Nat.min_eq_left (by have:=HML.out;omega),Nat.sub_self];rfl
   rw [e] at h9;exact h9
theorem next_any(h:Hp)(v:Value)(k:List Int)(hk:Bytes h v k)(uk:U8 k)(nk:k.length≤140737488355000)(F:Pr)(w:World)(hF:Sat ((Pr.own h).star F) w):
 Calls Tryz.prog 156 #[v] w fun e w'=> ∃o,e= .returned o∧Stays w w'∧Sat ((BytesRow o (if k.length<24 then k++ [0] else upL (k.take 24))).star ((Pr.own h).star F)) w':=by
 obtain⟨a,c,rfl,_⟩:=bytes_rd hk;obtain⟨i0,hi0,hz0,hz1,hz2⟩:=info_parts infoByte
 have hkc:(k.length:Int)≤(c:Int):=by
  obtain⟨_,_,_,e,h1,_⟩:=id hk;cases e;omega
 have hnk:(k.length:Int)≤140737488355000:=by omega
 by_cases h24:k.length<24
 · rw [if_pos h24]
   have FR:=hQ (fresh_room h _ k hk nk F w hF);have h24':(k.length:Int)<24:=by omega
   clear hF hk uk;go_enter Tryz.func156,Tryz.ntmps156
   go_wp2_with fail
   refine FR.out.mono ?_;rintro e w1 ⟨o,rfl,st1,hs1⟩;obtain⟨ao,co,rfl⟩:=Row.shape hs1;have H1:=hQ (hs1.alloc (.cells #[.int .u8 0] 5)).right;have HC:=hQ (new_cells w1 [.int .u8 0] 5 _ rfl);have HST:=hQ (st1.alloc (.cells #[.int .u8 0] 5));clear hs1 st1 FR
   go_wp2_with (at_builtin;refine wpList_append_sl rfl _ _ _ rfl 5 i0 (.int .u8 0) 1 1 Tryz.underlying42 hi0 hz0 hz1 hz2 rfl _ _ _ rfl H1.out ⟨w1.heap.size,0,none⟩ 1 1 [.int .u8 0] rfl rfl HC.out (by simp [Value.oneCell']) (by simp only [maxLen];omega) (by omega) ?_;intro v7 w4 hs4 hg4 _;obtain⟨a7',c7',e7',_,_⟩:=Row.read hs4;subst e7';have HS4:=hQ hs4;have HG4:=hQ (HST.out.of_grown hg4);clear hs4 hg4)
   go_ret;refine⟨_,rfl,HG4.out,?_⟩;unfold BytesRow;rw [List.length_append,List.map_append];exact HS4.out
 · rw [if_neg h24]
   have hle:24≤k.length:=by omega
   have hl:(k.take 24).length=24:=by rw [List.length_take];omega
   have hbt:=bytes_take hk 24 hle;have UP:=up_any h a (k.take 24) 24 (by rw [hl];exact hbt) (fun z hz=>uk z (List.mem_of_mem_take hz)) (by omega) F w hF;rw [hl] at UP;have UPH:=hQ UP;have h24':¬(k.length:Int)<24:=by omega
   have h24c:(24:Int)≤(c:Int):=by omega
   clear hF hk uk hbt UP hl;go_enter Tryz.func156,Tryz.ntmps156
   go_wp2_with fail
   refine UPH.out.mono ?_;rintro e w1 ⟨o,rfl,st1,hs1⟩;have HST:=hQ st1;have HS:=hQ hs1;clear hs1 st1 UPH;go_wp2;go_ret;exact⟨_,rfl,HST.out,HS.out⟩
theorem from_any(h:Hp)(v:Value)(k:List Int)(hk:Bytes h v k)(uk:U8 k)(nk:k.length≤140737488355000)(F:Pr)(w:World)(hF:Sat ((Pr.own h).star F) w):
 Calls Tryz.prog 150 #[v] w fun e w'=> ∃o,e= .returned o∧Stays w w'∧Sat ((BytesRow o (fromL k)).star ((Pr.own h).star F)) w':=by
 obtain⟨a,c,rfl,_⟩:=bytes_rd hk;have IK:=iskey_any a k.length c (by omega) w;unfold fromL keyR;by_cases hkr:1≤k.length∧k.length≤24
 · rw [decide_eq_true hkr] at IK ⊢
   rw [if_pos rfl];have HIK:=hQ IK;have FR:=hQ (fresh_any h _ k hk nk F w hF);clear IK hF hk uk hkr;go_enter Tryz.func150,Tryz.ntmps150
   go_wp2_with fail
   refine HIK.out.mono ?_;rintro e w1 ⟨rfl,rfl⟩;go_wp2_with fail
   refine FR.out.mono ?_;rintro e w1 ⟨o,rfl,st1,hs1⟩;have HST:=hQ st1;have HS:=hQ hs1;clear hs1 st1 FR;go_wp2;go_ret;exact⟨_,rfl,HST.out,HS.out⟩
 · rw [decide_eq_false hkr] at IK ⊢
   rw [if_neg (by simp)];have HIK:=hQ IK;have FR:=hQ (next_any h _ k hk uk nk F w hF);clear IK hF hk uk hkr;generalize (if k.length<24 then k++ [0] else upL (k.take 24))=N at*;go_enter Tryz.func150,Tryz.ntmps150
   go_wp2_with fail
   refine HIK.out.mono ?_;rintro e w1 ⟨rfl,rfl⟩;go_wp2_with fail
   refine FR.out.mono ?_;rintro e w1 ⟨o,rfl,st1,hs1⟩;have HST:=hQ st1;have HS:=hQ hs1;clear hs1 st1 FR;go_wp2;go_ret;exact⟨_,rfl,HST.out,HS.out⟩
theorem empty_any(h:Hp)(rv:Value)(r:RangeV)(hr:RangeIn h rv r)(ur:RU8 r)(nr:r.lo.length≤140737488355000)(F:Pr)(w:World)(hF:Sat ((Pr.own h).star F) w):
 Calls Tryz.prog 131 #[rv] w fun e w'=>e= .returned (.bool (emptyR r))∧Stays w w'∧Sat ((Pr.own h).star F) w':=by
 obtain⟨lo,hi,rfl,hlo,hhi⟩:=id hr;obtain⟨al,cl,rfl,_⟩:=bytes_rd hlo;obtain⟨ah,ch,rfl,_⟩:=bytes_rd hhi;have hs0:=((OwnL.in1 hF).alloc (rangeC (.slice al r.lo.length cl) (.slice ah r.hi.length ch) r.op)).drew;have FR:=hQ (from_any h _ r.lo hlo ur.lo nr _ _ (hs0.pull1 (A1:=Pr.own h)));have HR:=hQ (And.intro hr ur)
 have HST:=hQ ((Stays.refl w).alloc (rangeC (.slice al r.lo.length cl) (.slice ah r.hi.length ch) r.op)).drew;have c1:=hs0.facts;simp only [CellsAt,Nat.reduceAdd,and_true] at c1;unfold emptyR;have HL:=hQ (And.intro (from_len r.lo) (from_u8 ur.lo));clear hF hr ur hlo hhi hs0 nr;generalize fromL r.lo=N at*;go_enter Tryz.func131,Tryz.ntmps131
 go_wp2_with fail
 refine wS 9 [0,1,2] [(3,[],[0,1]),(4,[5,6],[1])] ?_;refine wpQ_all _ rfl rfl ?_;simp only [pick,pQ];iterate 3 (go_big_quiet_step (fail))
 refine wpQuiet_nil ?_;refine wpRest_act rfl ?_;go_wp2_with fail
 refine FR.out.mono ?_;rintro e w1 ⟨o,rfl,st1,hs1⟩;have hs2:=OwnL.of2 hs1;obtain⟨a,ha,hs3⟩:=hs2.arena (BytesRow o N);obtain⟨hd,hs4⟩:=Sat.own_join (hs3.pull2 (A1:=Pr.own a) (A2:=Pr.own h));obtain⟨ao,co,rfl,_⟩:=bytes_rd (row_bytes ha);clear c1;have c1:=hs2.facts;simp only [CellsAt,Nat.reduceAdd,and_true] at c1
 have HA:=hQ (has_any (a.un h) _ _ r N (HR.out.1.sub (Hp.sub_un_right hd)) ((row_bytes ha).sub (Hp.sub_un_left a h)) HR.out.2 HL.out.2 (by have:=HL.out.1;omega) w1 hs4.own);have HST1:=hQ (HST.out.trans st1);have HS1:=hQ (hs2.to (M:= [Pr.own h,F]));clear hs1 hs2 hs3 hs4 st1 FR ha hd;go_wp2;refine onN_mk ?_;refine wpQ_nil ⟨?_,?_⟩
 · exact cQ
 refine wpRest_act rfl ?_;go_wp2_with fail
 refine HA.out.mono ?_;rintro e w2 ⟨rfl,ho⟩;have hs5:=HS1.out.ext ho.heap;have HEND:=hQ (And.intro (HST1.out.trans ho.st) (hs5.sat.perm (B:=(Pr.own h).star F) (by simp only [starL,Pr.star_emp])));clear hs5 ho HA HS1 HST1 c1;go_wp2;refine onN_mk ?_;refine wpQ_all _ rfl rfl ?_;simp only [pick,pQ];iterate 2 (go_big_quiet_step (fail))
 refine wpQuiet_nil ⟨?_,?_⟩
 · exact cQ
 refine wpRest_nil ?_;go_wp2;go_ret;exact⟨rfl,HEND.out.1,HEND.out.2⟩
end Go.Proofs.YtiegeadmgpanoaaGreatDoor.C6
namespace Go.Cop
def wOut(l:List ItemV)(r:RangeV):Nat→List Int
 | 0=> []
 | n+1=>if emptyR (meetR (ownR l (l.length-(n+1))) r) then wOut l r n else wOut l r n++ [(itemAt l (l.length-(n+1))).child]
theorem wOut_len(l:List ItemV)(r:RangeV):∀n,(wOut l r n).length≤n
 | 0=>Nat.le_refl _
 | n+1=>by
   have:=wOut_len l r n
   unfold wOut;split
   · omega
   · simp;omega
theorem wOut_eq(l:List ItemV)(r:RangeV):∀n,n≤l.length→wOut l r n=(((List.range' (l.length-n) n).filter fun i=> !emptyR (meetR (ownR l i) r)).map fun i=>(itemAt l i).child).reverse
 | 0,_=>rfl
 | n+1,h=>by
   have ih:=wOut_eq l r n (by omega);rw [List.range'_succ,show l.length-(n+1)+1=l.length-n by omega];unfold wOut;split
   · rename_i h2
     rw [List.filter_cons_of_neg (by rw [h2];simp),ih]
   · rename_i h2
     rw [List.filter_cons_of_pos (by simpa using h2),List.map_cons,List.reverse_cons,ih]
theorem wOut_all(g:PageV)(r:RangeV):wOut g.items r g.items.length=(withinK g r).reverse:=by
 rw [wOut_eq _ _ _ (Nat.le_refl _),Nat.sub_self, ← List.range_eq_range'];rfl
end Go.Cop
namespace Go.Proofs.YtiegeadmgpanoaaGreatDoor.D6
open ChangeShapes WideShapes ChangeAt RowKit Sl Cop Go.Shelf D2 F3 P3 G2 J2 Q3 V3 X3 M5 N2 P2 N5 S5 C6 T5
attribute [local go_sem] Oper.semAt_some
theorem backI_any(a:Option Addr)(n c:Nat)(w:World):
 Calls Tryz.prog 130 #[.slice a n c] w fun e w'=>e= .returned (.func (.func 149) #[] #[.pointer (some ⟨w.heap.size,0,none⟩)])∧w'=w.alloc (.cells #[.slice a n c] 81):=by
 go_enter Tryz.func130,Tryz.ntmps130
 go_wp2;go_ret;exact⟨rfl,rfl⟩
def WI(ob pb rb:Nat)(g:PageV)(r:RangeV)(vi vd lo hi:Value)(F:Pr)(n:Nat):Pr:=
 Pr.ex fun ov:Value=>(Pr.pts ob (.cells #[ov] 22)).star ((IntsRow ov (wOut g.items r n)).star ((Pr.pts pb (pageC g.kind g.level vi vd g.next)).star ((Pr.pts rb (rangeC lo hi r.op)).star F)))
theorem within_any(h:Hp)(pv rv:Value)(g:PageV)(r:RangeV)(hp:PageIn h pv g)(hr:RangeIn h rv r)(hfit:Fit g)(hu8:∀x∈g.items,U8 x.key)(ur:RU8 r)(nr:RLen 140737488355000 r)(F:Pr)(w:World)(hF:Sat ((Pr.own h).star F) w):
 Calls Tryz.prog 93 #[pv,rv] w fun e w'=> ∃o,e= .returned o∧Stays w w'∧Sat ((IntsRow o (withinK g r).reverse).star ((Pr.own h).star F)) w':=by
 obtain⟨vi,vd,rfl,hit,hb'⟩:=hp;obtain⟨tad,tcd,rfl⟩:=bytes_shape hb';obtain⟨tai,tci,rfl,_,rd⟩:=items_rd hit;obtain⟨lo,hi,rfl,hlo,hhi⟩:=id hr;obtain⟨al,cl,rfl,_⟩:=bytes_rd hlo;obtain⟨ah,ch,rfl,_⟩:=bytes_rd hhi;obtain⟨i0,hi0,hz0,hz1,hz2⟩:=info_parts infoInt;have hn8:g.items.length≤8:=by have:=hfit.n;omega
 have hs0:=(((OwnL.in1 hF).alloc (pageC g.kind g.level (.slice tai g.items.length tci) (.slice tad g.data.length tcd) g.next)).alloc (rangeC (.slice al r.lo.length cl) (.slice ah r.hi.length ch) r.op)).alloc (.cells #[.slice none 0 0] 22);have e1:(w.alloc (pageC g.kind g.level (.slice tai g.items.length tci) (.slice tad g.data.length tcd) g.next)).heap.size=w.heap.size+1:=by simp
 have e2:((w.alloc (pageC g.kind g.level (.slice tai g.items.length tci) (.slice tad g.data.length tcd) g.next)).alloc (rangeC (.slice al r.lo.length cl) (.slice ah r.hi.length ch) r.op)).heap.size=w.heap.size+1+1:=by simp
 rw [e1,e2] at hs0;have HST:=hQ ((((Stays.refl w).alloc (pageC g.kind g.level (.slice tai g.items.length tci) (.slice tad g.data.length tcd) g.next)).alloc (rangeC (.slice al r.lo.length cl) (.slice ah r.hi.length ch) r.op)).alloc (.cells #[.slice none 0 0] 22));have HS0:=hQ hs0;have RD:=hQ rd;have HH:=hQ (And.intro hit (And.intro hr (And.intro hu8 (And.intro ur (And.intro nr hfit)))))
 clear hF hs0 e1 e2 rd hit hb' hr hlo hhi hu8 ur nr hfit;refine calls_of_wp_marks (n:=9) Tryz.func93 rfl ?_;simp only [Tryz.ntmps93,List.size_toArray,List.length_cons,List.length_nil,Nat.reduceAdd,Nat.reduceSub,Array.replicate_succ,Array.replicate_zero,List.push_toArray,List.append_toArray,List.nil_append,List.cons_append];go_wp2_with fail
 have U1:=HST.out;have U2:=HS0.out;clear HST HS0;generalize (((w.alloc (pageC g.kind g.level (.slice tai g.items.length tci) (.slice tad g.data.length tcd) g.next)).alloc (rangeC (.slice al r.lo.length cl) (.slice ah r.hi.length ch) r.op)).alloc (.cells #[.slice none 0 0] 22))=w0 at*;generalize w.heap.size+1+1=OB at*;generalize w.heap.size+1=RB at*;generalize w.heap.size=PB at*;have c1:=U2.facts
 simp only [CellsAt,Nat.reduceAdd,and_true] at c1;have HST:=hQ U1;have HS0:=hQ U2;clear U1 U2;refine(backI_any _ _ _ _).mono ?_;rintro e w2 ⟨rfl,rfl⟩;have U1:=HST.out.alloc (.cells #[.slice tai g.items.length tci] 81);have U2:=HS0.out.alloc (.cells #[.slice tai g.items.length tci] 81);clear HST HS0 c1;generalize w0.heap.size=SB at*
 generalize w0.alloc (.cells #[.slice tai g.items.length tci] 81)=w1 at*;have HST:=hQ U1;have HS1:=hQ U2;clear U1 U2;go_wp2
 refine wp_rangeFunc_sl 9 (gf:=149) rfl (enters_of Tryz.func149 (by kernel_rfl) rfl) (backwardI SB (.slice tai g.items.length tci) h g.items HH.out.1 (by omega)) (fun _=>rfl)
  (fun pre=>WI OB PB RB g r (.slice tai g.items.length tci) (.slice tad g.data.length tcd) (.slice al r.lo.length cl) (.slice ah r.hi.length ch) F pre.length) (fun _ _=>Pr.pure False) ?start ?round ?done ?stop
 case start=>
  have h1:=HS1.out.emp;rw [← Row.nil 3 1] at h1;have h2:=h1.to (M:= [Pr.pts OB (.cells #[.slice none 0 0] 22),Row 3 1 (.slice none 0 0) 0 [],Pr.pts PB (pageC g.kind g.level (.slice tai g.items.length tci) (.slice tad g.data.length tcd) g.next),Pr.pts RB (rangeC (.slice al r.lo.length cl) (.slice ah r.hi.length ch) r.op),F,Pr.pts SB (.cells #[.slice tai g.items.length tci] 81),Pr.own h]);unfold WI
  rw [Pr.ex_star];exact Sat.ex0.2 ⟨.slice none 0 0,h2.sat.perm (by simp only [starL,Pr.star_emp,Pr.star_assoc,BackOwnI];rfl)⟩
 case round=>
  intro l' pre x W1' F1 hok hs;obtain⟨i,hi1,hpi,hx1,ak,ck,av,cv,hx2,hbk⟩:=hok;obtain⟨x1,x2⟩:=x;dsimp only at hx1 hx2;subst hx1 hx2;unfold WI at hs;rw [Pr.ex_star,Pr.ex_star] at hs;obtain⟨ov,hs⟩:=Sat.ex0.1 hs;obtain⟨n,hn⟩:∃n,pre.length=n:=⟨_,rfl⟩;rw [hn] at hs hpi;have hidx:g.items.length-(n+1)=i:=by omega
  have hwl:=wOut_len g.items r n;have hn8':n≤8:=by omega
  have hX:=itemAt_get hi1;have HWO:=hQ (show wOut g.items r (n+1)=if emptyR (meetR (ownR g.items i) r) then wOut g.items r n else wOut g.items r n++ [(itemAt g.items i).child] from by rw [← hidx];rfl);have HOU:=hQ (And.intro (own_u8 (l:=g.items) HH.out.2.2.1 hi1) (own_len (n:=140737488355000) (l:=g.items) (fun x hx=>by have:=HH.out.2.2.2.2.2.k x hx;omega) hi1))
  have hs1:OwnL [Pr.pts OB (.cells #[ov] 22),IntsRow ov (wOut g.items r n),Pr.pts PB (pageC g.kind g.level (.slice tai g.items.length tci) (.slice tad g.data.length tcd) g.next),Pr.pts RB (rangeC (.slice al r.lo.length cl) (.slice ah r.hi.length ch) r.op),F,Pr.pts SB (.cells #[.slice tai g.items.length tci] 81),Pr.own h,F1] W1':=⟨hs.perm (by simp only [starL,Pr.star_emp,Pr.star_assoc,BackOwnI])⟩
  obtain⟨ao,co,rfl⟩:=Row.shape (hs1.pull1 (A1:=IntsRow ov (wOut g.items r n)));have hlo:(ownR g.items i).lo=g.items[i].key:=by rw [own_lo,hX]
  have hnx:i+1<g.items.length→(ownR g.items i).hi=(itemAt g.items (i+1)).key∧(ownR g.items i).op=false:=fun h=>⟨(own_hi h).2,(own_hi h).1⟩
  have hnx2:¬i+1<g.items.length→(ownR g.items i).hi= []∧(ownR g.items i).op=true:=fun h=>by unfold ownR;rw [if_neg h];exact⟨rfl,rfl⟩
  rw [hX] at HWO;generalize hXX:g.items[i]=X at*;have HN:=hQ hn;have HPL:=hQ (show ∀z:Int × Value,(pre++ [z]).length=n+1 from fun z=>by rw [List.length_append,hn];rfl);have HS1:=hQ hs1;have HB:=hQ hbk;have HOW:=hQ (And.intro hlo (And.intro hnx hnx2));clear hs hs1 hn hbk hXX hlo hnx hnx2 hidx hX;simp only [encB,itemV];gi_wp2
  have hsA:=HS1.out.alloc (.cells #[.slice ak X.key.length ck,.slice av X.value.length cv,.int .i64 X.child,.int .i64 X.size] 89);obtain⟨B,hB⟩:∃B,W1'.heap.size=B:=⟨_,rfl⟩;rw [hB] at hsA ⊢
  refine⟨starL [Pr.pts B (.cells #[.slice ak X.key.length ck,.slice av X.value.length cv,.int .i64 X.child,.int .i64 X.size] 89),Pr.pts OB (.cells #[.slice ao (wOut g.items r n).length co] 22),IntsRow (.slice ao (wOut g.items r n).length co) (wOut g.items r n),Pr.pts PB (pageC g.kind g.level (.slice tai g.items.length tci) (.slice tad g.data.length tcd) g.next),Pr.pts RB (rangeC (.slice al r.lo.length cl) (.slice ah r.hi.length ch) r.op),F,Pr.pts SB (.cells #[.slice tai g.items.length tci] 81),Pr.own h],(Stays.refl _).alloc _,hsA.sat.perm (by simp only [starL,Pr.star_emp,Pr.star_assoc]),?_⟩
  clear hsA HS1 hB;intro F2 W2 _ hs2
  have hs3:OwnL [Pr.pts B (.cells #[.slice ak X.key.length ck,.slice av X.value.length cv,.int .i64 X.child,.int .i64 X.size] 89),Pr.pts OB (.cells #[.slice ao (wOut g.items r n).length co] 22),IntsRow (.slice ao (wOut g.items r n).length co) (wOut g.items r n),Pr.pts PB (pageC g.kind g.level (.slice tai g.items.length tci) (.slice tad g.data.length tcd) g.next),Pr.pts RB (rangeC (.slice al r.lo.length cl) (.slice ah r.hi.length ch) r.op),F,Pr.pts SB (.cells #[.slice tai g.items.length tci] 81),Pr.own h,F2] W2:=⟨hs2.perm (by simp only [starL,Pr.star_emp,Pr.star_assoc])⟩
  have hs4:=hs3.alloc (rangeC (.slice ak X.key.length ck) (.slice none 0 0) true);have c1:=hs3.facts;simp only [CellsAt,Nat.reduceAdd,and_true] at c1;have HST2:=hQ ((Stays.refl W2).alloc (rangeC (.slice ak X.key.length ck) (.slice none 0 0) true));clear hs2 hs3;by_cases hlt:i+1<g.items.length
  · obtain⟨b2,off2,ak2,ck2,av2,cv2,e2,hbk2,_,hc2⟩:=RD.out (i+1) hlt
    subst e2;have hlt3:(i:Int)+1<(g.items.length:Int):=by omega
    have HOR:=hQ (show RangeIn h (.agg #[.slice ak X.key.length ck,.slice ak2 g.items[i+1].key.length ck2,.bool false]) (ownR g.items i) from⟨_,_,by rw [(HOW.out.2.1 hlt).2],by rw [HOW.out.1];exact HB.out,by rw [(HOW.out.2.1 hlt).1,itemAt_get hlt];exact hbk2⟩);have HS4':=hQ hs4;have HC2:=hQ hc2;clear hbk2 hc2 hs4;gi_wp2_with fail
    have hs4:=HS4'.out;have st2:=HST2.out;clear HS4' HST2 c1;generalize W2.alloc (rangeC (.slice ak X.key.length ck) (.slice none 0 0) true)=W3 at*;generalize W2.heap.size=CB at*;obtain⟨d0,_,_,_⟩:=HC2.out W3 (hs4.le (a:=h));have zb:=World.block_lt_of_cell? _ _ d0;generalize g.items[i+1].key.length=kl2 at*;have c1:=hs4.facts;simp only [CellsAt,Nat.reduceAdd,and_true] at c1
    have HS4:=hQ ((hs4.drew.set CB 2 (.bool false)).set CB 1 (.slice ak2 kl2 ck2));have HST5:=hQ ((st2.drew.setCell ⟨CB,2,none⟩ (.bool false)).setCell ⟨CB,1,none⟩ (.slice ak2 kl2 ck2));clear hs4 st2 HC2;refine wpIn_region_staged (sz:=43) (by kernel_rfl) [0,1,2,3,4,5,6,7] [(8,[9],[0,1,2,3,4,5,6]),(10,[],[])] rfl (by kernel_rfl) (by kernel_rfl) (by kernel_rfl) (by kernel_rfl) ?_
    refine wpQ_all _ rfl rfl ?_;simp only [pick,pQ];iterate 8 (go_big_quiet_step (fail))
    refine wpQuiet_nil ?_;refine wpRest_act rfl ?_;go_wp2;refine onN_mk ?_;refine wpQ_all _ rfl rfl ?_;simp only [pick,pQ];iterate 1 (go_big_quiet_step (fail))
    refine wpQuiet_nil ⟨?_,?_⟩
    · exact cQ
    refine wpRest_act rfl ?_;go_wp2;refine onN_mk ?_;refine wpQ_nil ⟨?_,?_⟩
    · exact chk_nil
    refine wpRest_nil ?_;have ME:=hQ (meet_any h _ _ (ownR g.items i) r HOR.out HH.out.2.1 HOU.out.1 HH.out.2.2.2.1 HOU.out.2 HH.out.2.2.2.2.1 _ _ (HS4.out.pull1 (A1:=Pr.own h)));have HUL:=hQ (And.intro (meetR_u8 HOU.out.1 HH.out.2.2.2.1) (meetR_len HOU.out.2 HH.out.2.2.2.2.1));gi_wp2_with fail
    refine⟨trivial,?_⟩;refine(CallsIn.inRound _ (callsIn_wide.2 ME.out)).mono ?_;rintro e w3 ⟨st3,h3,rv3,rfl,hr3,hs4⟩;have hs5:=OwnL.of2 hs4;have EM:=hQ (empty_any h3 rv3 _ hr3 HUL.out.1 HUL.out.2.lo _ _ (hs5.pull1 (A1:=Pr.own h3)));have HS5:=hQ (hs5.lose (Pr.own h3));have HST3:=hQ (HST5.out.trans st3);clear c1 hs4 hs5 st3 hr3 ME HS4 HST5;gi_wp2_with fail
    refine⟨trivial,?_⟩;refine(CallsIn.inRound _ (callsIn_wide.2 EM.out)).mono ?_;rintro e w4 ⟨rfl,st4,hs6⟩;have hs7:=(OwnL.of1 hs6).lose (Pr.own h3);have HST4:=hQ (HST3.out.trans st4);have c1:=hs7.facts;simp only [CellsAt,Nat.reduceAdd,and_true] at c1;have HS7:=hQ hs7;clear hs6 hs7 st4 EM HS5 HST3;cases hem:emptyR (meetR (ownR g.items i) r) with
    | true=>
      have HW:=hQ (HWO.out.trans (if_pos hem));clear hem;gi_wp2
      refine⟨HST4.out,?_⟩
      have h8:=HS7.out.to (M:= [Pr.pts OB (.cells #[.slice ao (wOut g.items r n).length co] 22),IntsRow (.slice ao (wOut g.items r n).length co) (wOut g.items r n),Pr.pts PB (pageC g.kind g.level (.slice (some ⟨b2,off2,none⟩) g.items.length tci) (.slice tad g.data.length tcd) g.next),Pr.pts RB (rangeC (.slice al r.lo.length cl) (.slice ah r.hi.length ch) r.op),F,Pr.pts SB (.cells #[.slice (some ⟨b2,off2,none⟩) g.items.length tci] 81),Pr.own h,F2])
      simp only [HPL.out];unfold WI;rw [HW.out,Pr.ex_star,Pr.ex_star];exact Sat.ex0.2 ⟨.slice ao (wOut g.items r n).length co,h8.sat.perm (by simp only [starL,Pr.star_emp,Pr.star_assoc,BackOwnI])⟩
    | false=>
      have HW:=hQ (HWO.out.trans (if_neg (by rw [hem];simp)));have H1:=hQ ((HS7.out.alloc (.cells #[.int .i64 X.child] 3)).pull1 (A1:=IntsRow (.slice ao (wOut g.items r n).length co) (wOut g.items r n)));have HC:=hQ (new_cells w4 [.int .i64 X.child] 3 _ rfl);have HST5:=hQ (HST4.out.alloc (.cells #[.int .i64 X.child] 3));clear hem HS7 HST4
      gi_wp2_with (refine wpListIn_append_sl rfl _ _ _ rfl 3 i0 (.int .i64 0) 1 8 Tryz.underlying22 hi0 hz0 hz1 hz2 rfl _ _ _ rfl H1.out ⟨w4.heap.size,0,none⟩ 1 1 [.int .i64 X.child] rfl rfl HC.out (by simp [Value.oneCell']) (by simp only [maxLen];omega) (by omega) ?_;intro v7 w5 hs8 hg8;obtain⟨a7,c7,e7,_,_⟩:=Row.read hs8;subst e7;have hs9:=(OwnL.of1 hs8);clear c1;have c1:=hs9.facts;simp only [CellsAt,Nat.reduceAdd,and_true] at c1;have HS9:=hQ hs9;have HST6:=hQ (HST5.out.of_grown hg8);clear hs8 hs9 hg8)
      refine⟨HST6.out.setCell _ _,?_⟩
      have h8:=(HS9.out.set OB 0 (.slice a7 ((wOut g.items r n).length+1) c7)).to (M:= [Pr.pts OB (.cells #[.slice a7 ((wOut g.items r n).length+1) c7] 22),Row 3 1 (.slice a7 ((wOut g.items r n).length+1) c7) ((wOut g.items r n).length+1) ((wOut g.items r n).map (Value.int .i64)++ [.int .i64 X.child]),Pr.pts PB (pageC g.kind g.level (.slice (some ⟨b2,off2,none⟩) g.items.length tci) (.slice tad g.data.length tcd) g.next),Pr.pts RB (rangeC (.slice al r.lo.length cl) (.slice ah r.hi.length ch) r.op),F,Pr.pts SB (.cells #[.slice (some ⟨b2,off2,none⟩) g.items.length tci] 81),Pr.own h,F2])
      simp only [HPL.out];unfold WI;rw [HW.out,Pr.ex_star,Pr.ex_star];refine Sat.ex0.2 ⟨.slice a7 ((wOut g.items r n).length+1) c7,h8.sat.perm ?_⟩;unfold IntsRow;rw [List.length_append,List.map_append];simp only [starL,Pr.star_emp,Pr.star_assoc,BackOwnI,List.length_singleton,List.map_cons,List.map_nil]
  · have hlt3:¬(i:Int)+1<(g.items.length:Int):=by omega
    have HOR:=hQ (show RangeIn h (.agg #[.slice ak X.key.length ck,.slice none 0 0,.bool true]) (ownR g.items i) from⟨_,_,by rw [(HOW.out.2.2 hlt).2],by rw [HOW.out.1];exact HB.out,by rw [(HOW.out.2.2 hlt).1];exact RowIn.nil _ _⟩);have HS4:=hQ hs4;clear hs4
    have ME:=hQ (meet_any h _ _ (ownR g.items i) r HOR.out HH.out.2.1 HOU.out.1 HH.out.2.2.2.1 HOU.out.2 HH.out.2.2.2.2.1 _ _ (HS4.out.pull1 (A1:=Pr.own h)));have HUL:=hQ (And.intro (meetR_u8 HOU.out.1 HH.out.2.2.2.1) (meetR_len HOU.out.2 HH.out.2.2.2.2.1));gi_wp2_with fail
    refine⟨trivial,?_⟩;refine(CallsIn.inRound _ (callsIn_wide.2 ME.out)).mono ?_;rintro e w3 ⟨st3,h3,rv3,rfl,hr3,hs4⟩;have hs5:=OwnL.of2 hs4;have EM:=hQ (empty_any h3 rv3 _ hr3 HUL.out.1 HUL.out.2.lo _ _ (hs5.pull1 (A1:=Pr.own h3)));have HS5:=hQ (hs5.lose (Pr.own h3));have HST3:=hQ (HST2.out.trans st3);clear c1 hs4 hs5 st3 hr3 ME HS4 HST2;gi_wp2_with fail
    refine⟨trivial,?_⟩;refine(CallsIn.inRound _ (callsIn_wide.2 EM.out)).mono ?_;rintro e w4 ⟨rfl,st4,hs6⟩;have hs7:=(OwnL.of1 hs6).lose (Pr.own h3);have HST4:=hQ (HST3.out.trans st4);have c1:=hs7.facts;simp only [CellsAt,Nat.reduceAdd,and_true] at c1;have HS7:=hQ hs7;clear hs6 hs7 st4 EM HS5 HST3;cases hem:emptyR (meetR (ownR g.items i) r) with
    | true=>
      have HW:=hQ (HWO.out.trans (if_pos hem));clear hem;gi_wp2
      refine⟨HST4.out,?_⟩
      have h8:=HS7.out.to (M:= [Pr.pts OB (.cells #[.slice ao (wOut g.items r n).length co] 22),IntsRow (.slice ao (wOut g.items r n).length co) (wOut g.items r n),Pr.pts PB (pageC g.kind g.level (.slice tai g.items.length tci) (.slice tad g.data.length tcd) g.next),Pr.pts RB (rangeC (.slice al r.lo.length cl) (.slice ah r.hi.length ch) r.op),F,Pr.pts SB (.cells #[.slice tai g.items.length tci] 81),Pr.own h,F2])
      simp only [HPL.out];unfold WI;rw [HW.out,Pr.ex_star,Pr.ex_star];exact Sat.ex0.2 ⟨.slice ao (wOut g.items r n).length co,h8.sat.perm (by simp only [starL,Pr.star_emp,Pr.star_assoc,BackOwnI])⟩
    | false=>
      have HW:=hQ (HWO.out.trans (if_neg (by rw [hem];simp)));have H1:=hQ ((HS7.out.alloc (.cells #[.int .i64 X.child] 3)).pull1 (A1:=IntsRow (.slice ao (wOut g.items r n).length co) (wOut g.items r n)));have HC:=hQ (new_cells w4 [.int .i64 X.child] 3 _ rfl);have HST5:=hQ (HST4.out.alloc (.cells #[.int .i64 X.child] 3));clear hem HS7 HST4
      gi_wp2_with (refine wpListIn_append_sl rfl _ _ _ rfl 3 i0 (.int .i64 0) 1 8 Tryz.underlying22 hi0 hz0 hz1 hz2 rfl _ _ _ rfl H1.out ⟨w4.heap.size,0,none⟩ 1 1 [.int .i64 X.child] rfl rfl HC.out (by simp [Value.oneCell']) (by simp only [maxLen];omega) (by omega) ?_;intro v7 w5 hs8 hg8;obtain⟨a7,c7,e7,_,_⟩:=Row.read hs8;subst e7;have hs9:=(OwnL.of1 hs8);clear c1;have c1:=hs9.facts;simp only [CellsAt,Nat.reduceAdd,and_true] at c1;have HS9:=hQ hs9;have HST6:=hQ (HST5.out.of_grown hg8);clear hs8 hs9 hg8)
      refine⟨HST6.out.setCell _ _,?_⟩
      have h8:=(HS9.out.set OB 0 (.slice a7 ((wOut g.items r n).length+1) c7)).to (M:= [Pr.pts OB (.cells #[.slice a7 ((wOut g.items r n).length+1) c7] 22),Row 3 1 (.slice a7 ((wOut g.items r n).length+1) c7) ((wOut g.items r n).length+1) ((wOut g.items r n).map (Value.int .i64)++ [.int .i64 X.child]),Pr.pts PB (pageC g.kind g.level (.slice tai g.items.length tci) (.slice tad g.data.length tcd) g.next),Pr.pts RB (rangeC (.slice al r.lo.length cl) (.slice ah r.hi.length ch) r.op),F,Pr.pts SB (.cells #[.slice tai g.items.length tci] 81),Pr.own h,F2])
      simp only [HPL.out];unfold WI;rw [HW.out,Pr.ex_star,Pr.ex_star];refine Sat.ex0.2 ⟨.slice a7 ((wOut g.items r n).length+1) c7,h8.sat.perm ?_⟩;unfold IntsRow;rw [List.length_append,List.map_append];simp only [starL,Pr.star_emp,Pr.star_assoc,BackOwnI,List.length_singleton,List.map_cons,List.map_nil]
 case done=>
  intro D xs W2 hxs hst hs;rw [hxs] at hs;unfold WI at hs;rw [Pr.ex_star,Pr.ex_star] at hs;obtain⟨ov,hs⟩:=Sat.ex0.1 hs;obtain⟨N,hN⟩:∃N,N=(withinK g r).reverse:=⟨_,rfl⟩
  have hs3:OwnL [Pr.pts D (.deferred (some [])),Pr.pts OB (.cells #[ov] 22),IntsRow ov (wOut g.items r g.items.length),Pr.pts PB (pageC g.kind g.level (.slice tai g.items.length tci) (.slice tad g.data.length tcd) g.next),Pr.pts RB (rangeC (.slice al r.lo.length cl) (.slice ah r.hi.length ch) r.op),F,Pr.pts SB (.cells #[.slice tai g.items.length tci] 81),Pr.own h] W2:=⟨hs.perm (by simp only [starL,Pr.star_emp,Pr.star_assoc,BackOwnI];ac_rfl)⟩
  rw [wOut_all, ← hN] at hs3;have HNN:=hQ hN;clear hN;obtain⟨ao,co,rfl⟩:=Row.shape (hs3.pull1 (A1:=IntsRow ov N));have c1:=hs3.facts;simp only [CellsAt,Nat.reduceAdd,and_true] at c1;have HS3:=hQ hs3;have HST3:=hQ (HST.out.trans hst);clear hs hs3 hst HS1;go_wp2;have q1:=HS3.out.pull1 (A1:=Pr.pts D (.deferred (some [])));have q2:=OwnL.of0 (q1.putObj (.deferred none)).right
  refine marks_ret1 (D:=D) rfl q1.pts_heap ⟨_,results_tmp rfl _ _ _,.slice ao N.length co,rfl,HST3.out.putObj _ _,?_⟩;rw [← HNN.out];exact(q2.to (M:= [IntsRow (.slice ao N.length co) N,Pr.own h,F])).sat.perm (by simp only [starL,Pr.star_emp])
 case stop=>
  intro D c pre W2 _ hst hs;exact(Sat.pure.1 (hs.perm (Pr.star_assoc _ _ _))).1.elim
end Go.Proofs.YtiegeadmgpanoaaGreatDoor.D6
