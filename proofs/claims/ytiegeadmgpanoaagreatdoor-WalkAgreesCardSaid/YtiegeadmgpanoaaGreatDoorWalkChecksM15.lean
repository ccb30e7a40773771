/- The document's CopyBytes, CopyInts; the conditions stand as hypotheses. -/
import Derived.Test.YtiegeadmgpanoaaGreatDoorWalkChecksM13
import Derived.Test.YtiegeadmgpanoaaGreatDoorWalkChecksM10
import Derived.Test.YtiegeadmgpanoaaGreatDoorWalkChecksM03
import Derived.Test.YtiegeadmgpanoaaGreatDoorWalkChecksM08
import Derived.Test.YtiegeadmgpanoaaGreatDoorWalkChecksM05
import Derived.Laws.CopyOwn
import Derived.Lib.SmallJoins
import Derived.BigQuiet
import Derived.Deep.QuietTactic
import Derived.Test.YtiegeadmgpanoaaGreatDoorWalkChecksM01
set_option maxRecDepth 100000
set_option maxHeartbeats 16000000
namespace Go.Proofs.YtiegeadmgpanoaaGreatDoor.K5
open ChangeShapes WideShapes ChangeAt RowKit Sl Cop D2 F3 K3 G2 J2 Q3 V3 M4 N2 G5
theorem copybytes_any(h:Hp)(v:Value)(l:List Int)(F:Pr)(w:World)(hF:Sat ((Pr.own h).star F) w)(hx:Bytes h v l)(hn:l.length≤140737488355328):
 Calls Tryz.prog 58 #[v] w fun e w'=> ∃v',e= .returned v'∧Sat ((BytesRow v' l).star ((Pr.own h).star F)) w'∧Stays w w':=by
 obtain⟨a,c,rfl,r1⟩:=bytes_rd hx;obtain⟨i0,hi,hz0,hz1,hz2⟩:=info_parts infoByte
 have hmk:∀wx:World,(Instr.makeSlice 42 (.int .i64 0) (.int .i64 (l.length:Int))).run Tryz.prog wx= .ok (.slice (some ⟨wx.heap.size,0,none⟩) 0 l.length) (wx.alloc (.cells (madeCells #[.int .u8 0] l.length) 5)):=by
  intro wx;have:=run_make (P:=Tryz.prog) wx 42 5 i0 (.int .u8 0) Tryz.underlying42 hi hz0 .i64 .i64 0 l.length (by omega) (by omega) (by rw [hz2];omega) (by omega)
  rw [hz1,Int.toNat_natCast,Nat.mul_one] at this;exact this
 have h2:=hQ (row_room 5 (.int .u8 0) l.length (by simp only [maxLen];omega) hF);have R1:=hQ r1;clear hF hx r1;go_enter Tryz.func58,Tryz.ntmps58
 go_wp2;go_loopw [3,4] (fun o i wr=> ∃k:Nat,k≤l.length∧i= .int .i64 k∧Stays w wr∧Sat ((BytesRow o (l.take k)).star ((Pr.own h).star F)) wr) (fun _ i _=>l.length-(intOf i).toNat)
 case atStart=>exact⟨0,Nat.zero_le _,rfl,(Stays.refl w).alloc _,h2.out⟩
 case round=>
  obtain⟨k,hk,rfl,hst,hs⟩:=hrel;have hlt':(l.take k).length=k:=by rw [List.length_take];omega
  obtain⟨ao,co,eo,_,_⟩:=Row.read hs;rw [hlt'] at eo;subst eo;rcases Nat.lt_or_ge k l.length with hlt | hge
  · obtain⟨b,off,rfl,c1⟩:=R1.out k hlt
    have q1:=c1 wr hs.right.own
    have hs1:Sat ((Row 5 1 (.slice ao k co) k ((l.take k).map (Value.int .u8))).star ((Pr.own h).star F)) wr:=by
     have:=hs
     unfold BytesRow at this;rw [hlt'] at this;exact this
    have H1:=hQ (hs1.alloc (.cells #[.int .u8 (l.getD k 0)] 5)).right;have hnew:=hQ (new_cells wr [.int .u8 (l.getD k 0)] 5 _ rfl);have HT:=hQ (show l.take (k+1)=l.take k++ [l.getD k 0] by rw [List.take_succ_eq_append_getElem hlt];simp [hlt]);have zb:=World.block_lt_of_cell? _ _ q1;clear hs hs1 c1;generalize l.getD k 0=x at*
    go_wp2_with (at_builtin;refine wpList_append_sl rfl _ _ _ rfl 5 i0 (.int .u8 0) 1 1 Tryz.underlying42 hi hz0 hz1 hz2 rfl _ _ _ rfl H1.out ⟨wr.heap.size,0,none⟩ 1 1 [.int .u8 x] rfl rfl hnew.out (by simp [Value.oneCell']) (by simp only [maxLen];omega) (by omega) ?_;intro v7 w4 hs4 hg4 _;obtain⟨a7',c7',e7',_,_⟩:=Row.read hs4;subst e7';have HS4:=hQ hs4;have HG4:=hQ hg4;clear hs4 hg4)
    refine⟨⟨k+1,by omega,congrArg (Value.int .i64) (by omega),(hst.alloc _).of_grown HG4.out,?_⟩,by simp [intOf];omega⟩;have hl2:(l.take (k+1)).length=k+1:=by rw [List.length_take];omega
    unfold BytesRow;rw [hl2,HT.out,List.map_append];exact HS4.out
  · have hkl:k=l.length:=by omega
    subst hkl;have HS:=hQ hs;clear hs;go_wp2;go_ret;refine⟨_,rfl,?_,hst⟩;have:=HS.out
    rw [List.take_length] at this;exact this
end Go.Proofs.YtiegeadmgpanoaaGreatDoor.K5
namespace Go.Proofs.YtiegeadmgpanoaaGreatDoor.M5
open ChangeShapes WideShapes ChangeAt RowKit Sl Cop D2 F3 K3 P3 G2 J2 Q3 V3 G5 K5 X3
abbrev itemC(kv vv:Value)(c s:Int):Obj:= .cells #[kv,vv,.int .i64 c,.int .i64 s] 89
theorem infoItemS:(Tryz.prog.info? 89).map (·.size)=some 4:=by kernel_rfl
theorem pts4 {b T:Nat}{v0 v1 v2 v3:Value}{F:Pr}{w:World}(h:Sat ((Pr.pts b (.cells #[v0,v1,v2,v3] T)).star F) w):
 w.cell? ⟨b,0,none⟩=some v0∧w.cell? ⟨b,1,none⟩=some v1∧w.cell? ⟨b,2,none⟩=some v2∧w.cell? ⟨b,3,none⟩=some v3∧(w.frozen? ⟨b,0,none⟩=false∧w.frozen? ⟨b,1,none⟩=false∧w.frozen? ⟨b,2,none⟩=false∧w.frozen? ⟨b,3,none⟩=false)∧b<w.heap.size:=by
 have h1:=h.pts_heap;exact⟨by rw [cell_of_heap h1];rfl,by rw [cell_of_heap h1];rfl,by rw [cell_of_heap h1];rfl,by rw [cell_of_heap h1];rfl,⟨frozen_of_heap h1 0,frozen_of_heap h1 1,frozen_of_heap h1 2,frozen_of_heap h1 3⟩,h.lt⟩
theorem copyitem_any(h:Hp)(v:Value)(x:ItemV)(hv:ItemIn h v x)(hn:x.key.length≤140737488355328∧x.value.length≤140737488355328)(F:Pr)(w:World)(hF:Sat ((Pr.own h).star F) w):
 Calls Tryz.prog 148 #[v] w fun e w'=> ∃kv vv,e= .returned (itemV kv vv x.child x.size)∧Sat ((BytesRow kv x.key).star ((BytesRow vv x.value).star ((Pr.own h).star F))) w'∧Stays w w':=by
 obtain⟨kv,vv,rfl,hk,hvv⟩:=hv;obtain⟨ak,ck,rfl⟩:=bytes_shape hk;obtain⟨av,cv,rfl⟩:=bytes_shape hvv;obtain⟨hn1,hn2⟩:=hn;have h1:=(hF.alloc (itemC (.slice ak x.key.length ck) (.slice av x.value.length cv) x.child x.size)).alloc (itemC (.slice none 0 0) (.slice none 0 0) 0 0)
 rw [show (w.alloc (itemC (.slice ak x.key.length ck) (.slice av x.value.length cv) x.child x.size)).heap.size=w.heap.size+1 by simp] at h1;have h2:=h1.drew.perm (B:=(Pr.own h).star ((Pr.pts w.heap.size (itemC (.slice ak x.key.length ck) (.slice av x.value.length cv) x.child x.size)).star ((Pr.pts (w.heap.size+1) (itemC (.slice none 0 0) (.slice none 0 0) 0 0)).star F))) (by ac_rfl)
 have CB:=hQ (copybytes_any h _ x.key _ _ h2 hk (by omega));have HV:=hQ hvv;have HN:=hQ hn2;have HST:=hQ (((Stays.refl w).alloc (itemC (.slice ak x.key.length ck) (.slice av x.value.length cv) x.child x.size)).alloc (itemC (.slice none 0 0) (.slice none 0 0) 0 0)).drew;clear h1 h2 hk hvv hF hn1 hn2;go_enter Tryz.func148,Tryz.ntmps148
 go_wp2_with fail
 refine wS 14 [0,1,3,4,6,7,8,9] [(2,[],[0,3,4,6,7,8,9]),(5,[10],[0,3,6,7,8,9]),(11,[],[])] ?_;refine wpQ_all _ rfl rfl ?_;simp only [pick,pQ];iterate 8 (go_big_quiet_step (fail))
 refine wpQuiet_nil ?_;refine wpRest_act rfl ?_;go_wp2_with fail
 refine CB.out.mono ?_;rintro e w1 ⟨v1,rfl,hs2,st2⟩;obtain⟨a1,c1,e1,_,_⟩:=Row.read hs2;subst e1;have hs3:Sat ((Pr.own h).star ((Pr.pts w.heap.size (itemC (.slice ak x.key.length ck) (.slice av x.value.length cv) x.child x.size)).star ((Pr.pts (w.heap.size+1) (itemC (.slice none 0 0) (.slice none 0 0) 0 0)).star ((BytesRow (.slice a1 x.key.length c1) x.key).star F)))) w1:=hs2.perm (by ac_rfl)
 obtain⟨q0,q1,q2,q3,_,z0⟩:=pts4 hs3.right;have CB2:=hQ (copybytes_any h _ x.value _ _ hs3 HV.out (by have:=HN.out;omega));have HST2:=hQ (HST.out.trans st2);clear hs2 hs3 st2 CB HV;go_wp2;refine onN_mk ?_;refine wpQ_nil ⟨?_,?_⟩
 · exact cQ
 refine wpRest_act rfl ?_;go_wp2_with fail
 refine CB2.out.mono ?_;rintro e w2 ⟨v2,rfl,hs4,st4⟩;obtain⟨a2,c2,e2,_,_⟩:=Row.read hs4;subst e2
 have hs5:Sat ((Pr.pts w.heap.size (itemC (.slice ak x.key.length ck) (.slice av x.value.length cv) x.child x.size)).star ((Pr.pts (w.heap.size+1) (itemC (.slice none 0 0) (.slice none 0 0) 0 0)).star ((BytesRow (.slice a1 x.key.length c1) x.key).star ((BytesRow (.slice a2 x.value.length c2) x.value).star ((Pr.own h).star F))))) w2:=hs4.perm (by ac_rfl);clear q0 q1 q2 q3 z0
 obtain⟨q0,q1,q2,q3,_,z0⟩:=pts4 hs5;obtain⟨p0,p1,p2,p3,⟨f0,f1,f2,f3⟩,z1⟩:=pts4 hs5.right;have H5:=hQ hs5.right;have HST4:=hQ (HST2.out.trans st4);clear hs4 hs5 st4 CB2;go_wp2;refine onN_mk ?_;refine wpQ_all _ rfl rfl ?_;simp only [pick,pQ];iterate 1 (go_big_quiet_step (fail))
 refine wpQuiet_nil ⟨?_,?_⟩
 · exact cQ
 refine wpRest_act rfl ?_;go_wp2;refine onN_mk (wpQ_nil ⟨chk_nil,wpRest_nil ?_⟩);go_wp2;have s6:=(((H5.out.setCell (i:=0) (.slice a1 x.key.length c1)).setCell (i:=1) (.slice a2 x.value.length c2)).setCell (i:=2) (.int .i64 x.child)).setCell (i:=3) (.int .i64 x.size)
 have s7:Sat ((Pr.pts (w.heap.size+1) (itemC (.slice a1 x.key.length c1) (.slice a2 x.value.length c2) x.child x.size)).star ((BytesRow (.slice a1 x.key.length c1) x.key).star ((BytesRow (.slice a2 x.value.length c2) x.value).star ((Pr.own h).star F)))) _:=s6;refine bodyPost_ret (results_cell_row rfl _ _ (w.heap.size+1) _ _ _ _ rfl s7.pts_heap Tryz.underlying89 rfl infoItemS) rfl ?_
 exact⟨_,_,rfl,s7.right,(((HST4.out.setCell _ _).setCell _ _).setCell _ _).setCell _ _⟩
theorem item_arena {kv vv:Value}{x:ItemV}{F:Pr}{w:World}(h:Sat ((BytesRow kv x.key).star ((BytesRow vv x.value).star F)) w):∃h',ItemIn h' (itemV kv vv x.child x.size) x∧Sat ((Pr.own h').star F) w:=by
 rw [← Pr.star_assoc] at h;obtain⟨h',hq,hs⟩:=h.toOwn;obtain⟨a,b,ha,hb,s1,s2⟩:=star_sub hq;exact⟨h',⟨kv,vv,rfl,(Row.rowIn ha).sub s1,(Row.rowIn hb).sub s2⟩,hs⟩
structure ItsAt(hk:Hp)(xs:List (Value × Value))(l:List ItemV):Prop where
 len:xs.length=l.length
 at':∀i (hx:i<xs.length) (hl:i<l.length),Bytes hk xs[i].1 l[i].key∧Bytes hk xs[i].2 l[i].value
def ItRow(v:Value)(xs:List (Value × Value))(l:List ItemV):Pr:=Row 89 4 v l.length ((xs.zip l).flatMap itCells)
theorem ItsAt.snoc {hk h':Hp}(hd:hk.dis h'){xs:List (Value × Value)}{l:List ItemV}(ha:ItsAt hk xs l){kv vv:Value}{x:ItemV}(hx:ItemIn h' (itemV kv vv x.child x.size) x):ItsAt (hk.un h') (xs++ [(kv,vv)]) (l++ [x]):=by
 obtain⟨k',v',e,h1,h2⟩:=hx;simp only [itemV,Value.agg.injEq,Array.mk.injEq,List.cons.injEq,and_true] at e;obtain⟨rfl,rfl⟩:=e;have hl:=ha.len;refine⟨by simp [hl],fun i hi hj=> ?_⟩;rcases Nat.lt_or_ge i xs.length with hlt | hge
 · rw [List.getElem_append_left hlt,List.getElem_append_left (by omega)]
   obtain⟨y1,y2⟩:=ha.at' i hlt (by omega);exact⟨y1.sub (Hp.sub_un_left _ _),y2.sub (Hp.sub_un_left _ _)⟩
 · simp only [List.length_append,List.length_singleton] at hi
   have:i=xs.length:=by omega
   subst this;rw [List.getElem_append_right (Nat.le_refl _),List.getElem_append_right (by omega)];simp only [Nat.sub_self,hl,List.getElem_singleton];exact⟨h1.sub (Hp.sub_un_right hd),h2.sub (Hp.sub_un_right hd)⟩
theorem items_arena {v:Value}{hk:Hp}{xs:List (Value × Value)}{l:List ItemV}(ha:ItsAt hk xs l){F:Pr}{w:World}(h:Sat ((ItRow v xs l).star ((Pr.own hk).star F)) w):∃h',ItemsIn h' v l∧Sat ((Pr.own h').star F) w:=by
 rw [← Pr.star_assoc] at h;obtain⟨h',hq,hs⟩:=h.toOwn;obtain⟨a,b,hA,hB,s1,s2⟩:=star_sub hq;cases hB;exact⟨h',items_mk' xs ha.len ((Row.rowIn hA).sub s1) fun i hx hl=>⟨(ha.at' i hx hl).1.sub s2,(ha.at' i hx hl).2.sub s2⟩,hs⟩
theorem itRow_snoc(xs:List (Value × Value))(l:List ItemV)(hl:xs.length=l.length)(kv vv:Value)(x:ItemV):((xs++ [(kv,vv)]).zip (l++ [x])).flatMap itCells=(xs.zip l).flatMap itCells++ [kv,vv,.int .i64 x.child,.int .i64 x.size]:=by
 rw [List.zip_append hl];simp [itCells]
theorem copyitems_any(h:Hp)(v:Value)(l:List ItemV)(hv:ItemsIn h v l)(hn:l.length≤2199023255552)(hb:∀x∈l,x.key.length≤140737488355328∧x.value.length≤140737488355328)(F:Pr)(w:World)(hF:Sat ((Pr.own h).star F) w):
 Calls Tryz.prog 128 #[v] w fun e w'=> ∃v' h',e= .returned v'∧ItemsIn h' v' l∧Sat ((Pr.own h').star ((Pr.own h).star F)) w'∧Stays w w':=by
 obtain⟨a,c,rfl,_,rd⟩:=items_rd hv;have RD:=hQ rd;have HB:=hQ hb;have HF:=hQ hF;have hl0:(l.length:Int)≤2199023255552:=by omega
 obtain⟨i0,hi,hz0,hz1,hz2⟩:=info_parts infoItem;clear rd hv hF hb;go_enter Tryz.func128,Tryz.ntmps128
 go_wp2;go_loopw [3,4] (fun o i wr=> ∃(k:Nat) (hk:Hp) (xs:List (Value × Value)),k≤l.length∧i= .int .i64 k∧Stays w wr∧Hid (ItsAt hk xs (l.take k))∧Sat ((ItRow o xs (l.take k)).star ((Pr.own hk).star ((Pr.own h).star F))) wr) (fun _ i _=>l.length-(intOf i).toNat)
 case atStart=>
  refine⟨0,Hp.nil,[],Nat.zero_le _,rfl,Stays.refl w,hQ ⟨rfl,fun i hx=>absurd hx (by simp)⟩,?_⟩;show Sat ((Row 89 4 (.slice none 0 0) 0 []).star ((Pr.own Hp.nil).star ((Pr.own h).star F))) w
  rw [Row.nil,own_nil,Pr.emp_star,Pr.emp_star];exact HF.out
 case round=>
  obtain⟨k,hk,xs,hkl,rfl,hst,hits,hs⟩:=hrel;have hlt':(l.take k).length=k:=by rw [List.length_take];omega
  obtain⟨ao,co,eo,_,_⟩:=Row.read hs;rw [hlt'] at eo;subst eo;rcases Nat.lt_or_ge k l.length with hlt | hge
  · obtain⟨b,off,ak,ck,av,cv,rfl,hbk,hbv,hcell⟩:=RD.out k hlt
    have hs1:Sat ((Pr.own h).star ((Row 89 4 (.slice ao k co) k ((xs.zip (l.take k)).flatMap itCells)).star ((Pr.own hk).star F))) wr:=by
     have:=hs
     unfold ItRow at this;rw [hlt'] at this;exact this.perm (by ac_rfl)
    obtain⟨c0,c1,c2,c3⟩:=hcell wr hs1.own;have zb:=World.block_lt_of_cell? _ _ c0;have CI:=hQ (copyitem_any h _ l[k] ⟨_,_,rfl,hbk,hbv⟩ (HB.out _ (List.getElem_mem hlt)) _ wr hs1);have HT:=hQ (show l.take (k+1)=l.take k++ [l[k]] from List.take_succ_eq_append_getElem hlt);have HST:=hQ hst;clear hs hs1 hcell hbk hbv hst;generalize l[k]=x at*;go_wp2_with fail
    refine CI.out.mono ?_;rintro e w1 ⟨kv,vv,rfl,hs2,st2⟩;obtain⟨h',hit,hs3⟩:=item_arena hs2;have hs4:=hs3.perm (B:=(Pr.own hk).star ((Pr.own h').star ((Row 89 4 (.slice ao k co) k ((xs.zip (l.take k)).flatMap itCells)).star ((Pr.own h).star F)))) (by ac_rfl);obtain⟨hdis,hs5⟩:=hs4.own_join;have hits2:=hits.out.snoc hdis hit
    have hs6:=hs5.perm (B:=(Row 89 4 (.slice ao k co) k ((xs.zip (l.take k)).flatMap itCells)).star ((Pr.own (hk.un h')).star ((Pr.own h).star F))) (by ac_rfl);obtain⟨ka,va,ekv,hk1,hk2⟩:=hit;simp only [itemV,Value.agg.injEq,Array.mk.injEq,List.cons.injEq,and_true] at ekv;obtain⟨rfl,rfl⟩:=ekv;obtain⟨a1,d1,rfl⟩:=bytes_shape hk1;obtain⟨a2,d2,rfl⟩:=bytes_shape hk2
    have H1:=hQ (hs6.alloc (.cells [.slice a1 x.key.length d1,.slice a2 x.value.length d2,.int .i64 x.child,.int .i64 x.size].toArray 89)).right;have hnew:=hQ (new_cells w1 [.slice a1 x.key.length d1,.slice a2 x.value.length d2,.int .i64 x.child,.int .i64 x.size] 89 _ rfl);have HI2:=hQ hits2;have HL:=hQ hits.out.len;have HST2:=hQ (HST.out.trans st2)
    clear hs2 hs3 hs4 hs5 hs6 hk1 hk2 hits hits2 hdis st2 CI c0 c1 c2 c3 zb
    go_wp2_with (
     at_builtin
     refine wpList_append_sl rfl _ _ _ rfl 89 i0 (.agg #[.slice none 0 0,.slice none 0 0,.int .i64 0,.int .i64 0]) 4 64 Tryz.underlying81 hi hz0 hz1 hz2 rfl _ _ _ rfl H1.out ⟨w1.heap.size,0,none⟩ 1 1 [.slice a1 x.key.length d1,.slice a2 x.value.length d2,.int .i64 x.child,.int .i64 x.size] rfl rfl hnew.out (by simp [Value.oneCell']) (by simp only [maxLen];omega) (by omega) ?_
     intro v7 w4 hs4 hg4 _
     obtain⟨a7',c7',e7',_,_⟩:=Row.read hs4
     subst e7'
     have HS4:=hQ hs4
     have HG4:=hQ hg4
     clear hs4 hg4)
    refine⟨⟨k+1,hk.un h',xs++ [(.slice a1 x.key.length d1,.slice a2 x.value.length d2)],by omega,congrArg (Value.int .i64) (by omega),(HST2.out.alloc _).of_grown HG4.out,?_,?_⟩,by simp [intOf];omega⟩
    · rw [HT.out];exact HI2
    · have hl2:(l.take k++ [x]).length=k+1:=by rw [List.length_append,hlt'];rfl
      unfold ItRow;rw [HT.out,itRow_snoc _ _ HL.out,hl2];exact HS4.out
  · have hkl2:k=l.length:=by omega
    subst hkl2;have HS:=hQ hs;clear hs;go_wp2;go_ret;have h9:=hits.out;have h8:=HS.out;rw [List.take_length] at h9 h8;obtain⟨h',h1,h2⟩:=items_arena h9 h8;exact⟨_,h',rfl,h1,h2,hst⟩
abbrev pageC(k l:Int)(vi vd:Value)(nx:Int):Obj:= .cells #[.int .i64 k,.int .i64 l,vi,vd,.int .i64 nx] 83
theorem pts5 {b T:Nat}{v0 v1 v2 v3 v4:Value}{F:Pr}{w:World}(h:Sat ((Pr.pts b (.cells #[v0,v1,v2,v3,v4] T)).star F) w):
 w.cell? ⟨b,0,none⟩=some v0∧w.cell? ⟨b,1,none⟩=some v1∧w.cell? ⟨b,2,none⟩=some v2∧w.cell? ⟨b,3,none⟩=some v3∧w.cell? ⟨b,4,none⟩=some v4∧(w.frozen? ⟨b,0,none⟩=false∧w.frozen? ⟨b,1,none⟩=false∧w.frozen? ⟨b,2,none⟩=false∧w.frozen? ⟨b,3,none⟩=false∧w.frozen? ⟨b,4,none⟩=false)∧b<w.heap.size:=by
 have h1:=h.pts_heap;exact⟨by rw [cell_of_heap h1];rfl,by rw [cell_of_heap h1];rfl,by rw [cell_of_heap h1];rfl,by rw [cell_of_heap h1];rfl,by rw [cell_of_heap h1];rfl,⟨frozen_of_heap h1 0,frozen_of_heap h1 1,frozen_of_heap h1 2,frozen_of_heap h1 3,frozen_of_heap h1 4⟩,h.lt⟩
theorem page_arena {hi:Hp}{vi vd:Value}{g:PageV}(h1:ItemsIn hi vi g.items){F:Pr}{w:World}(h:Sat ((BytesRow vd g.data).star ((Pr.own hi).star F)) w):∃h',PageIn h' (pageV g.kind g.level vi vd g.next) g∧Sat ((Pr.own h').star F) w:=by
 rw [← Pr.star_assoc] at h;obtain⟨h',hq,hs⟩:=h.toOwn;obtain⟨a,b,hA,hB,s1,s2⟩:=star_sub hq;cases hB;exact⟨h',⟨vi,vd,rfl,h1.sub s2,(Row.rowIn hA).sub s1⟩,hs⟩
theorem copypage_any(h:Hp)(v:Value)(g:PageV)(hv:PageIn h v g)(hn:g.items.length≤2199023255552)(hb:∀x∈g.items,x.key.length≤140737488355328∧x.value.length≤140737488355328)(hd:g.data.length≤140737488355328)(F:Pr)(w:World)(hF:Sat ((Pr.own h).star F) w):
 Calls Tryz.prog 86 #[v] w fun e w'=> ∃v' h',e= .returned v'∧PageIn h' v' g∧Sat ((Pr.own h').star ((Pr.own h).star F)) w'∧Stays w w':=by
 obtain⟨vi,vd,rfl,hi,hdd⟩:=hv;obtain⟨k,l,its,dat,nx⟩:=g;dsimp only at*;obtain⟨ai,ci,rfl,_,_⟩:=items_rd hi;obtain⟨ad,cd,rfl⟩:=bytes_shape hdd;have h1:=(hF.alloc (pageC k l (.slice ai its.length ci) (.slice ad dat.length cd) nx)).alloc (pageC 0 0 (.slice none 0 0) (.slice none 0 0) 0)
 rw [show (w.alloc (pageC k l (.slice ai its.length ci) (.slice ad dat.length cd) nx)).heap.size=w.heap.size+1 by simp] at h1;have h2:=h1.drew.perm (B:=(Pr.own h).star ((Pr.pts w.heap.size (pageC k l (.slice ai its.length ci) (.slice ad dat.length cd) nx)).star ((Pr.pts (w.heap.size+1) (pageC 0 0 (.slice none 0 0) (.slice none 0 0) 0)).star F))) (by ac_rfl)
 have CI:=hQ (copyitems_any h _ its hi hn hb _ _ h2);have HD:=hQ hdd;have HN:=hQ hd;have HST:=hQ (((Stays.refl w).alloc (pageC k l (.slice ai its.length ci) (.slice ad dat.length cd) nx)).alloc (pageC 0 0 (.slice none 0 0) (.slice none 0 0) 0)).drew;clear h1 h2 hi hdd hF hn hb hd;go_enter Tryz.func86,Tryz.ntmps86
 go_wp2_with fail
 refine wS 16 [0,1,2,3,4,5,7,8,10,11] [(6,[],[0,1,2,3,4,7,8,10,11]),(9,[12],[0,1,2,3,4,7,10,11]),(13,[],[])] ?_;refine wpQ_all _ rfl rfl ?_;simp only [pick,pQ];iterate 10 (go_big_quiet_step (fail))
 refine wpQuiet_nil ?_;refine wpRest_act rfl ?_;go_wp2_with fail
 refine CI.out.mono ?_;rintro e w1 ⟨v1,h',rfl,hit,hs2,st2⟩;obtain⟨a1,c1,rfl,_,_⟩:=items_rd hit;have hs3:Sat ((Pr.own h).star ((Pr.pts w.heap.size (pageC k l (.slice ai its.length ci) (.slice ad dat.length cd) nx)).star ((Pr.pts (w.heap.size+1) (pageC 0 0 (.slice none 0 0) (.slice none 0 0) 0)).star ((Pr.own h').star F)))) w1:=hs2.perm (by ac_rfl);obtain⟨q0,q1,q2,q3,q4,_,z0⟩:=pts5 hs3.right
 have CB2:=hQ (copybytes_any h _ dat _ _ hs3 HD.out (by have:=HN.out;omega));have HST2:=hQ (HST.out.trans st2);have HIT:=hQ hit;clear hs2 hs3 st2 CI HD hit;go_wp2;refine onN_mk ?_;refine wpQ_nil ⟨?_,?_⟩
 · exact cQ
 refine wpRest_act rfl ?_;go_wp2_with fail
 refine CB2.out.mono ?_;rintro e w2 ⟨v2,rfl,hs4,st4⟩;obtain⟨a2,c2,e2,_,_⟩:=Row.read hs4;subst e2;have hs5:Sat ((Pr.pts w.heap.size (pageC k l (.slice ai its.length ci) (.slice ad dat.length cd) nx)).star ((Pr.pts (w.heap.size+1) (pageC 0 0 (.slice none 0 0) (.slice none 0 0) 0)).star ((BytesRow (.slice a2 dat.length c2) dat).star ((Pr.own h').star ((Pr.own h).star F))))) w2:=hs4.perm (by ac_rfl)
 clear q0 q1 q2 q3 q4 z0;obtain⟨q0,q1,q2,q3,q4,_,z0⟩:=pts5 hs5;obtain⟨p0,p1,p2,p3,p4,⟨f0,f1,f2,f3,f4⟩,z1⟩:=pts5 hs5.right;have H5:=hQ hs5.right;have HST4:=hQ (HST2.out.trans st4);clear hs4 hs5 st4 CB2;go_wp2;refine onN_mk ?_;refine wpQ_all _ rfl rfl ?_;simp only [pick,pQ];iterate 1 (go_big_quiet_step (fail))
 refine wpQuiet_nil ⟨?_,?_⟩
 · exact cQ
 refine wpRest_act rfl ?_;go_wp2;refine onN_mk (wpQ_nil ⟨chk_nil,wpRest_nil ?_⟩);go_wp2;have s6:=((((H5.out.setCell (i:=0) (.int .i64 k)).setCell (i:=1) (.int .i64 l)).setCell (i:=2) (.slice a1 its.length c1)).setCell (i:=3) (.slice a2 dat.length c2)).setCell (i:=4) (.int .i64 nx)
 have s7:Sat ((Pr.pts (w.heap.size+1) (pageC k l (.slice a1 its.length c1) (.slice a2 dat.length c2) nx)).star ((BytesRow (.slice a2 dat.length c2) dat).star ((Pr.own h').star ((Pr.own h).star F)))) _:=s6;refine bodyPost_ret (results_cell_row rfl _ _ (w.heap.size+1) _ _ _ _ rfl s7.pts_heap Tryz.underlying83 rfl infoPage) rfl ?_;obtain⟨hp,e1,e2⟩:=page_arena (g:=⟨k,l,its,dat,nx⟩) HIT.out s7.right
 exact⟨_,hp,rfl,e1,e2,((((HST4.out.setCell _ _).setCell _ _).setCell _ _).setCell _ _).setCell _ _⟩
end Go.Proofs.YtiegeadmgpanoaaGreatDoor.M5
namespace Go.Proofs.YtiegeadmgpanoaaGreatDoor.N5
open ChangeShapes WideShapes ChangeAt RowKit Sl Cop F3 P3 G2 J2 N2 P2
def RangeIn(h:Hp)(v:Value)(r:RangeV):Prop:= ∃lo hi,v= .agg #[lo,hi,.bool r.op]∧Bytes h lo r.lo∧Bytes h hi r.hi
theorem RangeIn.sub {a b:Hp}(hs:a.sub b){v:Value}{r:RangeV}(h:RangeIn a v r):RangeIn b v r:=by
 obtain⟨lo,hi,e,h1,h2⟩:=h;exact⟨lo,hi,e,h1.sub hs,h2.sub hs⟩
theorem _root_.Go.Sl.Hp.le.only {h:Hp}{w w':World}(hle:h.le w)(ho:Only w w'):h.le w':=fun k o hk=>by
 have:=hle k o hk
 rw [ho.heap k (Array.getElem?_eq_some_iff.1 this).1];exact this
theorem fresh_any(h:Hp)(v:Value)(l:List Int)(hx:Bytes h v l)(hn:l.length≤140737488355000)(F:Pr)(w:World)(hF:Sat ((Pr.own h).star F) w):
 Calls Tryz.prog 125 #[v,.int .i64 0] w fun e w'=> ∃o,e= .returned o∧Stays w w'∧Sat ((BytesRow o l).star ((Pr.own h).star F)) w':=by
 obtain⟨a,c,rfl,rd⟩:=bytes_rd hx;obtain⟨i0,hi,hz0,hz1,hz2⟩:=info_parts infoByte;obtain⟨Z,hZ⟩:∃Z:List Value,Z=List.replicate l.length (Value.int .u8 0):=⟨_,rfl⟩;have hZl:Z.length=l.length:=by rw [hZ];simp
 have hmk:∀wx:World,(Instr.makeSlice 42 (.int .i64 (l.length:Int)) (.int .i64 (l.length:Int))).run Tryz.prog wx= .ok (.slice (some ⟨wx.heap.size,0,none⟩) l.length l.length) (wx.alloc (.cells Z.toArray 5)):=by
  intro wx;have:=run_make (P:=Tryz.prog) wx 42 5 i0 (.int .u8 0) Tryz.underlying42 hi hz0 .i64 .i64 l.length l.length (by omega) (by omega) (by rw [hz2];omega) (by omega)
  rw [hz1,Int.toNat_natCast,Nat.mul_one,show (Value.int .u8 0).cells= #[Value.int .u8 0] from rfl,made_rep, ← hZ] at this;exact this
 have hn2:(l.length:Int)≤140737488355000:=by omega
 have h2:=hF.alloc (.cells Z.toArray 5);have hle:=h2.right.own;have hsz:(Tryz.prog.info? 5).map (·.size)=some 1:=by rw [hi,Option.map_some,hz1]
 have hpos:0<(l.map (Value.int .u8)).length→(some (⟨w.heap.size,0,none⟩:Addr)=some ⟨w.heap.size,0,none⟩∧∃ad,a=some ad∧∀j u,(l.map (Value.int .u8))[j]? =some u→(w.alloc (.cells Z.toArray 5)).cell? (ad.add j)=some u):=by
  intro h0;rw [List.length_map] at h0;obtain⟨b,off,e0,_⟩:=rd 0 h0;refine⟨rfl,⟨b,off,none⟩,e0,fun j u hj=> ?_⟩;obtain⟨hj1,hj2⟩:=List.getElem?_eq_some_iff.1 hj;rw [List.length_map] at hj1;obtain⟨b2,off2,e,hc⟩:=rd j hj1;rw [e0] at e;cases e;have:=hc _ hle
  rw [show (⟨b,off,none⟩:Addr).add j=⟨b,off+j,none⟩ by unfold Addr.add;simp,this, ← hj2,List.getElem_map,List.getD_eq_getElem?_getD,List.getElem?_eq_getElem hj1];rfl
 have HPOS:=hQ hpos;have H2:=hQ h2;have hZL:=hQ hZl;have HN:=hQ hn;have HB:=hQ (show Below w.heap.size w (w.alloc (.cells Z.toArray 5)) from(Below.refl w.heap.size w).alloc (Nat.le_refl _) _);clear hF hx h2 rd hle hpos hZ hZl;go_enter Tryz.func125,Tryz.ntmps125
 go_wp2_with
  (refine wpList_copy_splice rfl _ _ _ _ rfl 5 Tryz.underlying42 hsz _ _ _ _ _ _ rfl rfl w.heap.size 0 Z 5 H2.out.pts_heap (l.map (Value.int .u8)) (by simp) HPOS.out (by rw [hZL.out];simp) (by simp [Value.oneCell']) w.heap.size w HB.out (Nat.le_refl _) ?_
   intro w4 hg4 hb4
   have HG4:=hQ (And.intro hg4.out hb4)
   clear hg4 hb4)
 go_ret;obtain⟨g1,g2⟩:=HG4.out;refine⟨_,rfl,Stays.of_below g2,?_⟩
 have h3:=H2.out.put g1 fun k hk hne=>by
  have hk2:k<w.heap.size:=by simp at hk;omega
  rw [g2.block k hk2];exact(Below.heap_alloc w _ k hk2).symm
 refine Row.mk' (sp:= []) (by simp) (by simp) (Nat.le_refl _) (by have:=HN.out;simp only [maxLen];omega) ?_
 have e1:splice Z 0 (l.map (Value.int .u8))=l.map (Value.int .u8)++ []:=by
  unfold splice;rw [List.take_zero,List.nil_append,Nat.zero_add,List.length_map,List.drop_of_length_le (by rw [hZL.out];exact Nat.le_refl _)]
 rw [← e1];exact h3
theorem more_any(h:Hp)(va vb:Value)(A B:List Int)(hA:Bytes h va A)(hB:Bytes h vb B)(uA:U8 A)(uB:U8 B)(nA:A.length≤140737488355000)(nB:B.length≤140737488355000)(F:Pr)(w:World)(hF:Sat ((Pr.own h).star F) w):
 Calls Tryz.prog 124 #[va,vb] w fun e w'=> ∃o,e= .returned o∧Stays w w'∧Sat ((BytesRow o (moreL A B)).star ((Pr.own h).star F)) w':=by
 have CM:=hQ (bcompare_any h h va vb A B hA hB uA uB w hF.own hF.own);have FR:=hQ (fun(v:Value) (l:List Int) (hx:Bytes h v l) (hn:l.length≤140737488355000) (wx:World) hF=>fresh_any h v l hx hn F wx hF);have HS:=hQ hF;have HX:=hQ (And.intro (And.intro hA nA) (And.intro hB nB));obtain⟨aa,ca,rfl,_⟩:=bytes_rd hA;obtain⟨ab,cb,rfl,_⟩:=bytes_rd hB;clear hF hA hB nA nB uA uB;by_cases hc:cmpI A B<0
 · have HM:=hQ (show moreL A B=B from by unfold moreL;rw [if_pos hc])
   generalize cmpI A B=q at*;go_enter Tryz.func124,Tryz.ntmps124
   go_wp2_with fail
   refine CM.out.mono ?_;rintro e w1 ⟨rfl,rfl⟩;have F1:=hQ (FR.out _ B HX.out.2.1 HX.out.2.2 w HS.out);clear CM FR HS;go_wp2_with fail
   refine F1.out.mono ?_;rintro e w2 ⟨o,rfl,st2,hs2⟩;have HS2:=hQ hs2;have HST2:=hQ (st2);clear hs2 st2;go_wp2;go_ret;rw [HM.out];exact⟨_,rfl,HST2.out,HS2.out⟩
 · have HM:=hQ (show moreL A B=A from by unfold moreL;rw [if_neg hc])
   generalize cmpI A B=q at*;go_enter Tryz.func124,Tryz.ntmps124
   go_wp2_with fail
   refine CM.out.mono ?_;rintro e w1 ⟨rfl,rfl⟩;have F1:=hQ (FR.out _ A HX.out.1.1 HX.out.1.2 w HS.out);clear CM FR HS;go_wp2_with fail
   refine F1.out.mono ?_;rintro e w2 ⟨o,rfl,st2,hs2⟩;have HS2:=hQ hs2;have HST2:=hQ (st2);clear hs2 st2;go_wp2;go_ret;rw [HM.out];exact⟨_,rfl,HST2.out,HS2.out⟩
theorem less_any(h:Hp)(va vb:Value)(A B:List Int)(hA:Bytes h va A)(hB:Bytes h vb B)(uA:U8 A)(uB:U8 B)(nA:A.length≤140737488355000)(nB:B.length≤140737488355000)(F:Pr)(w:World)(hF:Sat ((Pr.own h).star F) w):
 Calls Tryz.prog 126 #[va,vb] w fun e w'=> ∃o,e= .returned o∧Stays w w'∧Sat ((BytesRow o (lessL A B)).star ((Pr.own h).star F)) w':=by
 have CM:=hQ (bcompare_any h h va vb A B hA hB uA uB w hF.own hF.own);have FR:=hQ (fun(v:Value) (l:List Int) (hx:Bytes h v l) (hn:l.length≤140737488355000) (wx:World) hF=>fresh_any h v l hx hn F wx hF);have HS:=hQ hF;have HX:=hQ (And.intro (And.intro hA nA) (And.intro hB nB));obtain⟨aa,ca,rfl,_⟩:=bytes_rd hA;obtain⟨ab,cb,rfl,_⟩:=bytes_rd hB;clear hF hA hB nA nB uA uB;by_cases hc:0<cmpI A B
 · have HM:=hQ (show lessL A B=B from by unfold lessL;rw [if_pos hc])
   generalize cmpI A B=q at*;go_enter Tryz.func126,Tryz.ntmps126
   go_wp2_with fail
   refine CM.out.mono ?_;rintro e w1 ⟨rfl,rfl⟩;have F1:=hQ (FR.out _ B HX.out.2.1 HX.out.2.2 w HS.out);clear CM FR HS;go_wp2_with fail
   refine F1.out.mono ?_;rintro e w2 ⟨o,rfl,st2,hs2⟩;have HS2:=hQ hs2;have HST2:=hQ (st2);clear hs2 st2;go_wp2;go_ret;rw [HM.out];exact⟨_,rfl,HST2.out,HS2.out⟩
 · have HM:=hQ (show lessL A B=A from by unfold lessL;rw [if_neg hc])
   generalize cmpI A B=q at*;go_enter Tryz.func126,Tryz.ntmps126
   go_wp2_with fail
   refine CM.out.mono ?_;rintro e w1 ⟨rfl,rfl⟩;have F1:=hQ (FR.out _ A HX.out.1.1 HX.out.1.2 w HS.out);clear CM FR HS;go_wp2_with fail
   refine F1.out.mono ?_;rintro e w2 ⟨o,rfl,st2,hs2⟩;have HS2:=hQ hs2;have HST2:=hQ (st2);clear hs2 st2;go_wp2;go_ret;rw [HM.out];exact⟨_,rfl,HST2.out,HS2.out⟩
end Go.Proofs.YtiegeadmgpanoaaGreatDoor.N5
namespace Go.Proofs.YtiegeadmgpanoaaGreatDoor.P5
open ChangeShapes WideShapes ChangeAt RowKit Sl Cop D2 F3 K3 P3 G2 J2 Q3 V3 G5 X3 M5
theorem cells_one {h:Hp}{xs:List (Value × Value)}{l:List ItemV}(ha:ItsAt h xs l):∀u∈(xs.zip l).flatMap itCells,u.oneCell'=true:=by
 intro u hu;obtain⟨p,hp,hu⟩:=List.mem_flatMap.1 hu;obtain⟨i,hi,rfl⟩:=List.getElem_of_mem hp;have hi1:i<xs.length:=by simp at hi;omega
 have hi2:i<l.length:=by simp at hi;omega
 obtain⟨h1,h2⟩:=ha.at' i hi1 hi2;obtain⟨a1,c1,e1⟩:=bytes_shape h1;obtain⟨a2,c2,e2⟩:=bytes_shape h2;simp only [List.getElem_zip,itCells,e1,e2] at hu;simp only [List.mem_cons,List.not_mem_nil,or_false] at hu;rcases hu with rfl | rfl | rfl | rfl<;>rfl
theorem clone_items(h:Hp)(v:Value)(xs:List (Value × Value))(l:List ItemV)(ha:ItsAt h xs l)(hx:RowIn h 4 v l.length ((xs.zip l).flatMap itCells))(hn:l.length≤65536)(F:Pr)(w:World)(hF:Sat ((Pr.own h).star F) w):
 Calls Tryz.prog 115 #[v] w fun e w'=> ∃v',e= .returned v'∧Sat ((ItRow v' xs l).star ((Pr.own h).star F)) w'∧Stays w w':=by
 obtain⟨hlen,ad,c,rfl,hnc,hcm,hcell⟩:=id hx;have he:∀wx:World,(binOp .eql 81 (.slice ad l.length c) (.slice none 0 0)).run Tryz.prog wx= .ok (.bool ad.isNone) wx:=fun wx=>Lib.run_eql_slice_nil wx _ _ ad _ c 0 0 Tryz.underlying81
 cases ad with
 | none=>
   have hl:l.length=0:=by
    rcases Nat.eq_zero_or_pos l.length with h0 | h0
    · exact h0
    · obtain⟨b,off,e1,_⟩:=hcell (by omega);cases e1
   have hl2:l= []:=List.eq_nil_of_length_eq_zero hl;have HF:=hQ hF;have HL:=hQ hl2;clear hF hx hcell hl2 hl ha hlen;go_enter Tryz.func115,Tryz.ntmps115
   go_wp2;go_ret;refine⟨_,rfl,?_,Stays.refl w⟩;have h1:=HF.out;have h2:=HL.out;subst h2;rw [← Sat.emp, ← Row.nil 89 4] at h1;simpa [ItRow] using h1
 | some ad=>
   have hnew:Sat ((Row 89 4 (.slice (some ⟨w.heap.size,0,none⟩) 0 0) 0 []).star ((Pr.own h).star F)) (w.alloc (.cells #[] 89)):=
    Row.mk' (xs:= []) (sp:= []) (by simp) (by simp) (Nat.le_refl _) (by simp) (by simpa using hF.alloc (.cells #[] 89))
   have HF:=hQ hnew;have HX:=hQ hx;have HH:=hQ hnew.right.own;have HO:=hQ (cells_one ha);have HN:=hQ hlen;clear hF hx hcell hnew ha hlen;go_enter Tryz.func115,Tryz.ntmps115
   obtain⟨i0,hi,hz0,hz1,hz2⟩:=info_parts infoItem
   go_wp2_with (
    at_builtin
    refine wpList_append_row rfl _ _ _ rfl 89 i0 (.agg #[.slice none 0 0,.slice none 0 0,.int .i64 0,.int .i64 0]) 4 64 Tryz.underlying81 hi hz0 hz1 hz2 rfl _ _ _ rfl HF.out h HH.out _ _ _ rfl HX.out HO.out (by simp only [maxLen];omega) (by omega) ?_
    intro v' w1 hsat hgr _
    have HSAT:=hQ hsat
    clear hsat)
   go_ret;refine⟨_,rfl,?_,((Stays.refl w).alloc _).of_grown hgr⟩;have h1:=HSAT.out;rw [Nat.zero_add,List.nil_append] at h1;exact h1
theorem zip_set_l {α β:Type}:∀(xs:List α) (l:List β) (k:Nat) (v:α) (h:k<l.length),(xs.zip l).set k (v,l[k])=(xs.set k v).zip l
 | [],l,k,v,h=>by simp
 | x :: xs,[],k,v,h=>absurd h (by simp)
 | x :: xs,y :: l,0,v,h=>by simp
 | x :: xs,y :: l,k+1,v,h=>by
   have:=zip_set_l xs l k v (by simpa using h)
   simp only [List.zip_cons_cons,List.set_cons_succ,List.getElem_cons_succ,this]
theorem itRow_rd {b c k:Nat}{xs:List (Value × Value)}{l:List ItemV}{F:Pr}{w:World}(h:Sat ((ItRow (.slice (some ⟨b,0,none⟩) l.length c) xs l).star F) w)(hx:k<xs.length)(hl:k<l.length):
 (w.cell? ⟨b,k*4,none⟩=some xs[k].1∧w.cell? ⟨b,k*4+1,none⟩=some xs[k].2∧w.cell? ⟨b,k*4+2,none⟩=some (.int .i64 l[k].child)∧w.cell? ⟨b,k*4+3,none⟩=some (.int .i64 l[k].size))∧
   (w.frozen? ⟨b,k*4,none⟩=false∧w.frozen? ⟨b,k*4+1,none⟩=false):=by
 obtain⟨a',c',e,_,hc⟩:=Row.read h;cases e;obtain⟨b',eb,hc⟩:=hc (by omega);cases eb
 have at':∀j,j<4→w.cell? ⟨b,k*4+j,none⟩=(itCells (xs[k],l[k]))[j]? ∧w.frozen? ⟨b,k*4+j,none⟩=false:=by
  intro j hj;obtain⟨h1,h2⟩:=hc (k*4+j) (by omega);refine⟨h1.trans ?_,h2⟩;rw [flat_at itCells 4 (fun _=>rfl) (xs.zip l) k j (by simp;omega) hj];simp
 exact⟨⟨(at' 0 (by omega)).1,(at' 1 (by omega)).1,(at' 2 (by omega)).1,(at' 3 (by omega)).1⟩,(at' 0 (by omega)).2,(at' 1 (by omega)).2⟩
theorem itRow_key {b c k:Nat}{xs:List (Value × Value)}{l:List ItemV}{F:Pr}{w:World}(h:Sat ((ItRow (.slice (some ⟨b,0,none⟩) l.length c) xs l).star F) w)(hx:k<xs.length)(hl:k<l.length)(v:Value):
 Sat ((ItRow (.slice (some ⟨b,0,none⟩) l.length c) (xs.set k (v,xs[k].2)) l).star F) (w.setCell ⟨b,k*4,none⟩ v):=by
 have hz:k<(xs.zip l).length:=by simp;omega
 have hlen:=flat_len itCells 4 (fun _=>rfl) (xs.zip l);have h1:=Row.set h (k*4) (by rw [hlen];omega) v;have e:=flat_set itCells 4 (fun _=>rfl) 0 v ((v,xs[k].2),l[k]) (by omega) (xs.zip l) k hz (by simp [itCells]);rw [Nat.add_zero,zip_set_l _ _ _ _ hl] at e;rw [e] at h1;exact h1
theorem itRow_val {b c k:Nat}{xs:List (Value × Value)}{l:List ItemV}{F:Pr}{w:World}(h:Sat ((ItRow (.slice (some ⟨b,0,none⟩) l.length c) xs l).star F) w)(hx:k<xs.length)(hl:k<l.length)(v:Value):
 Sat ((ItRow (.slice (some ⟨b,0,none⟩) l.length c) (xs.set k (xs[k].1,v)) l).star F) (w.setCell ⟨b,k*4+1,none⟩ v):=by
 have hz:k<(xs.zip l).length:=by simp;omega
 have hlen:=flat_len itCells 4 (fun _=>rfl) (xs.zip l);have h1:=Row.set h (k*4+1) (by rw [hlen];omega) v;have e:=flat_set itCells 4 (fun _=>rfl) 1 v ((xs[k].1,v),l[k]) (by omega) (xs.zip l) k hz (by simp [itCells]);rw [zip_set_l _ _ _ _ hl] at e;rw [e] at h1;exact h1
structure Part(hk:Hp)(xs0 xs:List (Value × Value))(l:List ItemV)(k:Nat):Prop where
 len:xs.length=l.length
 new:∀i (hx:i<xs.length) (hl:i<l.length),i<k→Bytes hk xs[i].1 l[i].key∧Bytes hk xs[i].2 l[i].value
 old:∀i,k≤i→xs[i]? =xs0[i]?
theorem Part.step {hk h':Hp}(hd:hk.dis h'){xs0 xs:List (Value × Value)}{l:List ItemV}{k:Nat}(hp:Part hk xs0 xs l k)(hl:k<l.length){v1 v2:Value}(h1:Bytes h' v1 l[k].key)(h2:Bytes h' v2 l[k].value):
 Part (hk.un h') xs0 (xs.set k (v1,v2)) l (k+1):=by
 refine⟨by simp [hp.len],fun i hx hl2 hik=> ?_,fun i hik=> ?_⟩
 · by_cases he:i=k
   · subst he
     simp only [List.getElem_set_self];exact⟨h1.sub (Hp.sub_un_right hd),h2.sub (Hp.sub_un_right hd)⟩
   · rw [List.getElem_set_ne (by omega)]
     obtain⟨y1,y2⟩:=hp.new i (by simpa using hx) hl2 (by omega);exact⟨y1.sub (Hp.sub_un_left _ _),y2.sub (Hp.sub_un_left _ _)⟩
 · rw [List.getElem?_set_ne (by omega)]
   exact hp.old i (by omega)
theorem two_arena {v1 v2:Value}{l1 l2:List Int}{F:Pr}{w:World}(h:Sat ((BytesRow v1 l1).star ((BytesRow v2 l2).star F)) w):∃h',Bytes h' v1 l1∧Bytes h' v2 l2∧Sat ((Pr.own h').star F) w:=by
 rw [← Pr.star_assoc] at h;obtain⟨h',hq,hs⟩:=h.toOwn;obtain⟨a,b,ha,hb,s1,s2⟩:=star_sub hq;exact⟨h',(Row.rowIn ha).sub s1,(Row.rowIn hb).sub s2,hs⟩
theorem copied_any(h:Hp)(v:Value)(g:PageV)(hv:PageIn h v g)(hn:g.items.length≤65536)(hb:∀x∈g.items,x.key.length≤65536∧x.value.length≤65536)(hd:g.data.length≤65536)(F:Pr)(w:World)(hF:Sat ((Pr.own h).star F) w):
 Calls Tryz.prog 73 #[v] w fun e w'=> ∃v' h',e= .returned v'∧PageIn h' v' g∧Sat ((Pr.own h').star ((Pr.own h).star F)) w'∧Stays w w':=by
 obtain⟨vi,vd,rfl,hi,hdd⟩:=hv;obtain⟨k0,l0,its,dat,nx⟩:=g;dsimp only at*;obtain⟨xs,hxl,hrow,hbb⟩:=id hi;have hits:ItsAt h xs its:=⟨hxl,hbb⟩;obtain⟨ai,ci,rfl,_,_⟩:=items_rd hi;obtain⟨ad,cd,rfl⟩:=bytes_shape hdd;have h1:=(hF.alloc (pageC k0 l0 (.slice ai its.length ci) (.slice ad dat.length cd) nx)).alloc (pageC 0 0 (.slice none 0 0) (.slice none 0 0) 0)
 rw [show (w.alloc (pageC k0 l0 (.slice ai its.length ci) (.slice ad dat.length cd) nx)).heap.size=w.heap.size+1 by simp] at h1;have h2:=h1.drew.perm (B:=(Pr.own h).star ((Pr.pts w.heap.size (pageC k0 l0 (.slice ai its.length ci) (.slice ad dat.length cd) nx)).star ((Pr.pts (w.heap.size+1) (pageC 0 0 (.slice none 0 0) (.slice none 0 0) 0)).star F))) (by ac_rfl)
 have CI:=hQ (clone_items h _ xs its hits hrow hn _ _ h2);have HD:=hQ hdd;have HN:=hQ hd;have HB:=hQ hb;have HIT:=hQ hits;have HST:=hQ (((Stays.refl w).alloc (pageC k0 l0 (.slice ai its.length ci) (.slice ad dat.length cd) nx)).alloc (pageC 0 0 (.slice none 0 0) (.slice none 0 0) 0)).drew;clear h1 h2 hi hdd hF hd hb hits hrow hbb;go_enter Tryz.func73,Tryz.ntmps73
 go_wp2_with fail
 refine wS 39 [0,1,3,4] [(2,[6],[0,3,4]),(5,[],[0,3,6]),(7,[8],[]),(9,[],[])] ?_;refine wpQ_all _ rfl rfl ?_;simp only [pick,pQ];iterate 4 (go_big_quiet_step (fail))
 refine wpQuiet_nil ?_;refine wpRest_act rfl ?_;go_wp2_with fail
 refine CI.out.mono ?_;rintro e w1 ⟨v1,rfl,hs2,st2⟩;obtain⟨a1,c1,e1,_,_⟩:=Row.read hs2;subst e1;have hs3:Sat ((Pr.own h).star ((Pr.pts w.heap.size (pageC k0 l0 (.slice ai its.length ci) (.slice ad dat.length cd) nx)).star ((Pr.pts (w.heap.size+1) (pageC 0 0 (.slice none 0 0) (.slice none 0 0) 0)).star ((ItRow (.slice a1 its.length c1) xs its).star F)))) w1:=hs2.perm (by ac_rfl)
 obtain⟨q0,q1,q2,q3,q4,_,z0⟩:=pts5 hs3.right;have CB2:=hQ (clone_bytes h _ dat _ _ hs3 hs3.own HD.out HN.out);have HST2:=hQ (HST.out.trans st2);clear hs2 hs3 st2 CI HD;go_wp2;refine onN_mk ?_;refine wpQ_all _ rfl rfl ?_;simp only [pick,pQ];iterate 1 (go_big_quiet_step (fail))
 refine wpQuiet_nil ⟨?_,?_⟩
 · exact cQ
 refine wpRest_act rfl ?_;go_wp2_with fail
 refine CB2.out.mono ?_;rintro e w2 ⟨v2,rfl,hs4,st4⟩;obtain⟨a2,c2,e2,_,_⟩:=Row.read hs4;subst e2
 have hs5:Sat ((Pr.pts w.heap.size (pageC k0 l0 (.slice ai its.length ci) (.slice ad dat.length cd) nx)).star ((Pr.pts (w.heap.size+1) (pageC 0 0 (.slice none 0 0) (.slice none 0 0) 0)).star ((BytesRow (.slice a2 dat.length c2) dat).star ((ItRow (.slice a1 its.length c1) xs its).star ((Pr.own h).star F))))) w2:=hs4.perm (by ac_rfl);clear q0 q1 q2 q3 q4 z0
 obtain⟨q0,q1,q2,q3,q4,⟨f0,f1,f2,f3,f4⟩,z0⟩:=pts5 hs5;have H5:=hQ hs5;have HST4:=hQ (HST2.out.trans st4);clear hs4 hs5 st4 CB2;go_wp2;refine onN_mk ?_;refine wpQ_nil ⟨?_,?_⟩
 · exact cQ
 refine wpRest_act rfl ?_;go_wp2;refine onN_mk ?_;refine wpQ_all _ rfl rfl ?_;simp only [pick,pQ];iterate 1 (go_big_quiet_step (fail))
 refine wpQuiet_nil ⟨?_,?_⟩
 · exact chk_nil
 refine wpRest_act rfl ?_;go_wp2;refine onN_mk (wpQ_nil ⟨chk_nil,wpRest_nil ?_⟩);have s6:=(H5.out.setCell (i:=2) (.slice a1 its.length c1)).setCell (i:=3) (.slice a2 dat.length c2)
 have s7:Sat ((Pr.pts w.heap.size (pageC k0 l0 (.slice a1 its.length c1) (.slice a2 dat.length c2) nx)).star ((Pr.pts (w.heap.size+1) (pageC 0 0 (.slice none 0 0) (.slice none 0 0) 0)).star ((BytesRow (.slice a2 dat.length c2) dat).star ((ItRow (.slice a1 its.length c1) xs its).star ((Pr.own h).star F))))) _:=s6
 have hst6:=(HST4.out.setCell ⟨w.heap.size,2,none⟩ (.slice a1 its.length c1)).setCell ⟨w.heap.size,3,none⟩ (.slice a2 dat.length c2);generalize (w2.setCell ⟨w.heap.size,2,none⟩ (.slice a1 its.length c1)).setCell ⟨w.heap.size,3,none⟩ (.slice a2 dat.length c2)=w5 at*;clear q0 q1 q2 q3 q4 z0 f0 f1 f2 f3 f4 H5 HST4;obtain⟨q0,q1,q2,q3,q4,_,z0⟩:=pts5 s7;have H7:=hQ s7;have HST6:=hQ hst6;clear s6 s7 hst6
 have hn0:(its.length:Int)≤65536:=by omega
 go_wp2_with fail
 go_loopw [16] (fun i wr=> ∃(k:Nat) (hk:Hp) (ys:List (Value × Value)),k≤its.length∧i= .int .i64 k∧Stays w wr∧Hid (Part hk xs ys its k)∧
  Sat ((Pr.pts w.heap.size (pageC k0 l0 (.slice a1 its.length c1) (.slice a2 dat.length c2) nx)).star ((Pr.pts (w.heap.size+1) (pageC 0 0 (.slice none 0 0) (.slice none 0 0) 0)).star ((ItRow (.slice a1 its.length c1) ys its).star ((Pr.own hk).star ((BytesRow (.slice a2 dat.length c2) dat).star ((Pr.own h).star F)))))) wr) (fun i _=>its.length-(intOf i).toNat)
 case atStart=>
  refine⟨0,Hp.nil,xs,Nat.zero_le _,rfl,HST6.out,hQ ⟨HIT.out.len,fun i _ _ h=>absurd h (by omega),fun _ _=>rfl⟩,?_⟩;rw [own_nil,Pr.emp_star];exact H7.out.perm (by ac_rfl)
 case round=>
  obtain⟨k,hk,ys,hkl,rfl,hst,hpart,hs⟩:=hrel;clear q0 q1 q2 q3 q4 z0;rcases Nat.lt_or_ge k its.length with hlt | hge
  · have hylen:=hpart.out.len
    have hky:k<ys.length:=by omega
    have hkx:k<xs.length:=by have:=HIT.out.len;omega
    have eyk:ys[k]=xs[k]:=by
     have:=hpart.out.old k (Nat.le_refl _)
     rw [List.getElem?_eq_getElem hky,List.getElem?_eq_getElem hkx] at this;exact Option.some.inj this
    obtain⟨hb1,hb2⟩:=HIT.out.at' k hkx hlt;obtain⟨hn1,hn2⟩:=HB.out its[k] (List.getElem_mem hlt);rw [← eyk] at hb1 hb2;obtain⟨ak,ck,ek⟩:=bytes_shape hb1;obtain⟨av,cv,ev⟩:=bytes_shape hb2
    have hr0:=hs.perm (B:=(ItRow (.slice a1 its.length c1) ys its).star ((Pr.pts w.heap.size (pageC k0 l0 (.slice a1 its.length c1) (.slice a2 dat.length c2) nx)).star ((Pr.pts (w.heap.size+1) (pageC 0 0 (.slice none 0 0) (.slice none 0 0) 0)).star ((Pr.own hk).star ((BytesRow (.slice a2 dat.length c2) dat).star ((Pr.own h).star F)))))) (by ac_rfl)
    have ha1:∃b,a1=some ⟨b,0,none⟩:=by
     obtain⟨_,_,e,_,hc⟩:=Row.read hr0;cases e;obtain⟨b,e,_⟩:=hc (by omega);exact⟨b,e⟩
    obtain⟨b,rfl⟩:=ha1;obtain⟨⟨r0,r1,r2,r3⟩,_⟩:=itRow_rd hr0 hky hlt;rw [ek] at r0 hb1;rw [ev] at r1 hb2;have hA0:=(hs.alloc (itemC (.slice ak its[k].key.length ck) (.slice av its[k].value.length cv) its[k].child its[k].size)).drew
    have HRST:=hQ (show Sat ((Pr.pts wr.heap.size (itemC (.slice ak its[k].key.length ck) (.slice av its[k].value.length cv) its[k].child its[k].size)).star ((Pr.pts w.heap.size (pageC k0 l0 (.slice (some ⟨b,0,none⟩) its.length c1) (.slice a2 dat.length c2) nx)).star ((Pr.own h).star ((ItRow (.slice (some ⟨b,0,none⟩) its.length c1) ys its).star ((Pr.pts (w.heap.size+1) (pageC 0 0 (.slice none 0 0) (.slice none 0 0) 0)).star ((Pr.own hk).star ((BytesRow (.slice a2 dat.length c2) dat).star F))))))) _ from hA0.perm (by ac_rfl))
    obtain⟨q0,q1,q2,q3,q4,_,z0⟩:=pts5 hs;have CK:=hQ (clone_bytes h _ its[k].key _ _ HRST.out HRST.out.right.right.own hb1 hn1);have HB2:=hQ hb2;have HSTR:=hQ ((hst.alloc (itemC (.slice ak its[k].key.length ck) (.slice av its[k].value.length cv) its[k].child its[k].size)).drew);have z1:w.heap.size<wr.heap.size:=hs.lt;have HPART:=hQ hpart.out;have HEV:=hQ ev;have HEK:=hQ ek
    clear hs hr0 hA0 hb1 hb2 hst hpart eyk ek ev;go_wp2_with fail
    refine wS 39 [0,1,2,3,4,5,6,7,9,10] [(8,[],[0,1,2,3,4,5,6,9,10]),(11,[12,13],[0,1,2,3,4,5,6,9]),(14,[15,16],[3,4,5,9,12]),(17,[],[15])] ?_;refine wpQ_all _ rfl rfl ?_;simp only [pick,pQ];iterate 10 (go_big_quiet_step (fail))
    refine wpQuiet_nil ?_;refine wpRest_act rfl ?_;go_wp2_with fail
    refine CK.out.mono ?_;rintro e w3 ⟨v3,rfl,hs3,st3⟩;obtain⟨a3,c3,e3,_,_⟩:=Row.read hs3;subst e3
    have H3:=hQ (show Sat ((Pr.pts wr.heap.size (itemC (.slice ak its[k].key.length ck) (.slice av its[k].value.length cv) its[k].child its[k].size)).star ((Pr.pts w.heap.size (pageC k0 l0 (.slice (some ⟨b,0,none⟩) its.length c1) (.slice a2 dat.length c2) nx)).star ((Pr.own h).star ((BytesRow (.slice a3 its[k].key.length c3) its[k].key).star ((ItRow (.slice (some ⟨b,0,none⟩) its.length c1) ys its).star ((Pr.pts (w.heap.size+1) (pageC 0 0 (.slice none 0 0) (.slice none 0 0) 0)).star ((Pr.own hk).star ((BytesRow (.slice a2 dat.length c2) dat).star F)))))))) w3 from hs3.perm (by ac_rfl))
    have HST3:=hQ (HSTR.out.trans st3);clear q0 q1 q2 q3 q4 z0 r0 r1 r2 r3 CK hs3 st3 HRST;obtain⟨q0,q1,q2,q3,q4,_,z0⟩:=pts5 H3.out.right;obtain⟨i0,i1,i2,i3,_,z2⟩:=pts4 H3.out;have CV:=hQ (clone_bytes h _ its[k].value _ _ H3.out H3.out.right.right.own HB2.out hn2);go_wp2;refine onN_mk ?_;refine wpQ_nil ⟨?_,?_⟩
    · exact cQ
    refine wpRest_act rfl ?_;go_wp2_with fail
    refine CV.out.mono ?_;rintro e w4 ⟨v4,rfl,hs4,st4⟩;obtain⟨a4,c4,e4,_,_⟩:=Row.read hs4;subst e4
    have H4:=hQ (show Sat ((Pr.pts wr.heap.size (itemC (.slice ak its[k].key.length ck) (.slice av its[k].value.length cv) its[k].child its[k].size)).star ((Pr.pts w.heap.size (pageC k0 l0 (.slice (some ⟨b,0,none⟩) its.length c1) (.slice a2 dat.length c2) nx)).star ((Pr.own h).star ((BytesRow (.slice a3 its[k].key.length c3) its[k].key).star ((BytesRow (.slice a4 its[k].value.length c4) its[k].value).star ((ItRow (.slice (some ⟨b,0,none⟩) its.length c1) ys its).star ((Pr.pts (w.heap.size+1) (pageC 0 0 (.slice none 0 0) (.slice none 0 0) 0)).star ((Pr.own hk).star ((BytesRow (.slice a2 dat.length c2) dat).star F))))))))) w4 from hs4.perm (by ac_rfl))
    have HST4:=hQ (HST3.out.trans st4);clear q0 q1 q2 q3 q4 z0 i0 i1 i2 i3 z2 CV hs4 st4 H3;obtain⟨q0,q1,q2,q3,q4,_,z0⟩:=pts5 H4.out.right;obtain⟨i0,i1,i2,i3,_,z2⟩:=pts4 H4.out
    have R4:=hQ (show Sat ((ItRow (.slice (some ⟨b,0,none⟩) its.length c1) ys its).star ((Pr.pts wr.heap.size (itemC (.slice ak its[k].key.length ck) (.slice av its[k].value.length cv) its[k].child its[k].size)).star ((Pr.pts w.heap.size (pageC k0 l0 (.slice (some ⟨b,0,none⟩) its.length c1) (.slice a2 dat.length c2) nx)).star ((BytesRow (.slice a3 its[k].key.length c3) its[k].key).star ((BytesRow (.slice a4 its[k].value.length c4) its[k].value).star ((Pr.own h).star ((Pr.pts (w.heap.size+1) (pageC 0 0 (.slice none 0 0) (.slice none 0 0) 0)).star ((Pr.own hk).star ((BytesRow (.slice a2 dat.length c2) dat).star F))))))))) w4 from H4.out.perm (by ac_rfl))
    obtain⟨⟨r0,r1,r2,r3⟩,g0,g1⟩:=itRow_rd R4.out hky hlt;go_wp2;refine onN_mk ?_;refine wpQ_all _ rfl rfl ?_;simp only [pick,pQ];iterate 2 (go_big_quiet_step (fail))
    refine wpQuiet_nil ⟨?_,?_⟩
    · exact cQ
    refine wpRest_act rfl ?_;go_wp2;have s5:=itRow_key R4.out hky hlt (.slice a3 its[k].key.length c3);have t5:=HST4.out.setCell ⟨b,k*4,none⟩ (.slice a3 its[k].key.length c3);generalize w4.setCell ⟨b,k*4,none⟩ (.slice a3 its[k].key.length c3)=w5' at*;have hky2:k<(ys.set k (.slice a3 its[k].key.length c3,ys[k].2)).length:=by simpa using hky
    have R5:=hQ s5;have HST5:=hQ t5;clear q0 q1 q2 q3 q4 z0 i0 i1 i2 i3 z2 r0 r1 r2 r3 g0 g1 s5 t5 R4 H4;obtain⟨q0,q1,q2,q3,q4,_,z0⟩:=pts5 R5.out.right.right;obtain⟨i0,i1,i2,i3,_,z2⟩:=pts4 R5.out.right;obtain⟨⟨r0,r1,r2,r3⟩,g0,g1⟩:=itRow_rd R5.out hky2 hlt;refine onN_mk ?_;refine wpQ_all _ rfl rfl ?_;simp only [pick,pQ];iterate 2 (go_big_quiet_step (fail))
    refine wpQuiet_nil ⟨?_,?_⟩
    · exact cQ
    refine wpRest_act rfl ?_;go_wp2;have s6:=itRow_val R5.out hky2 hlt (.slice a4 its[k].value.length c4);have t6:=HST5.out.setCell ⟨b,k*4+1,none⟩ (.slice a4 its[k].value.length c4);generalize w5'.setCell ⟨b,k*4+1,none⟩ (.slice a4 its[k].value.length c4)=w6' at*;rw [List.set_set,List.getElem_set_self] at s6;have R6:=hQ s6;have HST6':=hQ t6
    clear q0 q1 q2 q3 q4 z0 i0 i1 i2 i3 z2 r0 r1 r2 r3 g0 g1 s6 t6 R5;obtain⟨q0,q1,q2,q3,q4,_,z0⟩:=pts5 R6.out.right.right;refine onN_mk ?_;refine wpQ_nil ⟨?_,?_⟩
    · exact cQ
    refine wpRest_nil ?_;go_wp2;go_roundw
    case rel=>
     have h8:=R6.out.perm (B:=(BytesRow (.slice a3 its[k].key.length c3) its[k].key).star ((BytesRow (.slice a4 its[k].value.length c4) its[k].value).star ((Pr.own hk).star ((Pr.pts wr.heap.size (itemC (.slice ak its[k].key.length ck) (.slice av its[k].value.length cv) its[k].child its[k].size)).star ((ItRow (.slice (some ⟨b,0,none⟩) its.length c1) (ys.set k (.slice a3 its[k].key.length c3,.slice a4 its[k].value.length c4)) its).star ((Pr.pts w.heap.size (pageC k0 l0 (.slice (some ⟨b,0,none⟩) its.length c1) (.slice a2 dat.length c2) nx)).star ((Pr.own h).star ((Pr.pts (w.heap.size+1) (pageC 0 0 (.slice none 0 0) (.slice none 0 0) 0)).star ((BytesRow (.slice a2 dat.length c2) dat).star F))))))))) (by ac_rfl)
     obtain⟨h',y1,y2,h9⟩:=two_arena h8
     have h10:=h9.perm (B:=(Pr.own hk).star ((Pr.own h').star ((Pr.pts wr.heap.size (itemC (.slice ak its[k].key.length ck) (.slice av its[k].value.length cv) its[k].child its[k].size)).star ((ItRow (.slice (some ⟨b,0,none⟩) its.length c1) (ys.set k (.slice a3 its[k].key.length c3,.slice a4 its[k].value.length c4)) its).star ((Pr.pts w.heap.size (pageC k0 l0 (.slice (some ⟨b,0,none⟩) its.length c1) (.slice a2 dat.length c2) nx)).star ((Pr.own h).star ((Pr.pts (w.heap.size+1) (pageC 0 0 (.slice none 0 0) (.slice none 0 0) 0)).star ((BytesRow (.slice a2 dat.length c2) dat).star F)))))))) (by ac_rfl)
     obtain⟨hdis,h11⟩:=h10.own_join;refine⟨k+1,hk.un h',_,by omega,congrArg (Value.int .i64) (by omega),HST6'.out,hQ (HPART.out.step hdis hlt y1 y2),?_⟩;refine(h11.perm (B:=(Pr.pts wr.heap.size (itemC (.slice ak its[k].key.length ck) (.slice av its[k].value.length cv) its[k].child its[k].size)).star _) (Pr.left_comm _ _ _)).right.perm (by ac_rfl)
    case measure=>simp [intOf];omega
  · have hkl2:k=its.length:=by omega
    subst hkl2;obtain⟨q0,q1,q2,q3,q4,_,z0⟩:=pts5 hs;obtain⟨p0,p1,p2,p3,p4,⟨f0,f1,f2,f3,f4⟩,z1⟩:=pts5 hs.right;have HS:=hQ hs.right;have HSTR:=hQ hst;clear hs hst;go_wp2;have s6:=((((HS.out.setCell (i:=0) (.int .i64 k0)).setCell (i:=1) (.int .i64 l0)).setCell (i:=2) (.slice a1 its.length c1)).setCell (i:=3) (.slice a2 dat.length c2)).setCell (i:=4) (.int .i64 nx)
    have s7:Sat ((Pr.pts (w.heap.size+1) (pageC k0 l0 (.slice a1 its.length c1) (.slice a2 dat.length c2) nx)).star ((ItRow (.slice a1 its.length c1) ys its).star ((Pr.own hk).star ((BytesRow (.slice a2 dat.length c2) dat).star ((Pr.own h).star F))))) _:=s6;refine bodyPost_ret (results_cell_row rfl _ _ (w.heap.size+1) _ _ _ _ rfl s7.pts_heap Tryz.underlying83 rfl infoPage) rfl ?_
    have hp:=hpart.out;obtain⟨hh,hits2,s8⟩:=items_arena (l:=its) ⟨hp.len,fun i hx hl=>hp.new i hx hl hl⟩ s7.right;obtain⟨hpg,e1,e2⟩:=page_arena (g:=⟨k0,l0,its,dat,nx⟩) hits2 (s8.perm (Pr.left_comm _ _ _));exact⟨_,hpg,rfl,e1,e2,((((HSTR.out.setCell _ _).setCell _ _).setCell _ _).setCell _ _).setCell _ _⟩
end Go.Proofs.YtiegeadmgpanoaaGreatDoor.P5
