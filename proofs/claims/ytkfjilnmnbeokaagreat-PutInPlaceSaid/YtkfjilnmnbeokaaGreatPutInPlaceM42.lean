/- The program's add and replace: what is done at a leaf; the conditions stand as hypotheses. -/
import Derived.Test.YtkfjilnmnbeokaaGreatPutInPlaceM41
import Derived.Test.YtkfjilnmnbeokaaGreatPutInPlaceM40
import Derived.Test.YtkfjilnmnbeokaaGreatPutInPlaceM26
import Derived.Test.YtkfjilnmnbeokaaGreatPutInPlaceM22
import Derived.Test.YtkfjilnmnbeokaaGreatPutInPlaceM39
import Derived.Deep.LoopGhost
import Derived.Test.YtkfjilnmnbeokaaGreatPutInPlaceM01
set_option maxRecDepth 100000
set_option maxHeartbeats 16000000
namespace Go.Proofs.YtkfjilnmnbeokaaGreat.P9
open ChangeShapes WideShapes ChangeAt RowKit Sl Cop D2 J3 G2 J2 X3 Z3 Y3 M4 N4 D6 Y5 N6 Q6 J7 D8 G8 M7 P8 C7 W6 J9 K9 L9 U6 K6 G9
def AddPost(b v:Nat)(rt ht it:Int)(kv vv:Value)(x:ItemV)(ws:Bool)(s:VaultS)(n:Int)(g:PageV)(L:List Pr)(w:World)(e:Ending)(w':World):Prop:=Stays w w'∧∃er:Int,e= .returned (.int .i64 er)∧
 ((er=0∧∃s',WrR s n (insG g (searchK x.key g.items).1 x) s'∧OwnL (Pr.pts b (putC v rt ht (it+1) kv vv x.child x.size ws) :: VaultA v s' :: L) w')∨
  (er≠0∧WrE s n (insG g (searchK x.key g.items).1 x) er∧OwnL (Pr.pts b (putC v rt ht (it+1) kv vv x.child x.size ws) :: VaultA v s :: L) w'))
def RepPost(b v:Nat)(rt ht it:Int)(kv vv:Value)(x:ItemV)(ws:Bool)(s:VaultS)(n:Int)(g:PageV)(L:List Pr)(w:World)(e:Ending)(w':World):Prop:=Stays w w'∧∃er:Int,e= .returned (.int .i64 er)∧
 ((er=0∧(searchK x.key g.items).1<g.items.length∧∃s1 s',WrR s n (repG g (searchK x.key g.items).1 x) s1∧RelR s1 (itemAt g.items (searchK x.key g.items).1) s'∧OwnL (Pr.pts b (putC v rt ht it kv vv x.child x.size ws) :: VaultA v s' :: L) w')∨
  (er≠0∧((er=5∧g.items.length≤(searchK x.key g.items).1)∨WrE s n (repG g (searchK x.key g.items).1 x) er∨
    ((searchK x.key g.items).1<g.items.length∧∃(s1 t:VaultS),WrR s n (repG g (searchK x.key g.items).1 x) s1∧DropR s1.get [(itemAt g.items (searchK x.key g.items).1).child] s1.pool.counts er t.pool.counts))∧
    ∃s' q,After s q s'∧OwnL (Pr.pts b (putC v rt ht it kv vv x.child x.size ws) :: VaultA v s' :: L) w'))
theorem rel_split {v:Nat}{s1:VaultS}{old:ItemV}{F:Pr}{w':World}{e:Ending}(h4:(old.size≤32∧e= .returned (.int .i64 0)∧Sat ((VaultA v s1).star F) w')∨
 (32<old.size∧∃er t W,e= .returned (.int .i64 er)∧DropR s1.get [old.child] s1.pool.counts er t.pool.counts∧DInv s1 t W∧Far s1 t∧Sat ((if er=0 then VaultA v (t.acted ⟨s1.pool.mark,W⟩) else VaultA v s1).star F) w')):
 ∃er s3,e= .returned (.int .i64 er)∧Sat ((VaultA v s3).star F) w'∧((er=0∧RelR s1 old s3)∨(er≠0∧s3=s1∧∃t:VaultS,DropR s1.get [old.child] s1.pool.counts er t.pool.counts)):=by
 rcases h4 with⟨h5,rfl,h6⟩ | ⟨h5,er,t1,W,rfl,h6,h7,h8,h9⟩
 · exact⟨0,s1,rfl,h6,.inl ⟨rfl,.inl ⟨h5,rfl⟩⟩⟩
 · by_cases h0:er=0
   · subst h0
     rw [if_pos rfl] at h9;exact⟨0,_,rfl,h9,.inl ⟨rfl,.inr ⟨h5,t1,W,h6,h7,h8,rfl,(vault_ok h9).1⟩⟩⟩
   · rw [if_neg h0] at h9
     exact⟨er,_,rfl,h9,.inr ⟨h0,rfl,t1,h6⟩⟩
theorem pg_both {t:ToldX}{hb h:Hp}(hp:((PgOwn t).star (Pr.own hb)) h):PageIn h t.pv t.g∧hb.sub h:=by
 obtain⟨x,y,hx,hy,s1,s2⟩:=star_sub hp;obtain⟨vi,vd,e,h1,h2⟩:=pgOwn_in hx;obtain⟨xs,l1,r1,f1⟩:=h1;cases own_is hy;exact⟨⟨vi,vd,e,⟨xs,l1,r1.sub s1,fun k hk hl=>⟨(f1 k hk hl).1.sub s1,(f1 k hk hl).2.sub s1⟩⟩,h2.sub s1⟩,s2⟩
theorem ins_u8 {g:PageV}(hu:∀x∈g.items,U8 x.key)(i:Nat){x:ItemV}(ux:U8 x.key):∀y∈(insG g i x).items,U8 y.key:=fun y hy=>by
 simp only [insG,List.mem_append,List.mem_cons] at hy;rcases hy with hy | rfl | hy
 · exact hu y (List.mem_of_mem_take hy)
 · exact ux
 · exact hu y (List.mem_of_mem_drop hy)
theorem rep_u8 {g:PageV}(hu:∀x∈g.items,U8 x.key)(i:Nat){x:ItemV}(ux:U8 x.key):∀y∈(repG g i x).items,U8 y.key:=fun y hy=>by
 simp only [repG,List.mem_append,List.mem_cons] at hy;rcases hy with hy | rfl | hy
 · exact hu y (List.mem_of_mem_take hy)
 · exact ux
 · exact hu y (List.mem_of_mem_drop hy)
theorem add_any(b v:Nat)(rt ht it:Int)(kv vv:Value)(x:ItemV)(ws:Bool)(hb:Hp)(hk:Bytes hb kv x.key)(hv:Bytes hb vv x.value)(ux:U8 x.key)(fx:x.key.length≤65536∧x.value.length≤65536)(s:VaultS)(vi:VInv s)(n:Int)(t:ToldX)(on:s.on n=some t.g)(k:Nat)(rm:RoomV s (k+1))(h8:t.g.items.length<8)(hit:0≤it∧it<1099511627776)(F:Pr)(w:World)
 (hF:OwnL [Pr.pts b (putC v rt ht it kv vv x.child x.size ws),VaultA v s,PgOwn t,Pr.own hb,F] w):
 Calls Tryz.prog 37 #[.pointer (some ⟨b,0,none⟩),.int .i64 n,t.pv] w fun e w'=>AddPost b v rt ht it kv vv x ws s n t.g [Pr.own hb,F] w e w':=by
 have hcg:=vi.chk n t.g on;have fit:=fit_of_check hcg;have hug:=vi.u8 n t.g on;have hso:=page_sorted hcg;obtain⟨la,lc,ld,le,hpv⟩:=told_sh (hF.pull1 (A1:=PgOwn t));obtain⟨kka,kkc,rfl⟩:=bytes_shape hk;obtain⟨vva,vvc,rfl⟩:=bytes_shape hv;rw [hpv];dsimp only [pageV]
 have hs1:=(hF.alloc (pageC t.g.kind t.g.level (.slice la t.g.items.length lc) (.slice ld t.g.data.length le) t.g.next)).join2 (PgOwn t) (Pr.own hb);obtain⟨ar,har,hs2⟩:=hs1.arena ((PgOwn t).star (Pr.own hb));obtain⟨hp,hsub⟩:=pg_both har;rw [hpv] at hp;have SE:=search_any ar ar _ _ t.g hp fit hug x.key (hk.sub hsub) ux _ (hs2.drew.le (a:=ar)) (hs2.drew.le (a:=ar))
 have hil:=(search_spec x.key hso).1;obtain⟨i,hi⟩:∃i,i=(searchK x.key t.g.items).1:=⟨_,rfl⟩;obtain⟨found,hfound⟩:∃f,f=(searchK x.key t.g.items).2:=⟨_,rfl⟩;rw [← hi, ← hfound] at SE;rw [← hi] at hil;have SE:=hQ SE;have HS2:=hQ hs2.drew;have HST0:=hQ (((Stays.refl w).alloc (pageC t.g.kind t.g.level (.slice la t.g.items.length lc) (.slice ld t.g.data.length le) t.g.next)).drew);have c1:=hs2.facts
 simp only [CellsAt,Nat.reduceAdd,and_true] at c1;have HP:=hQ (And.intro hp (And.intro fit hug));have HX:=hQ (And.intro (hk.sub hsub) (And.intro (hv.sub hsub) (And.intro ux fx)));have HVR:=hQ (And.intro vi rm);have HI:=hQ hi;have HAR:=hQ har;clear hF hs1 hs2 hcg fit hug hso hk hv ux fx vi rm on hpv har hp hsub hi hfound;have H8:=hQ h8;clear h8;go_enter Tryz.func37,Tryz.ntmps37
 go_wp2_with fail
 refine wS 48 [0,1,2,3,4,5] [(6,[7,8,9,10,11],[1,2,3,4])] ?_;refine wpQ_all _ rfl rfl ?_;simp only [pick,pQ];iterate 6 (go_big_quiet_step (fail))
 refine wpQuiet_nil ?_;refine wpRest_act rfl ?_;go_wp2_with fail
 refine SE.out.mono ?_;rintro e w1 ⟨rfl,ho⟩;have hs3:=HS2.out.ext ho.heap;have IN:=insert_any ar _ t.g HP.out.1 HP.out.2.1 i hil (itemV (.slice kka x.key.length kkc) (.slice vva x.value.length vvc) x.child x.size) x ⟨_,_,rfl,HX.out.1,HX.out.2.1⟩ HX.out.2.2.2 _ _ (hs3.drew.pull1 (A1:=Pr.own ar));rw [if_pos H8.out] at IN;have IN:=hQ IN;clear c1;have c1:=hs3.facts
 simp only [CellsAt,Nat.reduceAdd,and_true] at c1;have HST1:=hQ (HST0.out.trans ho.st).drew;clear hs3 ho SE HS2 HST0;go_wp2;refine onN_mk ?_;refine wpQ_all _ rfl rfl ?_;simp only [pick,pQ];iterate 5 (go_big_quiet_step (fail))
 refine wpQuiet_nil ⟨?_,?_⟩
 · refine chk_all _ rfl rfl ?_
   simp only [pick,Sl.Same,pQ,and_true];repeat' (first | apply And.intro | (go_big_quiet_step (fail);exact wpQuiet_nil rfl))
 refine wpRest_nil ?_;go_wp2_with fail
 refine wS 48 [0,1,2,3,4,5] [(6,[7,8,9],[2,3,4]),(10,[11],[9])] ?_;refine wpQ_all _ rfl rfl ?_;simp only [pick,pQ];iterate 6 (go_big_quiet_step (fail))
 refine wpQuiet_nil ?_;refine wpRest_act rfl ?_;go_wp2_with fail
 refine IN.out.mono ?_;rintro e w2 ⟨st2,T2,rfl,eT2,hs4⟩;have hs5:=hs4.flat;obtain⟨ma,mc,md,me,hpv2⟩:=told_sh (hs5.pull1 (A1:=PgOwn T2));rw [hpv2];dsimp only [pageV]
 have hs6:=((((hs5.set w.heap.size 0 (.int .i64 T2.g.kind)).set w.heap.size 1 (.int .i64 T2.g.level)).set w.heap.size 2 (.slice ma T2.g.items.length mc)).set w.heap.size 3 (.slice md T2.g.data.length me)).set w.heap.size 4 (.int .i64 T2.g.next)
 have HST2:=hQ (((((((HST1.out.trans st2).setCell ⟨w.heap.size,0,none⟩ (.int .i64 T2.g.kind)).setCell ⟨w.heap.size,1,none⟩ (.int .i64 T2.g.level)).setCell ⟨w.heap.size,2,none⟩ (.slice ma T2.g.items.length mc)).setCell ⟨w.heap.size,3,none⟩ (.slice md T2.g.data.length me)).setCell ⟨w.heap.size,4,none⟩ (.int .i64 T2.g.next)).setCell ⟨b,3,none⟩ (.int .i64 (it+1))).drew
 have hs7:=hs6.set b 3 (.int .i64 (it+1));obtain⟨a2,ha2,hs8⟩:=hs7.arena (PgOwn T2);have hpi2:=pgOwn_in ha2;rw [hpv2] at hpi2;have hu2:∀y∈T2.g.items,U8 y.key:=by rw [eT2];exact ins_u8 HP.out.2.2 i HX.out.2.2.1
 have WR:=hQ (write_call v s k HVR.out.2 n a2 _ T2.g hpi2 hu2 _ _ (hs8.drew.pull2 (A1:=VaultA v s) (A2:=Pr.own a2)));clear c1;have c1:=hs5.facts;simp only [CellsAt,Nat.reduceAdd,and_true] at c1;have HE:=hQ eT2;clear hs4 hs5 hs6 hs7 hs8 ha2 hpi2 hu2 hpv2 eT2 st2 IN HST1;go_wp2;refine onN_mk ?_;refine wpQ_all _ rfl rfl ?_;simp only [pick,pQ];iterate 3 (go_big_quiet_step (fail))
 refine wpQuiet_nil ⟨?_,?_⟩
 · refine chk_all _ rfl rfl ?_
   simp only [pick,Sl.Same,pQ,and_true];repeat' (first | apply And.intro | (go_big_quiet_step (fail);exact wpQuiet_nil rfl))
 refine wpRest_act rfl ?_;go_wp2_with fail
 refine onN_mk ?_;refine wpQ_all _ rfl rfl ?_;simp only [pick,pQ];iterate 1 (go_big_quiet_step (fail))
 refine wpQuiet_nil ⟨?_,?_⟩
 · refine chk_all _ rfl rfl ?_
   simp only [pick,Sl.Same,pQ,and_true];repeat' (first | apply And.intro | (go_big_quiet_step (fail);exact wpQuiet_nil rfl))
 refine wpRest_nil ?_;go_wp2_with fail
 refine wS 48 [0,1,2,3,4,5] [(6,[7],[0,1,2])] ?_;refine wpQ_all _ rfl rfl ?_;simp only [pick,pQ];iterate 6 (go_big_quiet_step (fail))
 refine wpQuiet_nil ?_;refine wpRest_act rfl ?_;go_wp2_with fail
 refine WR.out.mono ?_;rintro e w3 h3;obtain⟨st3,er,s3,rfl,hs9,hFF⟩:=h3.split;have hs10:=((OwnL.of2 hs9).back ((PgOwn t).star (Pr.own hb)) HAR.out).norm;have HEND:=hQ (And.intro (HST2.out.trans st3) (And.intro hFF hs10));clear hs9 hs10 hFF h3 st3 WR HST2 c1;go_wp2;refine onN_mk ?_;refine wpQ_all _ rfl rfl ?_;simp only [pick,pQ];iterate 1 (go_big_quiet_step (fail))
 refine wpQuiet_nil ⟨?_,?_⟩
 · refine chk_all _ rfl rfl ?_
   simp only [pick,Sl.Same,pQ,and_true];repeat' (first | apply And.intro | (go_big_quiet_step (fail);exact wpQuiet_nil rfl))
 refine wpRest_nil ?_;go_wp2;go_ret;refine⟨HEND.out.1,er,rfl,?_⟩;rcases HEND.out.2.1 with⟨h4,h5⟩ | ⟨h4,rfl,h5⟩
 · refine .inl ⟨h4,s3,?_,HEND.out.2.2.to⟩
   rw [HE.out,HI.out] at h5;exact h5
 · refine .inr ⟨h4,?_,HEND.out.2.2.to⟩
   rw [HE.out,HI.out] at h5;exact h5
theorem rep_any(b v:Nat)(rt ht it:Int)(kv vv:Value)(x:ItemV)(ws:Bool)(hb:Hp)(hk:Bytes hb kv x.key)(hv:Bytes hb vv x.value)(ux:U8 x.key)(fx:x.key.length≤65536∧x.value.length≤65536)(s:VaultS)(vi:VInv s)(n:Int)(t:ToldX)(on:s.on n=some t.g)(k:Nat)(rm:RoomV s (k+2))(F:Pr)(w:World)
 (hF:OwnL [Pr.pts b (putC v rt ht it kv vv x.child x.size ws),VaultA v s,PgOwn t,Pr.own hb,F] w):
 Calls Tryz.prog 38 #[.pointer (some ⟨b,0,none⟩),.int .i64 n,t.pv] w fun e w'=>RepPost b v rt ht it kv vv x ws s n t.g [Pr.own hb,F] w e w':=by
 have hcg:=vi.chk n t.g on;have fit:=fit_of_check hcg;have hug:=vi.u8 n t.g on;have hso:=page_sorted hcg;obtain⟨la,lc,ld,le,hpv⟩:=told_sh (hF.pull1 (A1:=PgOwn t));obtain⟨kka,kkc,rfl⟩:=bytes_shape hk;obtain⟨vva,vvc,rfl⟩:=bytes_shape hv;rw [hpv];dsimp only [pageV]
 have hs1:=(hF.alloc (pageC t.g.kind t.g.level (.slice la t.g.items.length lc) (.slice ld t.g.data.length le) t.g.next)).join2 (PgOwn t) (Pr.own hb);obtain⟨ar,har,hs2⟩:=hs1.arena ((PgOwn t).star (Pr.own hb));obtain⟨hp,hsub⟩:=pg_both har;rw [hpv] at hp;have SE:=search_any ar ar _ _ t.g hp fit hug x.key (hk.sub hsub) ux _ (hs2.drew.le (a:=ar)) (hs2.drew.le (a:=ar))
 have hil:=(search_spec x.key hso).1;obtain⟨i,hi⟩:∃i,i=(searchK x.key t.g.items).1:=⟨_,rfl⟩;obtain⟨found,hfound⟩:∃f,f=(searchK x.key t.g.items).2:=⟨_,rfl⟩;rw [← hi, ← hfound] at SE;rw [← hi] at hil;have SE:=hQ SE;have HS2:=hQ hs2.drew;have HST0:=hQ (((Stays.refl w).alloc (pageC t.g.kind t.g.level (.slice la t.g.items.length lc) (.slice ld t.g.data.length le) t.g.next)).drew);have c1:=hs2.facts
 simp only [CellsAt,Nat.reduceAdd,and_true] at c1;have HP:=hQ (And.intro hp (And.intro fit hug));have HX:=hQ (And.intro (hk.sub hsub) (And.intro (hv.sub hsub) (And.intro ux fx)));have HVR:=hQ (And.intro vi rm);have HI:=hQ hi;have HAR:=hQ har;clear hF hs1 hs2 hcg fit hug hso hk hv ux fx vi rm on hpv har hp hsub hi hfound;go_enter Tryz.func38,Tryz.ntmps38
 go_wp2_with fail
 refine wS 57 [0,1,2,3,4,5] [(6,[7,8,9,10,11],[1,2,3,4])] ?_;refine wpQ_all _ rfl rfl ?_;simp only [pick,pQ];iterate 6 (go_big_quiet_step (fail))
 refine wpQuiet_nil ?_;refine wpRest_act rfl ?_;go_wp2_with fail
 refine SE.out.mono ?_;rintro e w1 ⟨rfl,ho⟩;have hs3:=HS2.out.ext ho.heap;clear c1;have c1:=hs3.facts;simp only [CellsAt,Nat.reduceAdd,and_true] at c1;have HST1:=hQ (HST0.out.trans ho.st);rcases Nat.lt_or_ge i t.g.items.length with hlt | hge
 · have hi3:¬((t.g.items.length:Int)≤i):=by omega
   have hi4:(i:Int)<t.g.items.length:=by omega
   obtain⟨_,_,hpe,hpi,_⟩:=id HP.out.1;cases hpe;obtain⟨_,_,epi,_,rd⟩:=items_rd hpi;cases epi;obtain⟨bi,off,ak,ck,av,cv,rfl,hbk,hbv,hcc⟩:=rd i hlt;obtain⟨d1,d2,d3,d4⟩:=hcc w1 (hs3.le (a:=ar));obtain⟨old,hold⟩:∃old,old=itemAt t.g.items i:=⟨_,rfl⟩;rw [← itemAt_get hlt, ← hold] at d1 d2 d3 d4 hbk hbv;have zb:=World.block_lt_of_cell? _ _ d1
   have hs4:=hs3.alloc (itemC (.slice ak old.key.length ck) (.slice av old.value.length cv) old.child old.size);have RP:=hQ (replace_any ar _ t.g HP.out.1 HP.out.2.1 i hlt (itemV (.slice kka x.key.length kkc) (.slice vva x.value.length vvc) x.child x.size) x ⟨_,_,rfl,HX.out.1,HX.out.2.1⟩ HX.out.2.2.2 _ _ (hs4.drew.pull1 (A1:=Pr.own ar)))
   have HST1B:=hQ (HST1.out.alloc (itemC (.slice ak old.key.length ck) (.slice av old.value.length cv) old.child old.size)).drew;have HOLD:=hQ (And.intro hold (And.intro hbk hbv));have HLT:=hQ hlt;have c0:=And.intro d1 (And.intro d2 (And.intro d3 (And.intro d4 zb)));clear hs3 hs4 ho SE HS2 HST0 HST1 hpi rd hcc hold hbk hbv hlt d1 d2 d3 d4 zb hil;go_wp2;refine onN_mk ?_;refine wpQ_all _ rfl rfl ?_
   simp only [pick,pQ];iterate 5 (go_big_quiet_step (fail))
   refine wpQuiet_nil ⟨?_,?_⟩
   · refine chk_all _ rfl rfl ?_
     simp only [pick,Sl.Same,pQ,and_true];repeat' (first | apply And.intro | (go_big_quiet_step (fail);exact wpQuiet_nil rfl))
   refine wpRest_nil ?_;go_wp2_with fail
   refine wS 57 [0,1,2,3,4,5] [(6,[7,8,9],[2,3,4]),(10,[],[9])] ?_;refine wpQ_all _ rfl rfl ?_;simp only [pick,pQ];iterate 6 (go_big_quiet_step (fail))
   refine wpQuiet_nil ?_;refine wpRest_act rfl ?_;go_wp2_with fail
   refine RP.out.mono ?_;rintro e w2 ⟨st2,T2,rfl,eT2,hs5⟩;have hs6:=hs5.flat;obtain⟨ma,mc,md,me,hpv2⟩:=told_sh (hs6.pull1 (A1:=PgOwn T2));rw [hpv2];dsimp only [pageV]
   have hs7:=((((hs6.set w.heap.size 0 (.int .i64 T2.g.kind)).set w.heap.size 1 (.int .i64 T2.g.level)).set w.heap.size 2 (.slice ma T2.g.items.length mc)).set w.heap.size 3 (.slice md T2.g.data.length me)).set w.heap.size 4 (.int .i64 T2.g.next)
   have HST2:=hQ ((((((HST1B.out.trans st2).setCell ⟨w.heap.size,0,none⟩ (.int .i64 T2.g.kind)).setCell ⟨w.heap.size,1,none⟩ (.int .i64 T2.g.level)).setCell ⟨w.heap.size,2,none⟩ (.slice ma T2.g.items.length mc)).setCell ⟨w.heap.size,3,none⟩ (.slice md T2.g.data.length me)).setCell ⟨w.heap.size,4,none⟩ (.int .i64 T2.g.next)).drew;obtain⟨a2,ha2,hs8⟩:=hs7.arena (PgOwn T2);have hpi2:=pgOwn_in ha2
   rw [hpv2] at hpi2;have hu2:∀y∈T2.g.items,U8 y.key:=by rw [eT2];exact rep_u8 HP.out.2.2 i HX.out.2.2.1
   have WR:=hQ (write_call v s (k+1) HVR.out.2 n a2 _ T2.g hpi2 hu2 _ _ (hs8.drew.pull2 (A1:=VaultA v s) (A2:=Pr.own a2)));clear c1 c0;have c1:=hs6.facts;simp only [CellsAt,Nat.reduceAdd,and_true] at c1;have HE:=hQ (And.intro eT2 hu2);clear hs5 hs6 hs7 hs8 ha2 hpi2 hu2 hpv2 eT2 st2 RP HST1B;go_wp2;refine onN_mk ?_;refine wpQ_all _ rfl rfl ?_;simp only [pick,pQ];iterate 3 (go_big_quiet_step (fail))
   refine wpQuiet_nil ⟨?_,?_⟩
   · refine chk_all _ rfl rfl ?_
     simp only [pick,Sl.Same,pQ,and_true];repeat' (first | apply And.intro | (go_big_quiet_step (fail);exact wpQuiet_nil rfl))
   refine wpRest_act rfl ?_;go_wp2_with fail
   refine onN_mk ?_;refine wpQ_nil ⟨?_,?_⟩
   · refine chk_all _ rfl rfl ?_
     simp only [pick,Sl.Same,pQ,and_true];repeat' (first | apply And.intro | (go_big_quiet_step (fail);exact wpQuiet_nil rfl))
   refine wpRest_nil ?_;go_wp2_with fail
   refine wS 57 [0,1,2,3,4,5] [(6,[7],[0,1,2])] ?_;refine wpQ_all _ rfl rfl ?_;simp only [pick,pQ];iterate 6 (go_big_quiet_step (fail))
   refine wpQuiet_nil ?_;refine wpRest_act rfl ?_;go_wp2_with fail
   refine WR.out.mono ?_;rintro e w3 ⟨st3,er,rfl,h3⟩;have HST3:=hQ (HST2.out.trans st3);rcases h3 with⟨rfl,s1,hw,hs9⟩ | ⟨hne,hwe,hs9⟩
   · have hs10:=OwnL.of2 hs9
     obtain⟨w1',w2',w3',w4',v1⟩:=wr_ext HVR.out.1 hw HE.out.2;obtain⟨rm1,q1⟩:=wr_room HVR.out.1.ok HVR.out.2 hw
     have RL:=hQ (release_any v s1 old ar (itemV (.slice ak old.key.length ck) (.slice av old.value.length cv) old.child old.size) ⟨_,_,rfl,HOLD.out.2.1,HOLD.out.2.2⟩ v1.bare (fun m g hg=>by have:=(fit_of_check (v1.chk m g hg)).n;omega) (by have:=rm1.pb;omega) (by have:=rm1.vb;omega) _ _ (hs10.drew.pull1 (A1:=VaultA v s1)));clear c1;have c1:=hs10.facts
     simp only [CellsAt,Nat.reduceAdd,and_true] at c1;have HW:=hQ (And.intro hw q1);have HST4:=hQ HST3.out.drew;clear hs9 hs10 hw w1' w2' w3' w4' v1 rm1 q1 WR HST2 HST3 st3;go_wp2;refine onN_mk ?_;refine wpQ_all _ rfl rfl ?_;simp only [pick,pQ];iterate 1 (go_big_quiet_step (fail))
     refine wpQuiet_nil ⟨?_,?_⟩
     · refine chk_all _ rfl rfl ?_
       simp only [pick,Sl.Same,pQ,and_true];repeat' (first | apply And.intro | (go_big_quiet_step (fail);exact wpQuiet_nil rfl))
     refine wpRest_nil ?_;go_wp2_with fail
     refine wS 57 [0,1,2,3,4] [(5,[6],[0,1,2])] ?_;refine wpQ_all _ rfl rfl ?_;simp only [pick,pQ];iterate 5 (go_big_quiet_step (fail))
     refine wpQuiet_nil ?_;refine wpRest_act rfl ?_;go_wp2_with fail
     refine RL.out.mono ?_;rintro e w4 ⟨st4,h4⟩;obtain⟨er,s3,rfl,hs11,hFF⟩:=rel_split h4;have hs12:=((OwnL.of1 hs11).back ((PgOwn t).star (Pr.own hb)) HAR.out).norm;have HEND:=hQ (And.intro (HST4.out.trans st4) (And.intro hFF hs12));clear hs11 hs12 hFF h4 st4 RL HST4 c1;go_wp2;refine onN_mk ?_;refine wpQ_all _ rfl rfl ?_;simp only [pick,pQ];iterate 1 (go_big_quiet_step (fail))
     refine wpQuiet_nil ⟨?_,?_⟩
     · refine chk_all _ rfl rfl ?_
       simp only [pick,Sl.Same,pQ,and_true];repeat' (first | apply And.intro | (go_big_quiet_step (fail);exact wpQuiet_nil rfl))
     refine wpRest_nil ?_;go_wp2;go_ret;have hww:=HW.out.1;rw [HE.out.1,HI.out] at hww;have hll:=HLT.out;rw [HI.out] at hll;refine⟨HEND.out.1,er,rfl,?_⟩;rcases HEND.out.2.1 with⟨h4,h5⟩ | ⟨h4,rfl,t1,h5⟩
     · rw [HOLD.out.1,HI.out] at h5
       exact .inl ⟨h4,hll,s1,s3,hww,h5,HEND.out.2.2.to⟩
     · rw [HOLD.out.1,HI.out] at h5
       exact .inr ⟨h4,.inr (.inr ⟨hll,_,t1,hww,h5⟩),_,_,HW.out.2,HEND.out.2.2.to⟩
   · have hs10:=((OwnL.of2 hs9).back ((PgOwn t).star (Pr.own hb)) HAR.out).norm
     have HEND:=hQ (And.intro (And.intro hne hwe) hs10);have hne':(er == 0)=false:=by simpa using hne
     clear hs9 hs10 hne hwe WR HST2 st3 c1;go_wp2;refine onN_mk ?_;refine wpQ_all _ rfl rfl ?_;simp only [pick,pQ];iterate 1 (go_big_quiet_step (fail))
     refine wpQuiet_nil ⟨?_,?_⟩
     · refine chk_all _ rfl rfl ?_
       simp only [pick,Sl.Same,pQ,and_true];repeat' (first | apply And.intro | (go_big_quiet_step (fail);exact wpQuiet_nil rfl))
     refine wpRest_nil ?_;go_wp2;go_ret;have hwe:=HEND.out.1.2;rw [HE.out.1,HI.out] at hwe;exact⟨HST3.out,er,rfl,.inr ⟨HEND.out.1.1,.inr (.inl hwe),s,[],.refl,HEND.out.2.to⟩⟩
 · have hi3:(t.g.items.length:Int)≤i:=by omega
   have hs4:=(hs3.back ((PgOwn t).star (Pr.own hb)) HAR.out).norm;have HEND:=hQ (And.intro hge hs4);clear hs3 hs4 ho SE HS2 HST0 hge hil;go_wp2;refine onN_mk ?_;refine wpQ_all _ rfl rfl ?_;simp only [pick,pQ];iterate 5 (go_big_quiet_step (fail))
   refine wpQuiet_nil ⟨?_,?_⟩
   · refine chk_all _ rfl rfl ?_
     simp only [pick,Sl.Same,pQ,and_true];repeat' (first | apply And.intro | (go_big_quiet_step (fail);exact wpQuiet_nil rfl))
   refine wpRest_nil ?_;go_wp2;go_ret;have hge:=HEND.out.1;rw [HI.out] at hge;exact⟨HST1.out,5,rfl,.inr ⟨by decide,.inl ⟨rfl,hge⟩,s,[],.refl,HEND.out.2.to⟩⟩
end Go.Proofs.YtkfjilnmnbeokaaGreat.P9
namespace Go.Cop
open Go.Proofs.YtkfjilnmnbeokaaGreat.D6 Go.Proofs.YtkfjilnmnbeokaaGreat.D8 Go.Proofs.YtkfjilnmnbeokaaGreat.M7 Go.Proofs.YtkfjilnmnbeokaaGreat.D2 Go.Proofs.YtkfjilnmnbeokaaGreat.J3 Go.Proofs.YtkfjilnmnbeokaaGreat.J7 Go.Proofs.YtkfjilnmnbeokaaGreat.Q3 Go.Proofs.YtkfjilnmnbeokaaGreat.P8 Go.Proofs.YtkfjilnmnbeokaaGreat.C7
def TreeR(s:VaultS)(rt ht it:Int)(x:ItemV)(ws:Bool)(s':VaultS)(rt' ht' it':Int):Prop:=
 (rt=0∧ws=false∧MkR s ⟨1,0,[x],[],0⟩ rt' s'∧ht'=1∧it'=1)∨(rt≠0∧∃s2,RootR s rt ht s2 rt' ht'∧LoopR x ws s2 rt' s'∧it'=it+(if ws then 0 else 1))
def TreeE(s:VaultS)(rt ht:Int)(x:ItemV)(ws:Bool)(er:Int):Prop:=
 (rt=0∧MkE s ⟨1,0,[x],[],0⟩ er)∨(rt≠0∧(RootE s rt ht er∨∃s2 n h',RootR s rt ht s2 n h'∧LoopE x ws s2 n er))
theorem root_few {s s':VaultS}{root ht n h':Int}{g':PageV}(hr:RootR s root ht s' n h')(on:s'.on n=some g'):g'.items.length<8:=by
 obtain⟨c,s1,m,sep,s2,h1,h2,h3⟩:=hr;rcases h3 with⟨rfl,rfl,rfl,_⟩ | ⟨h0,h3,_⟩
 · obtain⟨g,hg,(⟨h8,_,_,rfl⟩ | ⟨_,_,s3,h4,_⟩)⟩:=h2
   · rw [on] at hg;cases hg;exact h8
   · exfalso
     obtain⟨_,h5,_⟩:=h4;have:=(there_of_state (s:=s1.pool) (n:=0) (by have:=h5.1;omega)).1
     omega
 · obtain⟨_,_,rfl,_⟩:=h3
   have h4:(if n=n then some (topG ht c sep m) else s2.on n)=some g':=on;rw [if_pos rfl] at h4;cases h4;exact(by decide:2<8)
end Go.Cop
namespace Go.Proofs.YtkfjilnmnbeokaaGreat.Q9
open ChangeShapes WideShapes ChangeAt RowKit Sl Cop Deep D2 J3 G2 J2 X3 Z3 Y3 M4 N4 D6 Y5 N6 Q6 J7 D8 G8 M7 P8 C7 W6 J9 K9 L9 M9 N9 P9
def PutPost(b v:Nat)(rt ht it:Int)(kv vv:Value)(x:ItemV)(ws:Bool)(s:VaultS)(k:Nat)(L:List Pr)(w:World)(e:Ending)(w':World):Prop:=Stays w w'∧∃er:Int,e= .returned (.int .i64 er)∧
 ((er=0∧∃s' rt' ht' it',TreeR s rt ht it x ws s' rt' ht' it'∧RoomV s' k∧(∃q,After s q s')∧OwnL (Pr.pts b (putC v rt' ht' it' kv vv x.child x.size ws) :: VaultA v s' :: L) w')∨
  (er≠0∧TreeE s rt ht x ws er∧∃s' q rt' ht' it',After s q s'∧OwnL (Pr.pts b (putC v rt' ht' it' kv vv x.child x.size ws) :: VaultA v s' :: L) w'))
def WayI(b v:Nat)(rt ht it:Int)(kv vv:Value)(x:ItemV)(ws:Bool)(s:VaultS)(k:Nat)(L:List Pr)(kk:Nat)(n1 er1:Int)(wr:World):Prop:=
 (er1=0∧∃lv s3 g3 L3 S3 P3 rt' ht',kk=lv+1∧InH s3 lv n1 g3 L3 S3 P3∧g3.items.length<8∧RoomV s3 (k+4*lv+3)∧(∃q,After s q s3)∧(∀s',LoopR x ws s3 n1 s'→∃s2,RootR s rt ht s2 rt' ht'∧LoopR x ws s2 rt' s')∧(∀er,LoopE x ws s3 n1 er→TreeE s rt ht x ws er)∧OwnL (Pr.pts b (putC v rt' ht' it kv vv x.child x.size ws) :: VaultA v s3 :: L) wr)∨
 (er1≠0∧TreeE s rt ht x ws er1∧∃s3 q rt' ht',After s q s3∧OwnL (Pr.pts b (putC v rt' ht' it kv vv x.child x.size ws) :: VaultA v s3 :: L) wr)
theorem leaf_in {hb:Hp}{h:Hp}{b T:Nat}{kv vv:Value}{x:ItemV}(hk:Bytes hb kv x.key)(hv:Bytes hb vv x.value)(hp:((Pr.pts b (.cells [kv,vv,.int .i64 x.child,.int .i64 x.size].toArray T (0,0))).star (Pr.own hb)) h):
 PageIn h (pageV 1 0 (.slice (some ⟨b,0,none⟩) 1 1) (.slice none 0 0) 0) ⟨1,0,[x],[],0⟩:=by
 obtain⟨y,z,hy,hz,s1,s2⟩:=star_sub hp;cases own_is hz;exact⟨_,_,rfl,one_item hy s1 (hk.sub s2) (hv.sub s2),RowIn.nil _ _⟩
theorem put_leaf(b v:Nat)(f:FuncId)(ht it:Int)(kv vv:Value)(x:ItemV)(hb:Hp)(hk:Bytes hb kv x.key)(hv:Bytes hb vv x.value)(ux:U8 x.key)(s:VaultS)(okp:PoolOk s.pool)(k:Nat)(rm:RoomV s (k+64))(F:Pr)(w:World)
 (hF:OwnL [Pr.pts b (putC v 0 ht it kv vv x.child x.size false),VaultA v s,Pr.own hb,F] w):
 Calls Tryz.prog 39 #[.pointer (some ⟨b,0,none⟩),.func (.func f) #[.pointer (some ⟨b,0,none⟩)] #[]] w fun e w'=>PutPost b v 0 ht it kv vv x false s k [Pr.own hb,F] w e w':=by
 obtain⟨kka,kkc,rfl⟩:=bytes_shape hk;obtain⟨vva,vvc,rfl⟩:=bytes_shape hv;have hs1:=hF.drew.alloc (.cells #[.slice kka x.key.length kkc,.slice vva x.value.length vvc,.int .i64 x.child,.int .i64 x.size] 89);rw [show w.drew.heap.size=w.heap.size by simp] at hs1
 have hs2:=hs1.join2 (Pr.pts w.heap.size (.cells #[.slice kka x.key.length kkc,.slice vva x.value.length vvc,.int .i64 x.child,.int .i64 x.size] 89)) (Pr.own hb);obtain⟨ar,har,hs3⟩:=hs2.arena ((Pr.pts w.heap.size (.cells #[.slice kka x.key.length kkc,.slice vva x.value.length vvc,.int .i64 x.child,.int .i64 x.size] 89)).star (Pr.own hb))
 have MK:=hQ (make_call v s (k+63) rm ar _ ⟨1,0,[x],[],0⟩ (leaf_in hk hv har) (by intro y hy;rcases List.mem_singleton.1 hy with rfl;exact ux) _ _ (hs3.pull2 (A1:=VaultA v s) (A2:=Pr.own ar)));have HST0:=hQ ((Stays.refl w).drew.alloc (.cells #[.slice kka x.key.length kkc,.slice vva x.value.length vvc,.int .i64 x.child,.int .i64 x.size] 89));have c1:=hF.facts
 simp only [CellsAt,Nat.reduceAdd,and_true] at c1;have HV:=hQ (And.intro okp rm);have HAR:=hQ har;clear hF hs1 hs2 hs3 har hk hv ux okp rm;go_enter Tryz.func39,Tryz.ntmps39
 go_wp2_with fail
 refine wS 70 [0,1,2,3,4,5,6,7] [(8,[9],[0,1,2,3,4,5,6]),(10,[11,12,13,14,15],[0,1,2,4,5,6])] ?_;refine wpQ_all _ rfl rfl ?_;simp only [pick,pQ];iterate 8 (go_big_quiet_step (fail))
 refine wpQuiet_nil ?_;refine wpRest_act rfl ?_;go_wp2_with fail
 refine onN_mk ?_;refine wpQ_all _ rfl rfl ?_;simp only [pick,pQ];iterate 1 (go_big_quiet_step (fail))
 refine wpQuiet_nil ⟨?_,?_⟩
 · refine chk_all _ rfl rfl ?_
   simp only [pick,Sl.Same,pQ,and_true];repeat' (first | apply And.intro | (go_big_quiet_step (fail);exact wpQuiet_nil rfl))
 refine wpRest_act rfl ?_;go_wp2_with fail
 refine MK.out.mono ?_;rintro e w1 h1;obtain⟨st1,m,er,s1,rfl,hs4,hF⟩:=h1.split;have hs5:=((OwnL.of2 hs4).back _ HAR.out).norm;clear c1;have c1:=hs5.facts;simp only [CellsAt,Nat.reduceAdd,and_true] at c1;have hs6:=((hs5.set b 1 (.int .i64 m)).set b 2 (.int .i64 1)).set b 3 (.int .i64 1)
 have HEND:=hQ (And.intro ((((HST0.out.trans st1).setCell ⟨b,1,none⟩ (.int .i64 m)).setCell ⟨b,2,none⟩ (.int .i64 1)).setCell ⟨b,3,none⟩ (.int .i64 1)) (And.intro hF hs6));clear hs4 hs5 hs6 hF h1 st1 MK HST0;go_wp2;refine onN_mk ?_;refine wpQ_all _ rfl rfl ?_;simp only [pick,pQ];iterate 5 (go_big_quiet_step (fail))
 refine wpQuiet_nil ⟨?_,?_⟩
 · refine chk_all _ rfl rfl ?_
   simp only [pick,Sl.Same,pQ,and_true];repeat' (first | apply And.intro | (go_big_quiet_step (fail);exact wpQuiet_nil rfl))
 refine wpRest_nil ?_;go_wp2;go_ret;refine⟨HEND.out.1,er,rfl,?_⟩;rcases HEND.out.2.1 with⟨h4,h5⟩ | ⟨h4,rfl,h5⟩
 · obtain⟨r1,q1⟩:=mk_room HV.out.1 HV.out.2 h5
   exact .inl ⟨h4,s1,m,1,1,.inl ⟨rfl,rfl,h5,rfl,rfl⟩,r1.le (by omega),⟨_,q1⟩,HEND.out.2.2.to⟩
 · exact .inr ⟨h4,.inl ⟨rfl,h5⟩,_,[],m,1,1,.refl,HEND.out.2.2.to⟩
theorem put_tree(b v:Nat)(f:FuncId)(rt it:Int)(kv vv:Value)(x:ItemV)(ws:Bool)(hf:f=if ws then 38 else 37)(hb:Hp)(hk:Bytes hb kv x.key)(hv:Bytes hb vv x.value)(ux:U8 x.key)(fx:x.key.length≤65536∧x.value.length≤65536)(s:VaultS)(vi:VInv s)(k:Nat)(rm:RoomV s (k+64))(S P:List Int)(hr0:rt≠0)
 (hc:Clo s.get s.pool.count S (rt :: P)) (L:List ItemV) (lv:Nat) (g:PageV) (hg:lookV s rt=some g) (hha:HandN (lookV s) lv g L) (hL:∀y∈L,keyR y.key=true) (hkr:keyR x.key=true) (hit:0≤it∧it<1099511627776) (F:Pr) (w:World)
 (hF:OwnL [Pr.pts b (putC v rt ((lv:Int)+1) it kv vv x.child x.size ws),VaultA v s,Pr.own hb,F] w):
 Calls Tryz.prog 39 #[.pointer (some ⟨b,0,none⟩),.func (.func f) #[.pointer (some ⟨b,0,none⟩)] #[]] w fun e w'=>PutPost b v rt ((lv:Int)+1) it kv vv x ws s k [Pr.own hb,F] w e w':=by
 obtain⟨kka,kkc,rfl⟩:=bytes_shape hk;obtain⟨vva,vvc,rfl⟩:=bytes_shape hv;have hl11:=hand_level (vi.chkA rt g hg) hha
 have RO:=hQ (root_any b v rt ((lv:Int)+1) it (.slice kka x.key.length kkc) (.slice vva x.value.length vvc) x.child x.size ws s vi (k+59) rm S P hc (by omega) _ _ (hF.pull2 (A1:=Pr.pts b (putC v rt ((lv:Int)+1) it (.slice kka x.key.length kkc) (.slice vva x.value.length vvc) x.child x.size ws)) (A2:=VaultA v s)))
 have HH:=hQ (And.intro vi (And.intro hc (And.intro (on_look vi hg).2 (And.intro hha (And.intro hL (And.intro hkr hr0))))));have HX:=hQ (And.intro hk (And.intro hv (And.intro ux fx)));have HF:=hQ hf;have HI:=hQ hit;have c1:=hF.facts;simp only [CellsAt,Nat.reduceAdd,and_true] at c1;have hr00:(rt == 0)=false:=by simpa using hr0
 clear hF hl11 vi rm hc hg hha hL hkr hk hv ux fx hf hit hr0;go_enter Tryz.func39,Tryz.ntmps39
 go_wp2_with fail
 refine RO.out.mono ?_;rintro e w1 ⟨st1,n,er,rfl,h1⟩;have HST1:=hQ st1;clear c1 RO st1
 have HW:Hid (∃kk,WayI b v rt ((lv:Int)+1) it (.slice kka x.key.length kkc) (.slice vva x.value.length vvc) x ws s k [Pr.own hb,F] kk n er w1):=by
  rcases h1 with⟨rfl,h',s2,hr,rm2,q2,hs2⟩ | ⟨hne,hre,s2,q2,rt',ht',hq2,hs2⟩
  · obtain⟨lv',g',S',i2,rfl,hlv,k2,same2,frame2⟩:=root_open HH.out.1 HH.out.2.1 HH.out.2.2.1 HH.out.2.2.2.1 HH.out.2.2.2.2.1 hr
    have hl2:=hand_level (i2.vi.chk n g' i2.on) i2.hand;exact hQ ⟨lv'+1,.inl ⟨rfl,lv',s2,g',L,S',P,n,_,rfl,i2,root_few hr i2.on,rm2.le (by omega),q2,fun s' h=>⟨s2,hr,h⟩,fun er h=> .inr ⟨HH.out.2.2.2.2.2.2,.inr ⟨s2,n,_,hr,h⟩⟩,hs2.flat⟩⟩
  · exact hQ ⟨0,.inr ⟨hne,.inr ⟨HH.out.2.2.2.2.2.2,.inl hre⟩,s2,q2,rt',ht',hq2,hs2.flat⟩⟩
 clear h1;obtain⟨kk,hw⟩:=HW.out;have HW2:=hQ hw;clear HW hw;go_wp2_with fail
 go_loopg [7,8] kk (fun kk nn ee wr=> ∃n1 er1:Int,nn= .int .i64 n1∧ee= .int .i64 er1∧Stays w wr∧Hid (WayI b v rt ((lv:Int)+1) it (.slice kka x.key.length kkc) (.slice vva x.value.length vvc) x ws s k [Pr.own hb,F] kk n1 er1 wr))
 case atStart=>exact⟨n,er,rfl,rfl,HST1.out,HW2⟩
 case round=>
  obtain⟨n1,er1,rfl,rfl,hst,hw⟩:=hrel;rename World=>wr
  have HST2:=hQ hst;clear HW2 HST1 hst;rcases hw.out with⟨rfl,lv',s3,g3,L3,S3,P3,rt',ht',hkk,i3,hfew,rm3,q3,kR,kE,hs3⟩ | ⟨hne,hte,s3,q3,rt',ht',hq3,hs3⟩
  · have HI3:=hQ (And.intro i3 (And.intro rm3 (And.intro q3 (And.intro kR kE))))
    have HKK:=hQ hkk;have HFEW:=hQ hfew;obtain⟨o1,o2,o3⟩:=own_facts i3.vi i3.own;have fit:=fit_of_check (i3.vi.chk n1 g3 i3.on);have hs4:=hs3.alloc (pageC 0 0 (.slice none 0 0) (.slice none 0 0) 0);have RD:=hQ (read_rows v s3 n1 (own_bd i3.vi.ok i3.own) g3 fit _ _ (hs4.pull1 (A1:=VaultA v s3)) (by omega) i3.on);have c1:=hs3.facts;simp only [CellsAt,Nat.reduceAdd,and_true] at c1
    have HST3:=hQ (HST2.out.alloc (pageC 0 0 (.slice none 0 0) (.slice none 0 0) 0));clear hw i3 hkk hfew rm3 q3 kR kE o1 o2 o3 fit hs3 hs4 HST2;go_wp2_with fail
    refine RD.out.mono ?_;rintro e w2 ⟨st2,t,rfl,e1,hs5⟩;subst e1;have hs6:=OwnL.of2 hs5;obtain⟨la,lc,ld,le,hl⟩:=told_sh (hs6.pull1 (A1:=PgOwn t));rw [hl];dsimp only [pageV]
    have hs7:=((((hs6.set wr.heap.size 0 (.int .i64 t.g.kind)).set wr.heap.size 1 (.int .i64 t.g.level)).set wr.heap.size 2 (.slice la t.g.items.length lc)).set wr.heap.size 3 (.slice ld t.g.data.length le)).set wr.heap.size 4 (.int .i64 t.g.next);clear c1;have c1:=hs6.facts;simp only [CellsAt,Nat.reduceAdd,and_true] at c1
    have HST4:=hQ ((((((HST3.out.trans st2).setCell ⟨wr.heap.size,0,none⟩ (.int .i64 t.g.kind)).setCell ⟨wr.heap.size,1,none⟩ (.int .i64 t.g.level)).setCell ⟨wr.heap.size,2,none⟩ (.slice la t.g.items.length lc)).setCell ⟨wr.heap.size,3,none⟩ (.slice ld t.g.data.length le)).setCell ⟨wr.heap.size,4,none⟩ (.int .i64 t.g.next));have HL:=hQ hl;have HS7:=hQ hs7;cases lv' with
    | zero=>
      have hk1:=(hand_zero.1 HI3.out.1.hand).1;have hk2:(t.g.kind != 2)=true:=by rw [hk1];rfl
      have hk3:t.g.kind≠2:=by rw [hk1];decide
      have HKD:=hQ (And.intro hk1 hk3);clear hs5 hs6 hs7 st2 hl RD HST3 hk1 hk3;cases ws with
      | false=>
        obtain rfl:=HF.out
        have AD:=add_any b v rt' ht' it (.slice kka x.key.length kkc) (.slice vva x.value.length vvc) x false hb HX.out.1 HX.out.2.1 HX.out.2.2.1 HX.out.2.2.2 s3 HI3.out.1.vi n1 t HI3.out.1.on (k+2) HI3.out.2.1 HFEW.out HI.out _ _ (OwnL.in4 (HS7.out.pull4 (A1:=Pr.pts b (putC v rt' ht' it (.slice kka x.key.length kkc) (.slice vva x.value.length vvc) x.child x.size false)) (A2:=VaultA v s3) (A3:=PgOwn t) (A4:=Pr.own hb)))
        rw [HL.out] at AD;replace AD:=hQ AD
        clear HS7;go_wp2_with fail
        refine AD.out.mono ?_;rintro e w3 ⟨st3,er,rfl,h3⟩;have HEND:=hQ (And.intro (HST4.out.trans st3) h3);clear AD st3 h3 HST4 c1;go_wp2;go_ret;refine⟨HEND.out.1,er,rfl,?_⟩;obtain⟨q,hq⟩:=HI3.out.2.2.1;rcases HEND.out.2 with⟨h4,s4,hw4,hs8⟩ | ⟨h4,hwe,hs8⟩
        · obtain⟨r4,q4⟩:=wr_room HI3.out.1.vi.ok HI3.out.2.1 hw4
          obtain⟨s2,hr,hlo⟩:=HI3.out.2.2.2.1 s4 (.add s3 n1 t.g s4 HI3.out.1.on HKD.out.2 hw4);exact .inl ⟨h4,s4,rt',ht',it+1,.inr ⟨HH.out.2.2.2.2.2.2,s2,hr,hlo,by simp⟩,r4.le (by omega),⟨_,hq.trans q4⟩,hs8.flat.to⟩
        · exact .inr ⟨h4,HI3.out.2.2.2.2 er (.add s3 n1 t.g er HI3.out.1.on HKD.out.2 hwe),s3,q,rt',ht',it+1,hq,hs8.flat.to⟩
      | true=>
        obtain rfl:=HF.out
        have RP:=rep_any b v rt' ht' it (.slice kka x.key.length kkc) (.slice vva x.value.length vvc) x true hb HX.out.1 HX.out.2.1 HX.out.2.2.1 HX.out.2.2.2 s3 HI3.out.1.vi n1 t HI3.out.1.on (k+1) HI3.out.2.1 _ _ (OwnL.in4 (HS7.out.pull4 (A1:=Pr.pts b (putC v rt' ht' it (.slice kka x.key.length kkc) (.slice vva x.value.length vvc) x.child x.size true)) (A2:=VaultA v s3) (A3:=PgOwn t) (A4:=Pr.own hb)))
        rw [HL.out] at RP;replace RP:=hQ RP
        clear HS7;go_wp2_with fail
        refine RP.out.mono ?_;rintro e w3 ⟨st3,er,rfl,h3⟩;have HEND:=hQ (And.intro (HST4.out.trans st3) h3);clear RP st3 h3 HST4 c1;go_wp2;go_ret;refine⟨HEND.out.1,er,rfl,?_⟩;obtain⟨q,hq⟩:=HI3.out.2.2.1;rcases HEND.out.2 with⟨h4,hlt,s4,s5,hw4,hrl,hs8⟩ | ⟨h4,hwe,s5,q5,hq5,hs8⟩
        · obtain⟨r4,q4⟩:=wr_room HI3.out.1.vi.ok HI3.out.2.1 hw4
          obtain⟨r5,q5,hq5⟩:=rel_room r4 hrl;obtain⟨s2,hr,hlo⟩:=HI3.out.2.2.2.1 s5 (.rep s3 n1 t.g s4 s5 HI3.out.1.on HKD.out.2 hlt hw4 hrl);exact .inl ⟨h4,s5,rt',ht',it,.inr ⟨HH.out.2.2.2.2.2.2,s2,hr,hlo,by simp⟩,r5.le (by omega),⟨_,(hq.trans q4).trans hq5⟩,hs8.flat.to⟩
        · refine .inr ⟨h4,HI3.out.2.2.2.2 er ?_,s5,_,rt',ht',it,hq.trans hq5,hs8.flat.to⟩
          rcases hwe with⟨rfl,hge⟩ | hwe | ⟨hlt,s6,t6,hw6,hd6⟩
          · exact .gone s3 n1 t.g HI3.out.1.on HKD.out.2 hge
          · exact .rep s3 n1 t.g er HI3.out.1.on HKD.out.2 hwe
          · exact .rel s3 n1 t.g s6 er t6 HI3.out.1.on HKD.out.2 hlt hw6 h4 hd6
    | succ lv2=>
      have hk1:=(hand_succ.1 HI3.out.1.hand).1;have hk2:(t.g.kind != 2)=false:=by rw [hk1];rfl
      have HKD:=hQ hk1
      have DN:=down_any b v rt' ht' it (.slice kka x.key.length kkc) (.slice vva x.value.length vvc) x.child x.size ws hb x.key HX.out.1 HX.out.2.2.1 s3 lv2 n1 t L3 S3 P3 HI3.out.1 (k+4*lv2+3) (HI3.out.2.1.le (by omega)) HFEW.out _ _ (OwnL.in4 (hs7.pull4 (A1:=Pr.pts b (putC v rt' ht' it (.slice kka x.key.length kkc) (.slice vva x.value.length vvc) x.child x.size ws)) (A2:=VaultA v s3) (A3:=PgOwn t) (A4:=Pr.own hb)))
      rw [HL.out] at DN;replace DN:=hQ DN
      clear hs5 hs6 hs7 st2 hl RD HST3 hk1 HS7;go_wp2_with fail
      refine DN.out.mono ?_;rintro e w3 ⟨st3,d,er,rfl,h3⟩;have HST5:=hQ (HST4.out.trans st3)
      have HW3:Hid (∃kk,kk<gk∧WayI b v rt ((lv:Int)+1) it (.slice kka x.key.length kkc) (.slice vva x.value.length vvc) x ws s k [Pr.own hb,F] kk d er w3):=by
       obtain⟨q,hq⟩:=HI3.out.2.2.1;have hkk:=HKK.out;rcases h3 with⟨h4,s4,hd,r4,⟨q4,hq4⟩,hs8⟩ | ⟨h4,hde,s4,q4,hq4,hs8⟩
       · obtain⟨Sd,Q,gd,g2,X,M,Y,i4,⟨_,l8⟩,_⟩:=down_open HH.out.2.2.2.2.2.1 HI3.out.1 hd
         exact hQ ⟨lv2+1,by omega,.inl ⟨h4,lv2,s4,gd,M,Sd,Q++P3,rt',ht',rfl,i4,l8,r4,⟨_,hq.trans hq4⟩,fun s' h=>HI3.out.2.2.2.1 s' (.down ws s3 n1 t.g s4 d s' HI3.out.1.on HKD.out hd h),fun er h=>HI3.out.2.2.2.2 er (.more ws s3 n1 t.g s4 d er HI3.out.1.on HKD.out hd h),hs8.flat.to⟩⟩
       · exact hQ ⟨0,by omega,.inr ⟨h4,HI3.out.2.2.2.2 er (.down ws s3 n1 t.g er HI3.out.1.on HKD.out hde),s4,_,rt',ht',hq.trans hq4,hs8.flat.to⟩⟩
      obtain⟨k2,hk2',hw2⟩:=HW3.out;have HW4:=hQ (And.intro hk2' hw2);clear DN h3 st3 HST4 c1 HW3 hk2' hw2;go_wp2_with fail
      go_roundg k2
      case measure=>exact HW4.out.1
      case rel=>exact⟨d,er,rfl,rfl,HST5.out,hQ HW4.out.2⟩
  · have hne':(er1 == 0)=false:=by simpa using hne
    have HEND:=hQ (And.intro hne (And.intro hte (And.intro hq3 hs3)));clear hne hte hq3 hs3 hw;go_wp2;go_ret;exact⟨HST2.out,er1,rfl,.inr ⟨HEND.out.1,HEND.out.2.1,s3,q3,rt',ht',it,HEND.out.2.2.1,HEND.out.2.2.2⟩⟩
end Go.Proofs.YtkfjilnmnbeokaaGreat.Q9
