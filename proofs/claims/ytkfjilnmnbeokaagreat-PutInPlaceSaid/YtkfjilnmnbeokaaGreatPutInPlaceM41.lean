/- The program's half: a page that is full is split; the conditions stand as hypotheses. -/
import Derived.Test.YtkfjilnmnbeokaaGreatPutInPlaceM40
import Derived.Test.YtkfjilnmnbeokaaGreatPutInPlaceM26
import Derived.Test.YtkfjilnmnbeokaaGreatPutInPlaceM22
import Derived.Test.YtkfjilnmnbeokaaGreatPutInPlaceM01
set_option maxRecDepth 100000
set_option maxHeartbeats 16000000
namespace Go.Proofs.YtkfjilnmnbeokaaGreat.L9
open ChangeShapes WideShapes ChangeAt RowKit Sl Cop D2 J3 G2 J2 X3 Z3 Y3 M4 N4 D6 Y5 N6 Q6 J7 D8 G8 M7 P8 C7 W6 J9 K9
abbrev putC(v:Nat)(rt ht it:Int)(kv vv:Value)(cc sz:Int)(ws:Bool):Obj:= .cells #[.pointer (some ⟨v,0,none⟩),.int .i64 rt,.int .i64 ht,.int .i64 it,kv,vv,.int .i64 cc,.int .i64 sz,.bool ws] 96
def HalfPost(v:Nat)(s:VaultS)(n:Int)(L:List Pr)(w:World)(e:Ending)(w':World):Prop:=Stays w w'∧∃m er:Int,∃sv,e= .returned (.tuple #[.int .i64 m,sv,.int .i64 er])∧
 ((er=0∧∃sep s',HalfR s n m sep s'∧OwnL (BytesRow sv sep :: VaultA v s' :: L) w')∨(er≠0∧HalfE s n er∧OwnL (VaultA v s :: L) w'))
theorem split_bet {g:PageV}(hc:checkP g=0)(h8:g.items.length=8):g.kind=2∨(g.kind=1∧betB (itemAt g.items 3).key (itemAt g.items 4).key=true):=by
 rcases (split_yes hc h8).2 with h | ⟨h,h1,h2⟩
 · exact .inl h
 · refine .inr ⟨h,?_⟩
   rw [bet_len h1] at h2;unfold betB;simp only [Bool.and_eq_true,decide_eq_true_eq];exact⟨h1,by omega⟩
theorem split_b {g:PageV}(hc:checkP g=0)(h8:g.items.length=8):splitB g=true:=by
 unfold splitB;rcases (split_yes hc h8).2 with h | ⟨h,h1,h2⟩
 · rw [decide_eq_true h8,decide_eq_true h];rfl
 · rw [decide_eq_true h8,decide_eq_true h,decide_eq_true h1,decide_eq_true h2];cases decide (g.kind=2)<;>rfl
theorem half_u8 {g:PageV}(hu:∀x∈g.items,U8 x.key):(∀x∈(leftG g).items,U8 x.key)∧∀x∈(rightG g).items,U8 x.key:=by
 have hd:∀x∈g.items.drop 4,U8 x.key:=fun x hx=>hu x (List.mem_of_mem_drop hx)
 refine⟨fun x hx=>hu x (List.mem_of_mem_take hx),fun x hx=> ?_⟩;unfold rightG at hx;simp only at hx;split at hx
 · cases hl:g.items.drop 4 with
   | nil=>rw [hl] at hx;cases hx
   | cons y l=>
     rw [hl] at hx;rcases List.mem_cons.1 hx with rfl | hx
     · intro z hz;cases hz
     · exact hd x (by rw [hl];exact List.mem_cons_of_mem _ hx)
 · exact hd x hx
theorem half_any(b v:Nat)(rt ht it:Int)(kv vv:Value)(cc sz:Int)(ws:Bool)(s:VaultS)(vi:VInv s)(k:Nat)(rm:RoomV s (k+2))(n:Int)(ho:ownP s.pool n=true)(F:Pr)(w:World)
 (hF:Sat ((Pr.pts b (putC v rt ht it kv vv cc sz ws)).star ((VaultA v s).star F)) w):
 Calls Tryz.prog 114 #[.pointer (some ⟨b,0,none⟩),.int .i64 n] w fun e w'=>HalfPost v s n [Pr.pts b (putC v rt ht it kv vv cc sz ws),F] w e w':=by
 obtain⟨o1,o2,o3⟩:=own_facts vi ho;obtain⟨g,hg⟩:=vi.on n (by omega);have hcg:=vi.chk n g hg;have fit:=fit_of_check hcg;have hug:=vi.u8 n g hg;have hs0:=OwnL.in2 hF;have RD:=hQ (read_rows v s n (own_bd vi.ok ho) g fit _ _ (hs0.pull1 (A1:=VaultA v s)) (by omega) hg);have c1:=hs0.facts;simp only [CellsAt,Nat.reduceAdd,and_true] at c1;have HG:=hQ (And.intro hg (And.intro hcg hug))
 have HVI:=hQ (And.intro vi (And.intro rm (And.intro ho fit)));clear hF hs0 o1 o2 o3 hg hcg hug fit vi rm ho;go_enter Tryz.func114,Tryz.ntmps114
 go_wp2_with fail
 refine RD.out.mono ?_;rintro e w1 ⟨st1,t,rfl,e1,hs1⟩;have hs2:=OwnL.of2 hs1;obtain⟨la,lc,ld,le,hl⟩:=told_sh (hs2.pull1 (A1:=PgOwn t));rw [hl];rw [e1] at hl ⊢;dsimp only [pageV];have hs3:=hs2.alloc (pageC g.kind g.level (.slice la g.items.length lc) (.slice ld g.data.length le) g.next)
 have HST1:=hQ (st1.alloc (pageC g.kind g.level (.slice la g.items.length lc) (.slice ld g.data.length le) g.next));clear c1;have c1:=hs3.facts;simp only [CellsAt,Nat.reduceAdd,and_true] at c1;have HT:=hQ (And.intro hl e1);have HS3:=hQ hs3;clear hs1 hs2 hs3 st1 RD hl e1;by_cases h8:g.items.length<8
 · have h8':(g.items.length:Int)<8:=by omega
   have H8:=hQ h8;clear h8;go_wp2;go_ret3
   refine⟨HST1.out,0,0,.slice none 0 0,rfl,.inl ⟨rfl,[],s,⟨g,HG.out.1,.inl ⟨H8.out,rfl,rfl,rfl⟩⟩,?_⟩⟩;have h1:=(HS3.out.to (M:= [VaultA v s,Pr.pts b (putC v rt ht it kv vv cc sz ws),F])).emp;rw [← Row.nil 5 1] at h1;exact h1
 · have he8:g.items.length=8:=by have:=HVI.out.2.2.2.n;omega
   have h8':¬(g.items.length:Int)<8:=by omega
   have HE8:=hQ he8;obtain⟨a,ha,hs4⟩:=HS3.out.arena (PgOwn t);have hpi:=pgOwn_in ha;rw [HT.out.1,HT.out.2] at hpi;have SP:=hQ (split_any a _ g hpi HVI.out.2.2.2 he8 (split_bet HG.out.2.1 he8) HG.out.2.2 _ _ (hs4.pull1 (A1:=Pr.own a)));clear hs4 hpi ha HS3 HT he8 h8;go_wp2_with fail
   refine SP.out.mono ?_;rintro e w2 ⟨st2,tl,tr,o,rfl,el,er,hs5⟩;have hs6:=hs5.flat;obtain⟨la2,lc2,ld2,le2,hl2⟩:=told_sh (hs6.pull1 (A1:=PgOwn tl));obtain⟨ra2,rc2,rd2,re2,hr2⟩:=told_sh (hs6.pull1 (A1:=PgOwn tr));obtain⟨oa,oc,rfl⟩:=Row.shape (hs6.pull1 (A1:=BytesRow o (sepG g)));rw [hl2,hr2];dsimp only [pageV]
   have hs7:=(hs6.alloc (pageC tl.g.kind tl.g.level (.slice la2 tl.g.items.length lc2) (.slice ld2 tl.g.data.length le2) tl.g.next)).alloc (pageC tr.g.kind tr.g.level (.slice ra2 tr.g.items.length rc2) (.slice rd2 tr.g.data.length re2) tr.g.next)
   have HST2:=hQ ((((HST1.out.trans st2).alloc (pageC tl.g.kind tl.g.level (.slice la2 tl.g.items.length lc2) (.slice ld2 tl.g.data.length le2) tl.g.next)).alloc (pageC tr.g.kind tr.g.level (.slice ra2 tr.g.items.length rc2) (.slice rd2 tr.g.data.length re2) tr.g.next)).drew)
   rw [show (w2.alloc (pageC tl.g.kind tl.g.level (.slice la2 tl.g.items.length lc2) (.slice ld2 tl.g.data.length le2) tl.g.next)).heap.size=w2.heap.size+1 by simp] at hs7;obtain⟨ar,har,hs8⟩:=hs7.arena (PgOwn tr);have hpr:=pgOwn_in har;rw [hr2] at hpr;have huR:=(half_u8 HG.out.2.2).2;rw [← er] at huR
   have MK:=hQ (make_call v s (k+1) HVI.out.2.1 ar _ tr.g hpr huR _ _ (hs8.drew.pull2 (A1:=VaultA v s) (A2:=Pr.own ar)));clear c1;have c1:=hs8.facts;simp only [CellsAt,Nat.reduceAdd,and_true] at c1;have HLR:=hQ (And.intro (And.intro hl2 el) er);have HAR:=hQ har;clear hs5 hs6 hs7 hs8 st2 hl2 hr2 el er hpr huR har SP HST1;go_wp2_with fail
   refine wS 62 [0,1,2,3,4] [(5,[6,7,8,9,10],[0,1,2])] ?_;refine wpQ_all _ rfl rfl ?_;simp only [pick,pQ];iterate 5 (go_big_quiet_step (fail))
   refine wpQuiet_nil ?_;refine wpRest_act rfl ?_;go_wp2_with fail
   refine MK.out.mono ?_;rintro e w3 ⟨st3,m,er,rfl,h3⟩;have HST3:=hQ (HST2.out.trans st3);rcases h3 with⟨rfl,s1,hm,hs9⟩ | ⟨hne,hme,hs9⟩
   · have hs10:=OwnL.of2 hs9
     clear c1;have c1:=hs10.facts;simp only [CellsAt,Nat.reduceAdd,and_true] at c1;have HS10:=hQ hs10;have HM:=hQ hm;clear hs9 hs10 hm MK HST2 st3;go_wp2;refine onN_mk ?_;refine wpQ_all _ rfl rfl ?_;simp only [pick,pQ];iterate 5 (go_big_quiet_step (fail))
     refine wpQuiet_nil ⟨?_,?_⟩
     · refine chk_all _ rfl rfl ?_
       simp only [pick,Sl.Same,pQ,and_true];repeat' (first | apply And.intro | (go_big_quiet_step (fail);exact wpQuiet_nil rfl))
     refine wpRest_nil ?_;have huR:=(half_u8 HG.out.2.2).2;rw [← HLR.out.2] at huR;obtain⟨m1,m2,m3,m4,m5⟩:=mk_ext HVI.out.1 HM.out huR;have rm1:=(mk_room HVI.out.1.ok HVI.out.2.1 HM.out).1
     have hown1:ownP s1.pool n=true:=by
      obtain⟨o1,o2,_⟩:=own_facts HVI.out.1 HVI.out.2.2.1;refine own_of ?_ (by rw [m4.lasts];exact o2);rw [m2,if_neg (fun e=>by rw [e] at o1;omega)];exact o1
     obtain⟨al,hal,hs11⟩:=HS10.out.arena (PgOwn tl);have hpl:=pgOwn_in hal;rw [HLR.out.1.1] at hpl;have huL:=(half_u8 HG.out.2.2).1;rw [← HLR.out.1.2] at huL;have WR:=hQ (write_call v s1 k rm1 n al _ tl.g hpl huL _ _ (hs11.drew.pull2 (A1:=VaultA v s1) (A2:=Pr.own al)));have HN:=hQ (And.intro hown1 (And.intro hal (left_right HG.out.2.1 HE8.out)));have HST4:=hQ HST3.out.drew
     clear HS10 hs11 hpl huL huR m1 m2 m3 m4 m5 rm1 hown1 hal HST3;go_wp2_with fail
     refine wS 62 [0,1,2,3,4,5,6,7] [(8,[9,10,11],[0,1,2,3,4])] ?_;refine wpQ_all _ rfl rfl ?_;simp only [pick,pQ];iterate 8 (go_big_quiet_step (fail))
     refine wpQuiet_nil ?_;refine wpRest_act rfl ?_;go_wp2_with fail
     refine WR.out.mono ?_;rintro e w4 ⟨st4,er,rfl,h4⟩
     obtain⟨rfl,s',hw,hs12⟩:=h4.resolve_right (by
      rintro⟨_,⟨_,(⟨h4,_⟩ | ⟨_,h4,_⟩)⟩,_⟩
      · rw [HN.out.1] at h4;cases h4
      · exact h4 (by rw [HLR.out.1.2];exact HN.out.2.2.1))
     have HEND:=hQ (And.intro (HST4.out.trans st4) (And.intro hw (OwnL.of2 hs12)));clear h4 st4 hw hs12 WR HST4 c1;go_wp2;refine onN_mk ?_;refine wpQ_all _ rfl rfl ?_;simp only [pick,pQ];iterate 3 (go_big_quiet_step (fail))
     refine wpQuiet_nil ⟨?_,?_⟩
     · refine chk_all _ rfl rfl ?_
       simp only [pick,Sl.Same,pQ,and_true];repeat' (first | apply And.intro | (go_big_quiet_step (fail);exact wpQuiet_nil rfl))
     refine wpRest_nil ?_;go_wp2;go_ret3
     refine⟨HEND.out.1,m,0,.slice oa (sepG g).length oc,rfl,.inl ⟨rfl,sepG g,s',⟨g,HG.out.1,.inr ⟨HE8.out,rfl,s1,?_,?_⟩⟩,HEND.out.2.2.to⟩⟩
     · have:=HM.out
       rwa [HLR.out.2] at this
     · have:=HEND.out.2.1
       rwa [HLR.out.1.2] at this
   · have h12:er=12:=by
      rcases hme with⟨_,(⟨h,_⟩ | ⟨_,h,_⟩)⟩
      · exact absurd (by rw [HLR.out.2];exact(left_right HG.out.2.1 HE8.out).2) h
      · exact h
     subst h12;have hs10:=OwnL.of2 hs9;have HEND:=hQ (And.intro hme hs10);clear c1;have c1:=hs10.facts;simp only [CellsAt,Nat.reduceAdd,and_true] at c1;clear hs9 hs10 hme hne MK HST2 st3;go_wp2;refine onN_mk ?_;refine wpQ_all _ rfl rfl ?_;simp only [pick,pQ];iterate 5 (go_big_quiet_step (fail))
     refine wpQuiet_nil ⟨?_,?_⟩
     · refine chk_all _ rfl rfl ?_
       simp only [pick,Sl.Same,pQ,and_true];repeat' (first | apply And.intro | (go_big_quiet_step (fail);exact wpQuiet_nil rfl))
     refine wpRest_nil ?_;go_wp2;go_ret3
     refine⟨HST3.out,0,12,.slice none 0 0,rfl,.inr ⟨by decide,⟨by decide,.inr ⟨g,HG.out.1,Nat.le_of_eq HE8.out.symm,.inr ⟨split_b HG.out.2.1 HE8.out,.inl ?_⟩⟩⟩,HEND.out.2.to⟩⟩;have:=HEND.out.1
     rwa [HLR.out.2] at this
end Go.Proofs.YtkfjilnmnbeokaaGreat.L9
namespace Go.Proofs.YtkfjilnmnbeokaaGreat.M9
open ChangeShapes WideShapes ChangeAt RowKit Sl Cop D2 J3 G2 J2 X3 Z3 Y3 M4 N4 D6 Y5 N6 Q6 J7 D8 G8 M7 P8 C7 W6 J9 K9 L9
theorem two_items {h:Hp}{b T:Nat}{sv:Value}{c m:Int}{sep:List Int}(hp:Pr.pts b (.cells [.slice none 0 0,.slice none 0 0,.int .i64 c,.int .i64 0,sv,.slice none 0 0,.int .i64 m,.int .i64 0].toArray T (0,0)) h){a:Hp}(hs:h.sub a)(hk:Bytes a sv sep):
 ItemsIn a (.slice (some ⟨b,0,none⟩) 2 2) [⟨[],[],c,0⟩,⟨sep,[],m,0⟩]:=
 ⟨[(.slice none 0 0,.slice none 0 0),(sv,.slice none 0 0)],rfl,(pts_rowIn (k:=4) (n:=2) hp rfl rfl (by simp [maxLen])).sub hs,fun i hx hl=>by
   match i,hx,hl with
   | 0,_,_=>exact⟨RowIn.nil _ _,RowIn.nil _ _⟩
   | 1,_,_=>exact⟨hk,RowIn.nil _ _⟩⟩
theorem top_in {h:Hp}{b T:Nat}{sv:Value}{ht c m:Int}{sep:List Int}(hp:((Pr.pts b (.cells [.slice none 0 0,.slice none 0 0,.int .i64 c,.int .i64 0,sv,.slice none 0 0,.int .i64 m,.int .i64 0].toArray T (0,0))).star (BytesRow sv sep)) h):
 PageIn h (pageV 2 ht (.slice (some ⟨b,0,none⟩) 2 2) (.slice none 0 0) 0) (topG ht c sep m):=by
 obtain⟨x,y,hx,hy,s1,s2⟩:=star_sub hp;exact⟨_,_,rfl,two_items hx s1 ((Row.rowIn hy).sub s2),RowIn.nil _ _⟩
def RootPost(b v:Nat)(rt ht it:Int)(kv vv:Value)(cc sz:Int)(ws:Bool)(s:VaultS)(k:Nat)(L:List Pr)(w:World)(e:Ending)(w':World):Prop:=Stays w w'∧∃n er:Int,e= .returned (.tuple #[.int .i64 n,.int .i64 er])∧
 ((er=0∧∃h' s',RootR s rt ht s' n h'∧RoomV s' k∧(∃q,After s q s')∧OwnL (Pr.pts b (putC v n h' it kv vv cc sz ws) :: VaultA v s' :: L) w')∨
  (er≠0∧RootE s rt ht er∧∃s' q rt' ht',After s q s'∧OwnL (Pr.pts b (putC v rt' ht' it kv vv cc sz ws) :: VaultA v s' :: L) w'))
theorem root_any(b v:Nat)(rt ht it:Int)(kv vv:Value)(cc sz:Int)(ws:Bool)(s:VaultS)(vi:VInv s)(k:Nat)(rm:RoomV s (k+5))(S P:List Int)(hc:Clo s.get s.pool.count S (rt :: P))(hht:0≤ht∧ht<65536)(F:Pr)(w:World)
 (hF:Sat ((Pr.pts b (putC v rt ht it kv vv cc sz ws)).star ((VaultA v s).star F)) w):
 Calls Tryz.prog 75 #[.pointer (some ⟨b,0,none⟩)] w fun e w'=>RootPost b v rt ht it kv vv cc sz ws s k [F] w e w':=by
 have hs0:=OwnL.in2 hF;have SH:=hQ (shadow_call v s vi (k+4) rm rt _ _ (hs0.drew.pull1 (A1:=VaultA v s)));have c1:=hs0.facts;simp only [CellsAt,Nat.reduceAdd,and_true] at c1;have HVI:=hQ (And.intro vi (And.intro rm hc));clear hF hs0 vi rm hc;go_enter Tryz.func75,Tryz.ntmps75
 go_wp2_with fail
 refine wS 85 [0,1,2,3,4,5,6,7,8] [(9,[10,11,12,13,14],[0,1,2,4,5,6,7])] ?_;refine wpQ_all _ rfl rfl ?_;simp only [pick,pQ];iterate 9 (go_big_quiet_step (fail))
 refine wpQuiet_nil ?_;refine wpRest_act rfl ?_;go_wp2_with fail
 refine SH.out.mono ?_;rintro e w1 ⟨st1,c,er,rfl,h1⟩;rcases h1 with⟨rfl,s1,hsh,hs1⟩ | ⟨hne,hse,hs1⟩
 · have hs2:=OwnL.of1 hs1
   clear c1;have c1:=hs2.facts;simp only [CellsAt,Nat.reduceAdd,and_true] at c1;obtain⟨v1,own1,rm1,q1⟩:=sh_law HVI.out.1 HVI.out.2.2 HVI.out.2.1 hsh;have hs3:=hs2.set b 1 (.int .i64 c);have HST1:=hQ ((Stays.refl w).drew.trans st1);have HA:=hQ (half_any b v c ht it kv vv cc sz ws s1 v1 (k+2) rm1 c own1 _ _ (hs3.pull2 (A1:=Pr.pts b (putC v c ht it kv vv cc sz ws)) (A2:=VaultA v s1)))
   have HS1:=hQ (And.intro hsh (And.intro v1 (And.intro own1 (And.intro rm1 q1))));clear hs1 hs2 hs3 hsh v1 own1 rm1 q1 SH st1;go_wp2;refine onN_mk ?_;refine wpQ_all _ rfl rfl ?_;simp only [pick,pQ];iterate 5 (go_big_quiet_step (fail))
   refine wpQuiet_nil ⟨?_,?_⟩
   · refine chk_all _ rfl rfl ?_
     simp only [pick,Sl.Same,pQ,and_true];repeat' (first | apply And.intro | (go_big_quiet_step (fail);exact wpQuiet_nil rfl))
   refine wpRest_nil ?_;go_wp2_with fail
   refine HA.out.mono ?_;rintro e w2 ⟨st2,m,er,sv,rfl,h2⟩;have HST2:=hQ ((HST1.out.setCell ⟨b,1,none⟩ (.int .i64 c)).trans st2);rcases h2 with⟨rfl,sep,s2,hh,hs4⟩ | ⟨hne,hhe,hs4⟩
   · have hs5:=hs4.flat
     obtain⟨v2,rm2,q2,us,ls,hm⟩:=half_law HS1.out.2.1 HS1.out.2.2.2.1 hh;obtain⟨oa,oc,rfl⟩:=Row.shape (hs5.pull1 (A1:=BytesRow sv sep));clear c1;have c1:=hs5.facts;simp only [CellsAt,Nat.reduceAdd,and_true] at c1;rcases hm with⟨rfl,rfl,rfl⟩ | ⟨hm0,hkr⟩
     · have HEND:=hQ (And.intro hh hs5)
       have HRM:=hQ rm2;clear hs4 hs5 HA HST1 hh st2 v2 rm2 q2 us ls;go_wp2;go_ret2;exact⟨HST2.out,c,0,rfl,.inl ⟨rfl,ht,_,⟨c,_,0,_,_,HS1.out.1,HEND.out.1,.inl ⟨rfl,rfl,rfl,rfl⟩⟩,HRM.out.le (by omega),HS1.out.2.2.2.2,HEND.out.2.to⟩⟩
     · have hm0':(m == 0)=false:=by simpa using hm0
       have HH:=hQ (And.intro hh (And.intro hm0 (And.intro v2 (And.intro rm2 q2))));have hs6:=(hs5.alloc (.cells #[.slice none 0 0,.slice none 0 0,.int .i64 c,.int .i64 0,.slice oa sep.length oc,.slice none 0 0,.int .i64 m,.int .i64 0] 89)).alloc (pageC 2 ht (.slice (some ⟨w2.heap.size,0,none⟩) 2 2) (.slice none 0 0) 0)
       have HST3:=hQ (((HST2.out.alloc (.cells #[.slice none 0 0,.slice none 0 0,.int .i64 c,.int .i64 0,.slice oa sep.length oc,.slice none 0 0,.int .i64 m,.int .i64 0] 89)).alloc (pageC 2 ht (.slice (some ⟨w2.heap.size,0,none⟩) 2 2) (.slice none 0 0) 0)).drew)
       rw [show (w2.alloc (.cells #[.slice none 0 0,.slice none 0 0,.int .i64 c,.int .i64 0,.slice oa sep.length oc,.slice none 0 0,.int .i64 m,.int .i64 0] 89)).heap.size=w2.heap.size+1 by simp] at hs6
       have hs7:=hs6.join2 (Pr.pts w2.heap.size (.cells #[.slice none 0 0,.slice none 0 0,.int .i64 c,.int .i64 0,.slice oa sep.length oc,.slice none 0 0,.int .i64 m,.int .i64 0] 89)) (BytesRow (.slice oa sep.length oc) sep)
       obtain⟨ar,har,hs8⟩:=hs7.arena ((Pr.pts w2.heap.size (.cells #[.slice none 0 0,.slice none 0 0,.int .i64 c,.int .i64 0,.slice oa sep.length oc,.slice none 0 0,.int .i64 m,.int .i64 0] 89)).star (BytesRow (.slice oa sep.length oc) sep));have MK:=hQ (make_call v s2 (k+1) rm2 ar _ (topG ht c sep m) (top_in har) (top_u8 us ht c m) _ _ (hs8.drew.pull2 (A1:=VaultA v s2) (A2:=Pr.own ar)))
       clear hs4 hs5 hs6 hs7 hs8 har HA HST1 HST2 hh st2 v2 rm2 q2 us ls hkr hm0;go_wp2_with fail
       refine wS 85 [0,1,2,3,4,5] [(6,[7,8,9,10,11,12],[0,1,2,3]),(13,[14],[9,10,11])] ?_;refine wpQ_all _ rfl rfl ?_;simp only [pick,pQ];iterate 6 (go_big_quiet_step (fail))
       refine wpQuiet_nil ?_;refine wpRest_act rfl ?_;go_wp2_with fail
       refine MK.out.mono ?_;rintro e w3 h3;obtain⟨st3,n,er,s3,rfl,hs9,hF⟩:=h3.split;have hs10:=OwnL.of2 hs9;clear c1;have c1:=hs10.facts;simp only [CellsAt,Nat.reduceAdd,and_true] at c1;have HEND:=hQ (And.intro (HST3.out.trans st3) (And.intro hF hs10));clear hs9 hs10 hF h3 st3 MK HST3;go_wp2;refine onN_mk ?_;refine wpQ_all _ rfl rfl ?_;simp only [pick,pQ];iterate 6 (go_big_quiet_step (fail))
       refine wpQuiet_nil ⟨?_,?_⟩
       · refine chk_all _ rfl rfl ?_
         simp only [pick,Sl.Same,pQ,and_true];repeat' (first | apply And.intro | (go_big_quiet_step (fail);exact wpQuiet_nil rfl))
       refine wpRest_act rfl ?_;go_wp2_with fail
       refine onN_mk ?_;refine wpQ_all _ rfl rfl ?_;simp only [pick,pQ];iterate 1 (go_big_quiet_step (fail))
       refine wpQuiet_nil ⟨?_,?_⟩
       · refine chk_all _ rfl rfl ?_
         simp only [pick,Sl.Same,pQ,and_true];repeat' (first | apply And.intro | (go_big_quiet_step (fail);exact wpQuiet_nil rfl))
       refine wpRest_nil ?_;go_wp2;go_ret2;have hs11:=(HEND.out.2.2.set b 1 (.int .i64 n)).set b 2 (.int .i64 (ht+1));refine⟨(HEND.out.1.setCell _ _).setCell _ _,n,er,rfl,?_⟩;obtain⟨q,hq⟩:=HS1.out.2.2.2.2;obtain⟨q2,hq2⟩:=HH.out.2.2.2.2;rcases HEND.out.2.1 with⟨h4,h5⟩ | ⟨h4,rfl,h5⟩
       · obtain⟨r3,q3⟩:=mk_room HH.out.2.2.1.ok HH.out.2.2.2.1 h5
         exact .inl ⟨h4,ht+1,s3,⟨c,_,m,sep,s2,HS1.out.1,HH.out.1,.inr ⟨HH.out.2.1,h5,rfl⟩⟩,r3.le (by omega),⟨_,(hq.trans hq2).trans q3⟩,hs11.to⟩
       · exact .inr ⟨h4,.inr ⟨c,_,HS1.out.1,.inr ⟨m,sep,_,HH.out.1,HH.out.2.1,h5⟩⟩,_,_,n,ht+1,hq.trans hq2,hs11.to⟩
   · have hs5:=hs4.flat
     clear c1;have c1:=hs5.facts;simp only [CellsAt,Nat.reduceAdd,and_true] at c1;have HEND:=hQ (And.intro hne (And.intro hhe hs5));have hne':(er == 0)=false:=by simpa using hne
     clear hs4 hs5 HA HST1 hhe st2 hne;go_wp2;go_ret2;obtain⟨q,hq⟩:=HS1.out.2.2.2.2;exact⟨HST2.out,c,er,rfl,.inr ⟨HEND.out.1,.inr ⟨c,_,HS1.out.1,.inl HEND.out.2.1⟩,_,q,c,ht,hq,HEND.out.2.2.to⟩⟩
 · have hs2:=OwnL.of1 hs1
   clear c1;have c1:=hs2.facts;simp only [CellsAt,Nat.reduceAdd,and_true] at c1;have HEND:=hQ (And.intro hne (And.intro hse hs2));have hne':(er == 0)=false:=by simpa using hne
   have HST1:=hQ ((Stays.refl w).drew.trans st1);clear hs1 hs2 SH hse st1 hne;go_wp2;refine onN_mk ?_;refine wpQ_all _ rfl rfl ?_;simp only [pick,pQ];iterate 5 (go_big_quiet_step (fail))
   refine wpQuiet_nil ⟨?_,?_⟩
   · refine chk_all _ rfl rfl ?_
     simp only [pick,Sl.Same,pQ,and_true];repeat' (first | apply And.intro | (go_big_quiet_step (fail);exact wpQuiet_nil rfl))
   refine wpRest_nil ?_;go_wp2;go_ret2;exact⟨HST1.out,0,er,rfl,.inr ⟨HEND.out.1,.inl HEND.out.2.1,s,[],rt,ht,.refl,HEND.out.2.2.to⟩⟩
end Go.Proofs.YtkfjilnmnbeokaaGreat.M9
namespace Go.Proofs.YtkfjilnmnbeokaaGreat.N9
open ChangeShapes WideShapes ChangeAt RowKit Sl Cop D2 J3 G2 J2 X3 Z3 Y3 M4 N4 D6 Y5 N6 Q6 J7 D8 G8 M7 P8 C7 W6 J9 K9 L9 U6 J6
def DownPost(v:Nat)(s:VaultS)(n:Int)(g:PageV)(key:List Int)(k:Nat)(L:List Pr)(w:World)(e:Ending)(w':World):Prop:=Stays w w'∧∃d er:Int,e= .returned (.tuple #[.int .i64 d,.int .i64 er])∧
 ((er=0∧∃s',DownR s n g key s' d∧RoomV s' k∧(∃q,After s q s')∧OwnL (VaultA v s' :: L) w')∨
  (er≠0∧DownE s n g key er∧∃s' q,After s q s'∧OwnL (VaultA v s' :: L) w'))
theorem pg_item {t:ToldX}{sv:Value}{sep:List Int}{h:Hp}(hp:((PgOwn t).star (BytesRow sv sep)) h)(m:Int):PageIn h t.pv t.g∧ItemIn h (itemV sv (.slice none 0 0) m 0) ⟨sep,[],m,0⟩:=by
 obtain⟨x,y,hx,hy,s1,s2⟩:=star_sub hp;obtain⟨vi,vd,e,h1,h2⟩:=pgOwn_in hx;obtain⟨xs,l1,r1,f1⟩:=h1;exact⟨⟨vi,vd,e,⟨xs,l1,r1.sub s1,fun k hk hl=>⟨(f1 k hk hl).1.sub s1,(f1 k hk hl).2.sub s1⟩⟩,h2.sub s1⟩,⟨_,_,rfl,(Row.rowIn hy).sub s2,RowIn.nil _ _⟩⟩
theorem down_any(b v:Nat)(rt ht it:Int)(kv vv:Value)(cc sz:Int)(ws:Bool)(hb:Hp)(key:List Int)(hk:Bytes hb kv key)(uk:U8 key)(s:VaultS)(lv:Nat)(n:Int)(t:ToldX)(L:List ItemV)(S P:List Int)(hi:InH s (lv+1) n t.g L S P)(k:Nat)(rm:RoomV s (k+4))(h8:t.g.items.length<8)(F:Pr)(w:World)
 (hF:OwnL [Pr.pts b (putC v rt ht it kv vv cc sz ws),VaultA v s,PgOwn t,Pr.own hb,F] w):
 Calls Tryz.prog 76 #[.pointer (some ⟨b,0,none⟩),.int .i64 n,t.pv] w fun e w'=>DownPost v s n t.g key k [Pr.pts b (putC v rt ht it kv vv cc sz ws),Pr.own hb,F] w e w':=by
 obtain⟨hk2,hlt⟩:=route_lt hi key;have vi:=hi.vi;have hcg:=vi.chk n t.g hi.on;have fit:=fit_of_check hcg;have hug:=vi.u8 n t.g hi.on;obtain⟨i,hr⟩:∃i,routeK t.g.items key=i:=⟨_,rfl⟩;rw [hr] at hlt;obtain⟨bi,ci,ad,cd,hpv,_⟩:=told_child (hF.pull1 (A1:=PgOwn t)) hlt;rw [hpv];dsimp only [pageV]
 have hs1:=hF.alloc (pageC t.g.kind t.g.level (.slice (some ⟨bi,0,none⟩) t.g.items.length ci) (.slice ad t.g.data.length cd) t.g.next);obtain⟨kka,kkc,rfl⟩:=bytes_shape hk;obtain⟨a,ha,hs2⟩:=hs1.arena (PgOwn t);have hpi:=pgOwn_in ha;rw [hpv] at hpi;have RT:=route_any a hb _ _ t.g hpi fit hug key hk uk _ (hs2.drew.le (a:=a)) (hs2.drew.le (a:=hb));rw [hr] at RT;have RT:=hQ RT;have HS2:=hQ hs2.drew
 have HST0:=hQ (((Stays.refl w).alloc (pageC t.g.kind t.g.level (.slice (some ⟨bi,0,none⟩) t.g.items.length ci) (.slice ad t.g.data.length cd) t.g.next)).drew);have c1:=hs2.facts;simp only [CellsAt,Nat.reduceAdd,and_true] at c1;have HI:=hQ (And.intro hi (And.intro fit hug));have HVR:=hQ (And.intro vi rm);have HK:=hQ (And.intro hk uk);have HPT:=hQ hpv;have HHA:=hQ ha;have HLT:=hQ hlt;have HR:=hQ hr
 have H8:=hQ h8;have hi3:(i:Int)<t.g.items.length:=by omega
 have hi8:(0:Int)≤i∧(i:Int)<8:=by omega
 clear hF hs1 hs2 hi fit hug vi rm hk uk hpv ha hpi hr hcg hk2 h8;go_enter Tryz.func76,Tryz.ntmps76
 go_wp2_with fail
 refine wS 95 [0,1,2,3,4,5] [(6,[7],[1,2,3,4])] ?_;refine wpQ_all _ rfl rfl ?_;simp only [pick,pQ];iterate 6 (go_big_quiet_step (fail))
 refine wpQuiet_nil ?_;refine wpRest_act rfl ?_;go_wp2_with fail
 refine RT.out.mono ?_;rintro e w1 ⟨rfl,ho⟩;have hs3:=HS2.out.ext ho.heap;have hs4:=hs3.back (PgOwn t) HHA.out;obtain⟨d1,d2,d3,_⟩:=told_cell (hs4.pull1 (A1:=PgOwn t)) hlt HPT.out;obtain⟨ch,hch⟩:∃ch,ch=(itemAt t.g.items i).child:=⟨_,rfl⟩;rw [← hch] at d1;have HCH:=hQ hch;have SH:=hQ (shadow_call v s HVR.out.1 (k+3) HVR.out.2 ch _ _ (hs4.drew.pull1 (A1:=VaultA v s)));clear c1;have c1:=hs4.facts
 simp only [CellsAt,Nat.reduceAdd,and_true] at c1;have HST1:=hQ (HST0.out.trans ho.st).drew;clear hs3 hs4 ho RT HS2 HST0 HHA hch;go_wp2;refine onN_mk ?_;refine wpQ_all _ rfl rfl ?_;simp only [pick,pQ];iterate 1 (go_big_quiet_step (fail))
 refine wpQuiet_nil ⟨?_,?_⟩
 · refine chk_all _ rfl rfl ?_
   simp only [pick,Sl.Same,pQ,and_true];repeat' (first | apply And.intro | (go_big_quiet_step (fail);exact wpQuiet_nil rfl))
 refine wpRest_nil ?_;go_wp2_with fail
 refine wS 95 [0,1,2,3,4,5,6,7,8,9] [(10,[11,12,13,14,15],[0,1,2,4,5,6,7,8])] ?_;refine wpQ_all _ rfl rfl ?_;simp only [pick,pQ];iterate 10 (go_big_quiet_step (fail))
 refine wpQuiet_nil ?_;refine wpRest_act rfl ?_;go_wp2_with fail
 refine SH.out.mono ?_;rintro e w2 ⟨st2,c,er,rfl,h1⟩;rcases h1 with⟨rfl,s1,hsh,hs5⟩ | ⟨hne,hse,hs5⟩
 · have hs6:=OwnL.of1 hs5
   obtain⟨d4,d5,d6,hset⟩:=told_cell (hs6.pull1 (A1:=PgOwn t)) hlt HPT.out;rw [← HCH.out] at d4;have hs7:=OwnL.of1 (hset c _ _ (hs6.pull1 (A1:=PgOwn t)));clear c1 d1 d2 d3;have c1:=hs6.facts;simp only [CellsAt,Nat.reduceAdd,and_true] at c1;have hsh2:=hsh;rw [HCH.out, ← HR.out] at hsh2;obtain⟨v1,own1,rm1,q1⟩:=down_law HI.out.1 HVR.out.2 hsh2
   have HA:=hQ (half_any b v rt ht it (.slice kka key.length kkc) vv cc sz ws s1 v1 (k+1) rm1 c own1 _ _ (hs7.pull2 (A1:=Pr.pts b (putC v rt ht it (.slice kka key.length kkc) vv cc sz ws)) (A2:=VaultA v s1)));have HS1:=hQ (And.intro hsh2 q1);have HV1:=hQ (And.intro v1 rm1);have HST2:=hQ ((HST1.out.trans st2).setCell ⟨bi,i*4+2,none⟩ (.int .i64 c))
   clear hs5 hs6 hs7 hset hsh hsh2 v1 own1 rm1 q1 SH st2 HST1;go_wp2;refine onN_mk ?_;refine wpQ_all _ rfl rfl ?_;simp only [pick,pQ];iterate 5 (go_big_quiet_step (fail))
   refine wpQuiet_nil ⟨?_,?_⟩
   · refine chk_all _ rfl rfl ?_
     simp only [pick,Sl.Same,pQ,and_true];repeat' (first | apply And.intro | (go_big_quiet_step (fail);exact wpQuiet_nil rfl))
   refine wpRest_nil ?_;go_wp2_with fail
   refine HA.out.mono ?_;rintro e w3 ⟨st3,m,er,sv,rfl,h2⟩;have HST3:=hQ (HST2.out.trans st3);rcases h2 with⟨rfl,sep,s2,hh,hs8⟩ | ⟨hne,hhe,hs8⟩
   · have hs9:=hs8.flat
     obtain⟨v2,rm2,q2,us,ls,hm⟩:=half_law HV1.out.1 HV1.out.2 hh;obtain⟨oa,oc,rfl⟩:=Row.shape (hs9.pull1 (A1:=BytesRow sv sep));have HS2:=hQ (And.intro v2 (And.intro rm2 (And.intro hh (And.intro us q2))));clear c1 d4 d5 d6;have c1:=hs9.facts;simp only [CellsAt,Nat.reduceAdd,and_true] at c1;rcases hm with⟨rfl,rfl,rfl⟩ | ⟨hm0,hkr⟩
     · obtain⟨T2,eT2⟩:∃T2,T2=kidT t i c:=⟨_,rfl⟩
       rw [← eT2] at hs9;have HG2:=hQ (show T2.g=newG t.g i c 0 [] by rw [eT2];rfl);have HPV:=hQ (show T2.pv=pageV t.g.kind t.g.level (.slice (some ⟨bi,0,none⟩) t.g.items.length ci) (.slice ad t.g.data.length cd) t.g.next by rw [eT2];exact HPT.out);have hln:T2.g.items.length=t.g.items.length:=by rw [eT2];show (childG t.g i c).items.length=_;rw [kid_items hlt,List.length_set]
       have HS8:=hQ hs9;have HST8:=HST3;clear hs8 hs9 HA HST2 HST3 hh st3 v2 rm2 q2 us ls eT2;go_wp2_with fail
       obtain⟨a2,ha2,hs20⟩:=HS8.out.arena (PgOwn T2);have hpi2:=pgOwn_in ha2;rw [HPV.out] at hpi2;have hu2:∀x∈(T2).g.items,U8 x.key:=by rw [HG2.out];exact new_u8 HI.out.2.2 HLT.out HS2.out.2.2.2.1 c 0
       have WR:=hQ (write_call v _ k HS2.out.2.1 n a2 _ (T2).g hpi2 hu2 _ _ (hs20.drew.pull2 (A1:=VaultA v _) (A2:=Pr.own a2)));have HPI:=hQ (And.intro ha2 (And.intro hpi2 hu2));have HST9:=hQ HST8.out.drew;clear c1;have c1:=hs20.facts;simp only [CellsAt,Nat.reduceAdd,and_true] at c1;clear HS8 hs20 hpi2 hu2 ha2 HST8;go_wp2_with fail
       refine wS 95 [0,1,2,3,4,5] [(6,[7],[0,1,2])] ?_;refine wpQ_all _ rfl rfl ?_;simp only [pick,pQ];iterate 6 (go_big_quiet_step (fail))
       refine wpQuiet_nil ?_;refine wpRest_act rfl ?_;go_wp2_with fail
       refine WR.out.mono ?_;rintro e w9 ⟨st9,er,rfl,h9⟩;rcases h9 with⟨rfl,s3,hw,hs21⟩ | ⟨hne,hwe,hs21⟩
       · have hs22:=OwnL.of2 hs21
         have hck:=hw.2.1;rw [HG2.out] at hck
         have hne2:(T2).g.items≠ []:=by
          rw [HG2.out];intro e;have h1:=new_len HLT.out c 0 [];rw [e] at h1;have h2:=HLT.out;simp only [List.length_nil] at h1;omega
         have hrl:=(route_spec key hne2).1;have hs23:=hs22.back (PgOwn T2) HPI.out.1;obtain⟨d4,d5,d6,_⟩:=told_cell (hs23.pull1 (A1:=PgOwn T2)) hrl HPV.out;have RT2:=route_any a2 hb _ _ (T2).g HPI.out.2.1 (by rw [HG2.out];exact fit_of_check hck) HPI.out.2.2 key HK.out.1 HK.out.2 w9.drew (hs22.drew.le (a:=a2)) (hs22.drew.le (a:=hb));obtain⟨j,hj⟩:∃j,routeK (T2).g.items key=j:=⟨_,rfl⟩
         rw [hj] at RT2 d4 d5 hrl;obtain⟨dc,hdc⟩:∃dc,dc=(itemAt (T2).g.items j).child:=⟨_,rfl⟩;rw [← hdc] at d4;have RT2:=hQ RT2;clear c1;have c1:=hs22.facts;simp only [CellsAt,Nat.reduceAdd,and_true] at c1;have HJ:=hQ (And.intro hj hw);have HDC:=hQ hdc;have HS9:=hQ (And.intro (HST9.out.trans st9).drew hs22.drew);have hj3:(j:Int)<(T2).g.items.length:=by omega
         clear hs21 hs22 hs23 hck hne2 hw hj hdc st9 WR HST9;go_wp2;refine onN_mk ?_;refine wpQ_all _ rfl rfl ?_;simp only [pick,pQ];iterate 1 (go_big_quiet_step (fail))
         refine wpQuiet_nil ⟨?_,?_⟩
         · refine chk_all _ rfl rfl ?_
           simp only [pick,Sl.Same,pQ,and_true];repeat' (first | apply And.intro | (go_big_quiet_step (fail);exact wpQuiet_nil rfl))
         refine wpRest_nil ?_;go_wp2_with fail
         refine wS 95 [0,1,2,3,4,5,6,7] [(8,[9,10,11,12,13],[0,1,3,4,5,6])] ?_;refine wpQ_all _ rfl rfl ?_;simp only [pick,pQ];iterate 8 (go_big_quiet_step (fail))
         refine wpQuiet_nil ?_;refine wpRest_act rfl ?_;go_wp2_with fail
         refine RT2.out.mono ?_;rintro e w10 ⟨rfl,ho⟩;have hs24:=HS9.out.2.ext ho.heap;obtain⟨d7,_,d8,_⟩:=told_cell ((hs24.back (PgOwn T2) HPI.out.1).pull1 (A1:=PgOwn T2)) (i:=j) (by omega) HPV.out;rw [← HDC.out] at d7;clear c1 d4 d5 d6;have c1:=hs24.facts;simp only [CellsAt,Nat.reduceAdd,and_true] at c1;have HS10:=hQ (And.intro (HS9.out.1.trans ho.st) hs24);clear hs24 ho RT2 HS9;go_wp2
         refine onN_mk ?_;refine wpQ_all _ rfl rfl ?_;simp only [pick,pQ];iterate 5 (go_big_quiet_step (fail))
         refine wpQuiet_nil ⟨?_,?_⟩
         · refine chk_all _ rfl rfl ?_
           simp only [pick,Sl.Same,pQ,and_true];repeat' (first | apply And.intro | (go_big_quiet_step (fail);exact wpQuiet_nil rfl))
         refine wpRest_nil ?_;go_wp2;go_ret2;refine⟨HS10.out.1,dc,0,rfl,.inl ⟨rfl,s3,⟨c,0,[],_,_,HS1.out.1,HS2.out.2.2.1,?_,?_⟩,?_,?_,HS10.out.2.to⟩⟩
         · have:=HJ.out.2
           rw [HG2.out] at this;rw [HR.out];exact this
         · rw [HR.out, ← HG2.out,HJ.out.1];exact HDC.out
         · exact(wr_room HS2.out.1.ok HS2.out.2.1 HJ.out.2).1
         · obtain⟨q,hq⟩:=HS1.out.2
           obtain⟨q2,hq2⟩:=HS2.out.2.2.2.2;exact⟨_,(hq.trans hq2).trans (wr_room HS2.out.1.ok HS2.out.2.1 HJ.out.2).2⟩
       · have hs22:=OwnL.of2 hs21
         clear c1;have c1:=hs22.facts;simp only [CellsAt,Nat.reduceAdd,and_true] at c1;have HEND:=hQ (And.intro (And.intro hne hwe) (And.intro (HST9.out.trans st9) hs22));have hne':(er == 0)=false:=by simpa using hne
         clear hs21 hs22 hne hwe st9 WR HST9;go_wp2;refine onN_mk ?_;refine wpQ_all _ rfl rfl ?_;simp only [pick,pQ];iterate 1 (go_big_quiet_step (fail))
         refine wpQuiet_nil ⟨?_,?_⟩
         · refine chk_all _ rfl rfl ?_
           simp only [pick,Sl.Same,pQ,and_true];repeat' (first | apply And.intro | (go_big_quiet_step (fail);exact wpQuiet_nil rfl))
         refine wpRest_nil ?_;go_wp2;go_ret2;obtain⟨q,hq⟩:=HS1.out.2;obtain⟨q2,hq2⟩:=HS2.out.2.2.2.2;refine⟨HEND.out.2.1,0,er,rfl,.inr ⟨HEND.out.1.1,⟨HEND.out.1.1,.inr (.inr ⟨c,_,?_,.inr ⟨0,[],_,HS2.out.2.2.1,.inr ?_⟩⟩)⟩,s2,_,hq.trans hq2,HEND.out.2.2.to⟩⟩
         · exact HS1.out.1
         · have:=HEND.out.1.2
           rw [HG2.out] at this;rw [HR.out];exact this
     · have hm0':(m == 0)=false:=by simpa using hm0
       have hs10:=hs9.join2 (PgOwn (kidT t i c)) (BytesRow (.slice oa sep.length oc) sep);obtain⟨ar,har,hs11⟩:=hs10.arena ((PgOwn (kidT t i c)).star (BytesRow (.slice oa sep.length oc) sep));obtain⟨hp1,hx1⟩:=pg_item har m;have e1:(kidT t i c).pv=pageV t.g.kind t.g.level (.slice (some ⟨bi,0,none⟩) t.g.items.length ci) (.slice ad t.g.data.length cd) t.g.next:=HPT.out;rw [e1] at hp1
       have hln:(kidT t i c).g.items.length=t.g.items.length:=by show (childG t.g i c).items.length=_;rw [kid_items hlt,List.length_set]
       have IN:=insert_any ar _ (kidT t i c).g hp1 (kid_fit HI.out.2.1 hlt c) (i+1) (by omega) _ _ hx1 ⟨by show sep.length≤65536;omega,by simp⟩ _ _ (hs11.pull1 (A1:=Pr.own ar));rw [if_pos (by rw [hln];exact H8.out),show ((i+1:Nat):Int)=(i:Int)+1 by omega] at IN;have IN:=hQ IN;have HM0:=hQ hm0;clear hs8 hs9 hs10 hs11 har hp1 hx1 e1 HA HST2 hh st3 v2 rm2 q2 us ls hkr hm0 hln;go_wp2_with fail
       refine IN.out.mono ?_;rintro e w4 ⟨st4,T2,rfl,eT2,hs12⟩;have hs13:=hs12.flat;have hg2:T2.g=newG t.g i c m sep:=by rw [eT2];unfold newG;rw [if_neg HM0.out];rfl
       have hl2:0<T2.g.items.length:=by
        rw [hg2];have:=new_len hlt c m sep
        omega
       obtain⟨b2,ci2,ad2,cd2,hpv2,_⟩:=told_child (hs13.pull1 (A1:=PgOwn T2)) hl2;rw [hpv2];dsimp only [pageV];have hs14:=((((hs13.set w.heap.size 0 (.int .i64 T2.g.kind)).set w.heap.size 1 (.int .i64 T2.g.level)).set w.heap.size 2 (.slice (some ⟨b2,0,none⟩) T2.g.items.length ci2)).set w.heap.size 3 (.slice ad2 T2.g.data.length cd2)).set w.heap.size 4 (.int .i64 T2.g.next);clear c1
       have c1:=hs13.facts;simp only [CellsAt,Nat.reduceAdd,and_true] at c1;have HG2:=hQ hg2;have HPV:=hQ hpv2;have HS8:=hQ hs14
       have HST8:=hQ ((((((HST3.out.trans st4).setCell ⟨w.heap.size,0,none⟩ (.int .i64 T2.g.kind)).setCell ⟨w.heap.size,1,none⟩ (.int .i64 T2.g.level)).setCell ⟨w.heap.size,2,none⟩ (.slice (some ⟨b2,0,none⟩) T2.g.items.length ci2)).setCell ⟨w.heap.size,3,none⟩ (.slice ad2 T2.g.data.length cd2)).setCell ⟨w.heap.size,4,none⟩ (.int .i64 T2.g.next));clear hs12 hs13 hs14 st4 IN HST3 hg2 hpv2 eT2 hl2
       go_wp2_with fail
       obtain⟨a2,ha2,hs20⟩:=HS8.out.arena (PgOwn T2);have hpi2:=pgOwn_in ha2;rw [HPV.out] at hpi2;have hu2:∀x∈(T2).g.items,U8 x.key:=by rw [HG2.out];exact new_u8 HI.out.2.2 HLT.out HS2.out.2.2.2.1 c m
       have WR:=hQ (write_call v _ k HS2.out.2.1 n a2 _ (T2).g hpi2 hu2 _ _ (hs20.drew.pull2 (A1:=VaultA v s2) (A2:=Pr.own a2)));have HPI:=hQ (And.intro ha2 (And.intro hpi2 hu2));have HST9:=hQ HST8.out.drew;clear c1;have c1:=hs20.facts;simp only [CellsAt,Nat.reduceAdd,and_true] at c1;clear HS8 hs20 hpi2 hu2 ha2 HST8;go_wp2_with fail
       refine wS 95 [0,1,2,3,4,5] [(6,[7],[0,1,2])] ?_;refine wpQ_all _ rfl rfl ?_;simp only [pick,pQ];iterate 6 (go_big_quiet_step (fail))
       refine wpQuiet_nil ?_;refine wpRest_act rfl ?_;go_wp2_with fail
       refine WR.out.mono ?_;rintro e w9 ⟨st9,er,rfl,h9⟩;rcases h9 with⟨rfl,s3,hw,hs21⟩ | ⟨hne,hwe,hs21⟩
       · have hs22:=OwnL.of2 hs21
         have hck:=hw.2.1;rw [HG2.out] at hck
         have hne2:(T2).g.items≠ []:=by
          rw [HG2.out];intro e;have h1:=new_len HLT.out c m sep;rw [e] at h1;have h2:=HLT.out;simp only [List.length_nil] at h1;omega
         have hrl:=(route_spec key hne2).1;have hs23:=hs22.back (PgOwn T2) HPI.out.1;obtain⟨d4,d5,d6,_⟩:=told_cell (hs23.pull1 (A1:=PgOwn T2)) hrl HPV.out;have RT2:=route_any a2 hb _ _ (T2).g HPI.out.2.1 (by rw [HG2.out];exact fit_of_check hck) HPI.out.2.2 key HK.out.1 HK.out.2 w9.drew (hs22.drew.le (a:=a2)) (hs22.drew.le (a:=hb));obtain⟨j,hj⟩:∃j,routeK (T2).g.items key=j:=⟨_,rfl⟩
         rw [hj] at RT2 d4 d5 hrl;obtain⟨dc,hdc⟩:∃dc,dc=(itemAt (T2).g.items j).child:=⟨_,rfl⟩;rw [← hdc] at d4;have RT2:=hQ RT2;clear c1;have c1:=hs22.facts;simp only [CellsAt,Nat.reduceAdd,and_true] at c1;have HJ:=hQ (And.intro hj hw);have HDC:=hQ hdc;have HS9:=hQ (And.intro (HST9.out.trans st9).drew hs22.drew);have hj3:(j:Int)<(T2).g.items.length:=by omega
         clear hs21 hs22 hs23 hck hne2 hw hj hdc st9 WR HST9;go_wp2;refine onN_mk ?_;refine wpQ_all _ rfl rfl ?_;simp only [pick,pQ];iterate 1 (go_big_quiet_step (fail))
         refine wpQuiet_nil ⟨?_,?_⟩
         · refine chk_all _ rfl rfl ?_
           simp only [pick,Sl.Same,pQ,and_true];repeat' (first | apply And.intro | (go_big_quiet_step (fail);exact wpQuiet_nil rfl))
         refine wpRest_nil ?_;go_wp2_with fail
         refine wS 95 [0,1,2,3,4,5,6,7] [(8,[9,10,11,12,13],[0,1,3,4,5,6])] ?_;refine wpQ_all _ rfl rfl ?_;simp only [pick,pQ];iterate 8 (go_big_quiet_step (fail))
         refine wpQuiet_nil ?_;refine wpRest_act rfl ?_;go_wp2_with fail
         refine RT2.out.mono ?_;rintro e w10 ⟨rfl,ho⟩;have hs24:=HS9.out.2.ext ho.heap;obtain⟨d7,_,d8,_⟩:=told_cell ((hs24.back (PgOwn T2) HPI.out.1).pull1 (A1:=PgOwn T2)) (i:=j) (by omega) HPV.out;rw [← HDC.out] at d7;clear c1 d4 d5 d6;have c1:=hs24.facts;simp only [CellsAt,Nat.reduceAdd,and_true] at c1;have HS10:=hQ (And.intro (HS9.out.1.trans ho.st) hs24);clear hs24 ho RT2 HS9;go_wp2
         refine onN_mk ?_;refine wpQ_all _ rfl rfl ?_;simp only [pick,pQ];iterate 5 (go_big_quiet_step (fail))
         refine wpQuiet_nil ⟨?_,?_⟩
         · refine chk_all _ rfl rfl ?_
           simp only [pick,Sl.Same,pQ,and_true];repeat' (first | apply And.intro | (go_big_quiet_step (fail);exact wpQuiet_nil rfl))
         refine wpRest_nil ?_;go_wp2;go_ret2;refine⟨HS10.out.1,dc,0,rfl,.inl ⟨rfl,s3,⟨c,m,sep,s1,s2,HS1.out.1,HS2.out.2.2.1,?_,?_⟩,?_,?_,HS10.out.2.to⟩⟩
         · have:=HJ.out.2
           rw [HG2.out] at this;rw [HR.out];exact this
         · rw [HR.out, ← HG2.out,HJ.out.1];exact HDC.out
         · exact(wr_room HS2.out.1.ok HS2.out.2.1 HJ.out.2).1
         · obtain⟨q,hq⟩:=HS1.out.2
           obtain⟨q2,hq2⟩:=HS2.out.2.2.2.2;exact⟨_,(hq.trans hq2).trans (wr_room HS2.out.1.ok HS2.out.2.1 HJ.out.2).2⟩
       · have hs22:=OwnL.of2 hs21
         clear c1;have c1:=hs22.facts;simp only [CellsAt,Nat.reduceAdd,and_true] at c1;have HEND:=hQ (And.intro (And.intro hne hwe) (And.intro (HST9.out.trans st9) hs22));have hne':(er == 0)=false:=by simpa using hne
         clear hs21 hs22 hne hwe st9 WR HST9;go_wp2;refine onN_mk ?_;refine wpQ_all _ rfl rfl ?_;simp only [pick,pQ];iterate 1 (go_big_quiet_step (fail))
         refine wpQuiet_nil ⟨?_,?_⟩
         · refine chk_all _ rfl rfl ?_
           simp only [pick,Sl.Same,pQ,and_true];repeat' (first | apply And.intro | (go_big_quiet_step (fail);exact wpQuiet_nil rfl))
         refine wpRest_nil ?_;go_wp2;go_ret2;obtain⟨q,hq⟩:=HS1.out.2;obtain⟨q2,hq2⟩:=HS2.out.2.2.2.2;refine⟨HEND.out.2.1,0,er,rfl,.inr ⟨HEND.out.1.1,⟨HEND.out.1.1,.inr (.inr ⟨c,s1,?_,.inr ⟨m,sep,s2,HS2.out.2.2.1,.inr ?_⟩⟩)⟩,s2,_,hq.trans hq2,HEND.out.2.2.to⟩⟩
         · exact HS1.out.1
         · have:=HEND.out.1.2
           rw [HG2.out] at this;rw [HR.out];exact this
   · have hs9:=hs8.flat
     clear c1 d4 d5 d6;have c1:=hs9.facts;simp only [CellsAt,Nat.reduceAdd,and_true] at c1;have HEND:=hQ (And.intro hne (And.intro hhe hs9));have hne':(er == 0)=false:=by simpa using hne
     clear hs8 hs9 HA hhe hne st3 HST2;go_wp2;go_ret2;obtain⟨q,hq⟩:=HS1.out.2;exact⟨HST3.out,0,er,rfl,.inr ⟨HEND.out.1,⟨HEND.out.1,.inr (.inr ⟨c,s1,HS1.out.1,.inl HEND.out.2.1⟩)⟩,s1,q,hq,HEND.out.2.2.to⟩⟩
 · have hs6:=OwnL.of1 hs5
   clear c1 d1 d2 d3;have c1:=hs6.facts;simp only [CellsAt,Nat.reduceAdd,and_true] at c1;have HEND:=hQ (And.intro hne (And.intro hse hs6));have hne':(er == 0)=false:=by simpa using hne
   have HST2:=hQ (HST1.out.trans st2);clear hs5 hs6 SH hse hne st2 HST1;go_wp2;refine onN_mk ?_;refine wpQ_all _ rfl rfl ?_;simp only [pick,pQ];iterate 5 (go_big_quiet_step (fail))
   refine wpQuiet_nil ⟨?_,?_⟩
   · refine chk_all _ rfl rfl ?_
     simp only [pick,Sl.Same,pQ,and_true];repeat' (first | apply And.intro | (go_big_quiet_step (fail);exact wpQuiet_nil rfl))
   refine wpRest_nil ?_;go_wp2;go_ret2;refine⟨HST2.out,0,er,rfl,.inr ⟨HEND.out.1,⟨HEND.out.1,.inr (.inl ?_)⟩,s,[],.refl,HEND.out.2.2.to⟩⟩;rw [HR.out, ← HCH.out];exact HEND.out.2.1
end Go.Proofs.YtkfjilnmnbeokaaGreat.N9
