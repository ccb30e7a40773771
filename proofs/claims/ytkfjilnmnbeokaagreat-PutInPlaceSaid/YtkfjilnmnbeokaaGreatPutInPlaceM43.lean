/- The program's Put; the conditions stand as hypotheses. -/
import Derived.Test.YtkfjilnmnbeokaaGreatPutInPlaceM42
import Derived.Test.YtkfjilnmnbeokaaGreatPutInPlaceM36
import Derived.Test.YtkfjilnmnbeokaaGreatPutInPlaceM29
import Derived.Test.YtkfjilnmnbeokaaGreatPutInPlaceM34
import Derived.Test.YtkfjilnmnbeokaaGreatPutInPlaceM40
import Derived.Test.YtkfjilnmnbeokaaGreatPutInPlaceM20
import Derived.Test.YtkfjilnmnbeokaaGreatPutInPlaceM32
import Derived.Test.YtkfjilnmnbeokaaGreatPutInPlaceM03
import Derived.Test.YtkfjilnmnbeokaaGreatPutInPlaceM02
import Derived.Test.YtkfjilnmnbeokaaGreatPutInPlaceM01
set_option maxRecDepth 100000
set_option maxHeartbeats 16000000
namespace Go.Proofs.YtkfjilnmnbeokaaGreat.U9
open ChangeShapes WideShapes ChangeAt RowKit Sl Cop Deep D2 J3 G2 J2 X3 Z3 Y3 M4 N4 D6 Y5 N6 Q6 J7 D8 G8 M7 P8 C7 W6 K9 L9 Q9 Z8 E9 G7 C9 B5
theorem stand_T {s:VaultS}(h:VInv s){rt ht it:Int}{L:List ItemV}(hs:StandN (lookV s) rt ht it L):StandT (lookV s) rt ht it L:=by
 rcases hs with h1 | ⟨h1,h2,lv,g,h3,h4,h5,h6⟩
 · exact .inl h1
 · exact .inr ⟨h1,h2,lv,h3,hand_level (h.chkA rt g h4) h5,hand_tr h.chkA lv rt g everyR L h4 h5 fun x hx=>has_every (h6 x hx)⟩
theorem infoTreeP:(Tryz.prog.info? 38).map (·.size)=some 3:=by kernel_rfl
theorem load_bool {w:World}{b:Nat}{x:Bool}{fz:Nat × Nat}(h:w.heap[b]? =some (.cells #[.bool x] 4 fz)):(loadVar 4 ⟨b,0,none⟩).run Tryz.prog w= .ok (.bool x) w:=by
 have hc:w.cell? ⟨b,0,none⟩=some (.bool x):=by rw [cell_of_heap h];rfl
 go_simp
theorem results_cell3 {fn:Func}{p u q:Tmp}{ty tu tq:TypeId}(h:fn.results= #[.cell p ty,.cell u tu,.cell q tq])(tmps:Array Value)(w:World)(g:Nat)(x:Value)
 (hp:tmps.getD p undef= .pointer (some ⟨g,0,none⟩)) (hr:(loadVar ty ⟨g,0,none⟩).run Tryz.prog w= .ok x w) (g2:Nat) (y:Value) (hu:tmps.getD u undef= .pointer (some ⟨g2,0,none⟩)) (hr2:(loadVar tu ⟨g2,0,none⟩).run Tryz.prog w= .ok y w)
 (g3:Nat) (z:Value) (hq:tmps.getD q undef= .pointer (some ⟨g3,0,none⟩)) (hr3:(loadVar tq ⟨g3,0,none⟩).run Tryz.prog w= .ok z w):
 (results fn tmps).run Tryz.prog w= .ok (.tuple #[x,y,z]) w:=by
 have hp':tmps[p]?.getD undef= .pointer (some ⟨g,0,none⟩):=by simpa using hp
 have hu':tmps[u]?.getD undef= .pointer (some ⟨g2,0,none⟩):=by simpa using hu
 have hq':tmps[q]?.getD undef= .pointer (some ⟨g3,0,none⟩):=by simpa using hq
 simp [results,h,hp',hu',hq',asAddr,Sem.run_bind,Result.andThen,hr,hr2,hr3]
theorem put1_ok(EB VB MB OB WB:Nat)(u:FrameMode)(w:World)(h:w.cell? ⟨EB,0,none⟩=some (.int .i64 0)):
 CallsD Tryz.prog 35 #[.pointer (some ⟨EB,0,none⟩),.pointer (some ⟨VB,0,none⟩),.pointer (some ⟨MB,0,none⟩),.pointer (some ⟨OB,0,none⟩),.pointer (some ⟨WB,0,none⟩)] u w fun e u' w'=>u'=u∧(e= .returned (.tuple #[])∧w'=w):=by
 go_enter_d Tryz.func35,Tryz.ntmps35
 go_wp2;first | refine bodyPost_ret (results_none rfl _ _ _) rfl ?_ | go_end0
 exact⟨rfl,rfl⟩
theorem put1_err(EB VB MB OB WB v:Nat)(s s':VaultS)(q r:List VaultS)(H:HistV r s)(hq:After s q s')(er a b c:Int)(x:Bool)(he:er≠0)(u:FrameMode)(F:Pr)(w:World)
 (hF:OwnL [VaultA v s',Pr.pts EB (.cells #[.int .i64 er] 25),Pr.pts VB (.cells #[.pointer (some ⟨v,0,none⟩)] 24),Pr.pts MB (.cells #[.int .i64 (s.floor+s.acts.length)] 3),Pr.pts OB (treeC a b c),Pr.pts WB (.cells #[.bool x] 4),F] w):
 CallsD Tryz.prog 35 #[.pointer (some ⟨EB,0,none⟩),.pointer (some ⟨VB,0,none⟩),.pointer (some ⟨MB,0,none⟩),.pointer (some ⟨OB,0,none⟩),.pointer (some ⟨WB,0,none⟩)] u w fun e u' w'=>u'=u∧(e= .returned (.tuple #[])∧Stays w w'∧
  OwnL [VaultA v s,Pr.pts EB (.cells #[.int .i64 er] 25),Pr.pts OB (treeC 0 0 0),Pr.pts WB (.cells #[.bool false] 4),F] w'):=by
 obtain⟨l1,l2⟩:=hq.len;have U:=vundo_any v s' (q++r) (hq.hist H) q.length (by simp) _ w (hF.pull1 (A1:=VaultA v s'));rw [hq.back r,show s'.floor+((s'.acts.length:Nat):Int)-(q.length:Nat)=s.floor+s.acts.length by rw [l1,l2];omega] at U;have c1:=hF.facts;simp only [CellsAt,Nat.reduceAdd,and_true] at c1;have he':(er != 0)=true:=by simpa using he
 obtain⟨mk,hmk⟩:∃mk,mk=s.floor+((s.acts.length:Nat):Int):=⟨_,rfl⟩;rw [← hmk] at U c1;have U:=hQ U;clear hF l1 l2 H hq he hmk;go_enter_d Tryz.func35,Tryz.ntmps35
 go_wp2_with fail
 refine U.out.mono ?_;rintro e w1 ⟨rfl,st1,s1,r1,e1,_,h1⟩;cases e1;have hs2:=OwnL.of1 h1;have hs3:=(((hs2.set OB 0 (.int .i64 0)).set OB 1 (.int .i64 0)).set OB 2 (.int .i64 0)).set WB 0 (.bool false);clear c1;have c1:=hs2.facts;simp only [CellsAt,Nat.reduceAdd,and_true] at c1
 have HEND:=hQ (And.intro ((((st1.setCell ⟨OB,0,none⟩ (.int .i64 0)).setCell ⟨OB,1,none⟩ (.int .i64 0)).setCell ⟨OB,2,none⟩ (.int .i64 0)).setCell ⟨WB,0,none⟩ (.bool false)) hs3);clear U h1 hs2 hs3 st1;go_wp2;first | refine bodyPost_ret (results_none rfl _ _ _) rfl ?_ | go_end0
 exact⟨rfl,HEND.out.1,HEND.out.2.to⟩
theorem two_rows {a b:Value}{A B:List Int}{h:Hp}(hp:((BytesRow a A).star (BytesRow b B)) h):Bytes h a A∧Bytes h b B:=by
 obtain⟨x,y,hx,hy,s1,s2⟩:=star_sub hp;exact⟨(Row.rowIn hx).sub s1,(Row.rowIn hy).sub s2⟩
theorem find_mem {K:List Int}{L:List ItemV}(h:(findK K L).isSome=true):∃y∈L,y.key=K:=by
 obtain⟨y,hy⟩:=Option.isSome_iff_exists.1 h;have h1:=List.find?_some hy;exact⟨y,List.mem_of_find?_eq_some hy,cmp_eq (by simpa using h1)⟩
theorem put_all(b v:Nat)(f:FuncId)(rt ht it:Int)(kv vv:Value)(x:ItemV)(ws:Bool)(hf:f=if ws then 38 else 37)(hb:Hp)(hk:Bytes hb kv x.key)(hv:Bytes hb vv x.value)(ux:U8 x.key)(fx:x.key.length≤65536∧x.value.length≤65536)(s:VaultS)(vi:VInv s)(k:Nat)(rm:RoomV s (k+64))(S P:List Int)
 (hc:Clo s.get s.pool.count S (rootC rt++P)) (L:List ItemV) (hs:StandN (lookV s) rt ht it L) (hw0:ws=true→∃y∈L,y.key=x.key) (hkr:keyR x.key=true) (hit:it<1099511627776) (F:Pr) (w:World)
 (hF:OwnL [Pr.pts b (putC v rt ht it kv vv x.child x.size ws),VaultA v s,Pr.own hb,F] w):
 Calls Tryz.prog 39 #[.pointer (some ⟨b,0,none⟩),.func (.func f) #[.pointer (some ⟨b,0,none⟩)] #[]] w fun e w'=>PutPost b v rt ht it kv vv x ws s k [Pr.own hb,F] w e w':=by
 rcases hs with⟨rfl,rfl,rfl,rfl⟩ | ⟨h0,h2,lv,g,rfl,h4,h5,h6⟩
 · cases ws with
   | false=>exact put_leaf b v f 0 0 kv vv x hb hk hv ux s vi.ok k rm F w hF
   | true=>obtain⟨y,hy,_⟩:=hw0 rfl;cases hy
 · refine put_tree b v f rt it kv vv x ws hf hb hk hv ux fx s vi k rm S P h0 ?_ L lv g h4 h5 h6 hkr ⟨by omega,hit⟩ F w hF
   unfold rootC at hc;rw [if_neg h0] at hc;exact hc
theorem put_split {b v:Nat}{rt ht it:Int}{kv vv:Value}{x:ItemV}{ws:Bool}{s:VaultS}{k:Nat}{L:List Pr}{er:Int}{w':World}
 (h:(er=0∧∃s' rt' ht' it',TreeR s rt ht it x ws s' rt' ht' it'∧RoomV s' k∧(∃q,After s q s')∧OwnL (Pr.pts b (putC v rt' ht' it' kv vv x.child x.size ws) :: VaultA v s' :: L) w')∨
 (er≠0∧TreeE s rt ht x ws er∧∃s' q rt' ht' it',After s q s'∧OwnL (Pr.pts b (putC v rt' ht' it' kv vv x.child x.size ws) :: VaultA v s' :: L) w')):
  ∃s' rt' ht' it' q,After s q s'∧OwnL (Pr.pts b (putC v rt' ht' it' kv vv x.child x.size ws) :: VaultA v s' :: L) w'∧((er=0∧TreeR s rt ht it x ws s' rt' ht' it'∧RoomV s' k)∨(er≠0∧TreeE s rt ht x ws er)):=by
 rcases h with⟨h1,s',rt',ht',it',h2,h3,⟨q,h4⟩,h5⟩ | ⟨h1,h2,s',q,rt',ht',it',h3,h4⟩
 · exact⟨s',rt',ht',it',q,h4,h5,.inl ⟨h1,h2,h3⟩⟩
 · exact⟨s',rt',ht',it',q,h3,h4,.inr ⟨h1,h2⟩⟩
def PutErr(s:VaultS)(rt ht:Int)(K V:List Int)(L:List ItemV)(er:Int):Prop:=
 (keyR K=false∧er=7)∨(keyR K=true∧3840<V.length∧er=8)∨(keyR K=true∧V.length≤3840∧PutE s rt ht K V (findK K L).isSome er)
def PutsPost(v:Nat)(s:VaultS)(k:Nat)(rt ht it:Int)(K V:List Int)(L:List ItemV)(R:List Pr)(w:World)(e:Ending)(w':World):Prop:=Stays w w'∧∃rt' ht' it' ws er,e= .returned (.tuple #[treeV rt' ht' it',.bool ws,.int .i64 er])∧
 ((er=0∧keyR K=true∧V.length≤3840∧ws=(findK K L).isSome∧∃s',PutR s rt ht it K V ws s' rt' ht' it'∧RoomV s' k∧(∃q,After s q s')∧OwnL (VaultA v s' :: R) w')∨
  (er≠0∧rt'=0∧ht'=0∧it'=0∧ws=false∧PutErr s rt ht K V L er∧OwnL (VaultA v s :: R) w'))
theorem puts_any(v:Nat)(s:VaultS)(r:List VaultS)(H:HistV r s)(vi:VInv s)(k:Nat)(rm:RoomV s (k+65))(hp:Hp)(kv vv:Value)(K V:List Int)(hK:Bytes hp kv K)(hV:Bytes hp vv V)(uk:U8 K)(nk:K.length≤140737488355328)(nv:V.length≤140737488355328)
 (rt ht it:Int) (S P:List Int) (hc:Clo s.get s.pool.count S (rootC rt++P)) (L:List ItemV) (hs:StandN (lookV s) rt ht it L) (hit:it<1099511627776) (F:Pr) (w:World) (hF:OwnL [VaultA v s,Pr.own hp,F] w):
 Calls Tryz.prog 11 #[.pointer (some ⟨v,0,none⟩),treeV rt ht it,kv,vv] w fun e w'=>PutsPost v s k rt ht it K V L [Pr.own hp,F] w e w':=by
 obtain⟨kka,kkc,rfl⟩:=bytes_shape hK;obtain⟨vva,vvc,rfl⟩:=bytes_shape hV;have e1:(w.alloc (.cells #[.pointer (some ⟨v,0,none⟩)] 24)).heap.size=w.heap.size+1:=by simp
 have e2:((w.alloc (.cells #[.pointer (some ⟨v,0,none⟩)] 24)).alloc (treeC rt ht it)).heap.size=w.heap.size+1+1:=by simp
 have e3:(((w.alloc (.cells #[.pointer (some ⟨v,0,none⟩)] 24)).alloc (treeC rt ht it)).alloc (treeC 0 0 0)).heap.size=w.heap.size+1+1+1:=by simp
 have e4:((((w.alloc (.cells #[.pointer (some ⟨v,0,none⟩)] 24)).alloc (treeC rt ht it)).alloc (treeC 0 0 0)).alloc (.cells #[.bool false] 4)).heap.size=w.heap.size+1+1+1+1:=by simp
 have hsE:∀er:Int,OwnL [Pr.pts (w.heap.size+1+1+1+1) (.cells #[.int .i64 er] 25),Pr.pts (w.heap.size+1+1+1) (.cells #[.bool false] 4),Pr.pts (w.heap.size+1+1) (treeC 0 0 0),Pr.pts (w.heap.size+1) (treeC rt ht it),Pr.pts w.heap.size (.cells #[.pointer (some ⟨v,0,none⟩)] 24),VaultA v s,Pr.own hp,F] (((((w.alloc (.cells #[.pointer (some ⟨v,0,none⟩)] 24)).alloc (treeC rt ht it)).alloc (treeC 0 0 0)).alloc (.cells #[.bool false] 4)).alloc (.cells #[.int .i64 er] 25)):=fun er=>by
  have h:=((((hF.alloc (.cells #[.pointer (some ⟨v,0,none⟩)] 24)).alloc (treeC rt ht it)).alloc (treeC 0 0 0)).alloc (.cells #[.bool false] 4)).alloc (.cells #[.int .i64 er] 25);rw [e4,e3,e2,e1] at h;exact h
 clear e1 e2 e3 e4;have hs0:=hsE 0;have HSTE:=hQ (fun er:Int=>(((((Stays.refl w).alloc (.cells #[.pointer (some ⟨v,0,none⟩)] 24)).alloc (treeC rt ht it)).alloc (treeC 0 0 0)).alloc (.cells #[.bool false] 4)).alloc (.cells #[.int .i64 er] 25));have HST0:=hQ (HSTE.out 0);have hK63:(K.length:Int)≤140737488355328:=by omega
 have hV63:(V.length:Int)≤140737488355328:=by omega
 have c1:=hs0.facts;simp only [CellsAt,Nat.reduceAdd,and_true] at c1;by_cases hkr:keyR K=true
 · have hk2:1≤K.length∧K.length≤24:=of_decide_eq_true hkr
   have hk3:¬(K.length:Int)<1:=by omega
   have hk4:¬24<(K.length:Int):=by omega
   by_cases hvl:V.length≤3840
   · have hv3:¬3840<(V.length:Int):=by omega
     have G:=get_any v s (lookV s) vi.look vi.pgs hp _ K hK uk nk rt ht it L (stand_T vi hs) _ _ (OwnL.in2 (hs0.pull2 (A1:=VaultA v s) (A2:=Pr.own hp)));obtain⟨ws,hws⟩:∃ws,ws=(findK K L).isSome:=⟨_,rfl⟩;rw [show getE K=0 by unfold getE;rw [if_pos hkr],show getB L K=ws by unfold getB;rw [hkr,hws];rfl] at G;have G:=hQ G
     have HH:=hQ (And.intro H (And.intro vi (And.intro rm (And.intro hc (And.intro hs hit)))));have HK:=hQ (And.intro hK (And.intro hV (And.intro uk (And.intro hkr (And.intro hvl hk2)))));have HWS:=hQ hws;have HS0:=hQ hs0;clear hF hs0 hsE H vi rm hc hs hit hK hV uk hkr hvl hk2 hws nk nv;go_enter_defers Tryz.func11,Tryz.ntmps11
     go_wp2_with fail
     refine G.out.mono ?_;rintro e w1 ⟨st1,o,rfl,hs1⟩;have hs2:=hs1.flat;obtain⟨oa,oc,rfl⟩:=Row.shape (hs2.pull1 (A1:=BytesRow o (getV (lookV s) L K)));generalize (getV (lookV s) L K).length=on at*;have hs3:=(hs2.set (w.heap.size+1+1+1) 0 (.bool ws)).set (w.heap.size+1+1+1+1) 0 (.int .i64 0);obtain⟨mk,hmk⟩:∃mk,mk=s.floor+((s.acts.length:Nat):Int):=⟨_,rfl⟩
     have MK:=vmark_A v s _ _ (hs3.pull1 (A1:=VaultA v s));rw [← hmk] at MK;have MK:=hQ MK;clear c1;have c1:=hs2.facts;simp only [CellsAt,Nat.reduceAdd,and_true] at c1;have HS3:=hQ hs3;have HST1:=hQ (((HST0.out.trans st1).setCell ⟨(w.heap.size+1+1+1),0,none⟩ (.bool ws)).setCell ⟨(w.heap.size+1+1+1+1),0,none⟩ (.int .i64 0));have HMK:=hQ hmk;clear hs1 hs2 hs3 st1 G HS0 HST0 hmk;go_wp2_with fail
     refine MK.out.mono ?_;rintro e w2 ⟨rfl,ho⟩;have hs4:=HS3.out.ext ho.heap;have hs5:=(hs4.alloc (.cells #[.int .i64 mk] 3)).alloc (putC v rt ht it (.slice none 0 0) (.slice none 0 0) 0 0 ws);rw [show (w2.alloc (.cells #[.int .i64 mk] 3)).heap.size=w2.heap.size+1 by simp] at hs5;have hpb:=HH.out.2.2.1.pb;have hvb:=HH.out.2.2.1.vb
     have ST:=store_law v s _ _ hp K V HK.out.1 HK.out.2.1 _ _ (hs5.pull2 (A1:=VaultA v s) (A2:=Pr.own hp)) HH.out.2.1.bare (by omega) (by omega);have ST:=hQ ST;clear c1 hpb hvb;have c1:=hs4.facts;simp only [CellsAt,Nat.reduceAdd,and_true] at c1;have HST2:=hQ (((HST1.out.trans ho.st).alloc (.cells #[.int .i64 mk] 3)).alloc (putC v rt ht it (.slice none 0 0) (.slice none 0 0) 0 0 ws))
     clear hs4 hs5 ho MK HS3 HST1;go_wp2_with fail
     refine ST.out.mono ?_;rintro e w3 ⟨st3,h3⟩;have HST3:=hQ (HST2.out.trans st3);rcases h3 with⟨hE,rfl,hs6⟩ | ⟨hE,kv',vv',c,s1,ns,rfl,htk,hsa,hs6⟩
     · have hs7:=OwnL.of2 hs6
       clear c1;have c1:=hs7.facts;simp only [CellsAt,Nat.reduceAdd,and_true] at c1;have HE:=hQ hE;have HERR:=hQ (show PutErr s rt ht K V L (storeE s.pool K V) from .inr (.inr ⟨HK.out.2.2.2.1,HK.out.2.2.2.2.1,.inl ⟨hE,rfl⟩⟩));obtain⟨er,her⟩:∃er,er=storeE s.pool K V:=⟨_,rfl⟩;rw [← her] at HE HERR hE ⊢;have hE':(er != 0)=true:=by simpa using hE
       have HS7:=hQ hs7;clear hs6 hs7 st3 ST HST2 hE her;dsimp only [zeroItem];go_wp2_with fail
       refine wS 78 [0,1,2] [(3,[],[1,2]),(4,[],[2]),(5,[],[])] ?_;refine wpQ_all _ rfl rfl ?_;simp only [pick,pQ];iterate 3 (go_big_quiet_step (fail))
       refine wpQuiet_nil ?_;refine wpRest_act rfl ?_;go_wp2_with fail
       refine onN_mk ?_;refine wpQ_nil ⟨?_,?_⟩
       · refine chk_all _ rfl rfl ?_
         simp only [pick,Sl.Same,pQ,and_true];repeat' (first | apply And.intro | (go_big_quiet_step (fail);exact wpQuiet_nil rfl))
       refine wpRest_act rfl ?_;go_wp2_with fail
       refine onN_mk ?_;refine wpQ_nil ⟨?_,?_⟩
       · refine chk_all _ rfl rfl ?_
         simp only [pick,Sl.Same,pQ,and_true];repeat' (first | apply And.intro | (go_big_quiet_step (fail);exact wpQuiet_nil rfl))
       refine wpRest_act rfl ?_;go_wp2_with fail
       refine onN_mk ?_;refine wpQ_nil ⟨?_,?_⟩
       · exact chk_nil
       refine wpRest_nil ?_;go_wp2;refine leaves_cons (f:=35) (args:= #[.pointer (some ⟨(w.heap.size+1+1+1+1),0,none⟩),.pointer (some ⟨w.heap.size,0,none⟩),.pointer (some ⟨w2.heap.size,0,none⟩),.pointer (some ⟨(w.heap.size+1+1),0,none⟩),.pointer (some ⟨(w.heap.size+1+1+1),0,none⟩)]) (by simp) (by simp [go_sem]) ?_
       have hs8:=((((((((((HS7.out.set (w2.heap.size+1) 4 (.slice none 0 0)).set (w2.heap.size+1) 5 (.slice none 0 0)).set (w2.heap.size+1) 6 (.int .i64 0)).set (w2.heap.size+1) 7 (.int .i64 0)).set (w.heap.size+1+1+1+1) 0 (.int .i64 er)).set (w.heap.size+1+1) 0 (.int .i64 0)).set (w.heap.size+1+1) 1 (.int .i64 0)).set (w.heap.size+1+1) 2 (.int .i64 0)).set (w.heap.size+1+1+1) 0 (.bool ws)).set (w.heap.size+1+1+1+1) 0 (.int .i64 er)).drew
       rw [HMK.out] at hs8
       refine(put1_err (w.heap.size+1+1+1+1) w.heap.size w2.heap.size (w.heap.size+1+1) (w.heap.size+1+1+1) v s s [] r HH.out.1 .refl er 0 0 0 ws HE.out .returning _ _ (OwnL.in6 (hs8.pull6 (A1:=VaultA v s) (A2:=Pr.pts (w.heap.size+1+1+1+1) (.cells #[.int .i64 er] 25)) (A3:=Pr.pts w.heap.size (.cells #[.pointer (some ⟨v,0,none⟩)] 24)) (A4:=Pr.pts w2.heap.size (.cells #[.int .i64 (s.floor+((s.acts.length:Nat):Int))] 3)) (A5:=Pr.pts (w.heap.size+1+1) (treeC 0 0 0)) (A6:=Pr.pts (w.heap.size+1+1+1) (.cells #[.bool ws] 4))))).mono ?_
       rintro e u' w'' ⟨rfl,rfl,st6,hs9⟩;have hs10:=hs9.flat
       exact⟨_,results_cell3 rfl _ _ (w.heap.size+1+1) (treeV 0 0 0) rfl (run_loadVar_row _ (w.heap.size+1+1) _ _ _ _ _ (hs10.pts (w.heap.size+1+1)).pts_heap Tryz.underlying38 rfl infoTreeP) (w.heap.size+1+1+1) (.bool false) rfl (load_bool (hs10.pts (w.heap.size+1+1+1)).pts_heap) (w.heap.size+1+1+1+1) (.int .i64 er) rfl (load_errno (hs10.pts (w.heap.size+1+1+1+1)).pts_heap),
        (((((((((((HST3.out.setCell _ _).setCell _ _).setCell _ _).setCell _ _).setCell _ _).setCell _ _).setCell _ _).setCell _ _).setCell _ _).setCell _ _).drew).trans st6,0,0,0,false,er,rfl,.inr ⟨HE.out,rfl,rfl,rfl,rfl,HERR.out,hs10.to⟩⟩
     · have hs7:=(OwnL.of4 hs6).join2 (BytesRow kv' K) (BytesRow vv' (if V.length≤32 then V else []))
       obtain⟨hb,hhb,hs8⟩:=hs7.arena ((BytesRow kv' K).star (BytesRow vv' (if V.length≤32 then V else [])));obtain⟨hb1,hb2⟩:=two_rows hhb;obtain⟨ka',kc',rfl⟩:=bytes_shape hb1;obtain⟨va',vc',rfl⟩:=bytes_shape hb2;obtain⟨x,hx⟩:∃x,x=storedI K V c:=⟨_,rfl⟩;have hxk:x.key=K:=by rw [hx]
       have hxv:x.value=(if V.length≤32 then V else []):=by rw [hx]
       have hxs:x.size=(V.length:Int):=by rw [hx]
       have hxc:x.child=c:=by rw [hx]
       have hxl:x.value.length≤32:=by rw [hxv];split<;>simp_all
       rw [← hxk] at hb1;rw [← hxv] at hb2;have hok1:=(vault_ok (hs8.pull1 (A1:=VaultA v s1))).1;obtain⟨v1,k1,S1,hc1,same1,_⟩:=store_open (K:=K) HH.out.2.1 HH.out.2.2.2.1 htk hsa hok1;have hst1:=stand_keep HH.out.2.1 same1 (fun q hq=>List.mem_append_left _ hq) HH.out.2.2.2.2.1;have hlen:=(store_len hsa).2;obtain⟨rm1,q1,hq1⟩:=store_room HH.out.2.1.ok HH.out.2.2.1 htk hlen;rw [← hx] at hc1
       have hc2:Clo s1.get s1.pool.count S1 (rootC rt++(placeC x++P)):=hc1.perm (perm_swap3 _ _ _);rw [← hxk,show (if V.length≤32 then V else []).length=x.value.length by rw [hxv]]
       have hs9:=((((hs8.set (w2.heap.size+1) 4 (.slice ka' x.key.length kc')).set (w2.heap.size+1) 5 (.slice va' x.value.length vc')).set (w2.heap.size+1) 6 (.int .i64 x.child)).set (w2.heap.size+1) 7 (.int .i64 x.size)).set (w.heap.size+1+1+1+1) 0 (.int .i64 0)
       have HST4:=hQ (((((HST3.out.setCell ⟨w2.heap.size+1,4,none⟩ (.slice ka' x.key.length kc')).setCell ⟨w2.heap.size+1,5,none⟩ (.slice va' x.value.length vc')).setCell ⟨w2.heap.size+1,6,none⟩ (.int .i64 x.child)).setCell ⟨w2.heap.size+1,7,none⟩ (.int .i64 x.size)).setCell ⟨(w.heap.size+1+1+1+1),0,none⟩ (.int .i64 0))
       have PU:=hQ (fun f hf=>put_all (w2.heap.size+1) v f rt ht it _ _ x ws hf hb hb1 hb2 (by rw [hxk];exact HK.out.2.2.1) ⟨by rw [hxk];have:=HK.out.2.2.2.2.2;omega,by omega⟩ s1 v1 k rm1 S1 (placeC x++P) hc2 L hst1 (fun e=>by rw [hxk];exact find_mem (by rw [← HWS.out];exact e)) (by rw [hxk];exact HK.out.2.2.2.1) HH.out.2.2.2.2.2 _ _ (OwnL.in3 (hs9.pull3 (A1:=Pr.pts (w2.heap.size+1) (putC v rt ht it (.slice ka' x.key.length kc') (.slice va' x.value.length vc') x.child x.size ws)) (A2:=VaultA v s1) (A3:=Pr.own hb))))
       clear c1;have c1:=hs8.facts;simp only [CellsAt,Nat.reduceAdd,and_true] at c1;have HS1:=hQ (And.intro htk (And.intro hsa (And.intro hok1 hq1)));have HX:=hQ (And.intro hx (And.intro hxc hxs));dsimp only [itemV];rw [← hxc, ← hxs];clear hs6 hs7 hs8 hs9 hhb hb1 hb2 hxk hxv hxl hok1 v1 k1 hc1 hc2 same1 hst1 hlen rm1 hq1 hx hxc hxs htk hsa st3 ST HST2 HST3 hE;cases ws
       · have PV:=hQ (PU.out _ rfl)
         clear PU;go_wp2_with fail
         refine PV.out.mono ?_;rintro e w4 ⟨st4,er,rfl,h4⟩;obtain⟨s2,rt',ht',it',q2,hq2,hs10,hcase⟩:=put_split h4;have hs11:=hs10.flat;clear c1;have c1:=hs11.facts;simp only [CellsAt,Nat.reduceAdd,and_true] at c1;have HQ:=hQ (And.intro hq2 hcase);have HS11:=hQ hs11;have HST5:=hQ (HST4.out.trans st4);clear hs10 hs11 h4 hq2 hcase st4 PV HST4;go_wp2_with fail
         refine wS 78 [0,1,2,3,4,5] [(6,[],[4,5]),(7,[],[5]),(8,[],[])] ?_;refine wpQ_all _ rfl rfl ?_;simp only [pick,pQ];iterate 6 (go_big_quiet_step (fail))
         refine wpQuiet_nil ?_;refine wpRest_act rfl ?_;go_wp2_with fail
         refine onN_mk ?_;refine wpQ_nil ⟨?_,?_⟩
         · refine chk_all _ rfl rfl ?_
           simp only [pick,Sl.Same,pQ,and_true];repeat' (first | apply And.intro | (go_big_quiet_step (fail);exact wpQuiet_nil rfl))
         refine wpRest_act rfl ?_;go_wp2_with fail
         refine onN_mk ?_;refine wpQ_nil ⟨?_,?_⟩
         · refine chk_all _ rfl rfl ?_
           simp only [pick,Sl.Same,pQ,and_true];repeat' (first | apply And.intro | (go_big_quiet_step (fail);exact wpQuiet_nil rfl))
         refine wpRest_act rfl ?_;go_wp2_with fail
         refine onN_mk ?_;refine wpQ_nil ⟨?_,?_⟩
         · exact chk_nil
         refine wpRest_nil ?_;go_wp2;refine leaves_cons (f:=35) (args:= #[.pointer (some ⟨(w.heap.size+1+1+1+1),0,none⟩),.pointer (some ⟨w.heap.size,0,none⟩),.pointer (some ⟨w2.heap.size,0,none⟩),.pointer (some ⟨(w.heap.size+1+1),0,none⟩),.pointer (some ⟨(w.heap.size+1+1+1),0,none⟩)]) (by simp) (by simp [go_sem]) ?_
         have hs12:=((((((HS11.out.set (w.heap.size+1+1+1+1) 0 (.int .i64 er)).set (w.heap.size+1+1) 0 (.int .i64 rt')).set (w.heap.size+1+1) 1 (.int .i64 ht')).set (w.heap.size+1+1) 2 (.int .i64 it')).set (w.heap.size+1+1+1) 0 (.bool false)).set (w.heap.size+1+1+1+1) 0 (.int .i64 er)).drew;rw [HMK.out] at hs12;rcases HQ.out.2 with⟨rfl,htr,rm2⟩ | ⟨hne,hte⟩
         · refine(put1_ok (w.heap.size+1+1+1+1) w.heap.size w2.heap.size (w.heap.size+1+1) (w.heap.size+1+1+1) .returning _ (by rw [cell_of_heap (hs12.pts (w.heap.size+1+1+1+1)).pts_heap];rfl)).mono ?_
           rintro e u' w'' ⟨rfl,rfl,rfl⟩
           exact⟨_,results_cell3 rfl _ _ (w.heap.size+1+1) (treeV rt' ht' it') rfl (run_loadVar_row _ (w.heap.size+1+1) _ _ _ _ _ (hs12.pts (w.heap.size+1+1)).pts_heap Tryz.underlying38 rfl infoTreeP) (w.heap.size+1+1+1) (.bool false) rfl (load_bool (hs12.pts (w.heap.size+1+1+1)).pts_heap) (w.heap.size+1+1+1+1) (.int .i64 0) rfl (load_errno (hs12.pts (w.heap.size+1+1+1+1)).pts_heap),
            ((((((HST5.out.setCell _ _).setCell _ _).setCell _ _).setCell _ _).setCell _ _).setCell _ _).drew,rt',ht',it',false,0,rfl,.inl ⟨rfl,HK.out.2.2.2.1,HK.out.2.2.2.2.1,HWS.out,s2,⟨c,s1,ns,HS1.out.1,HS1.out.2.1,HS1.out.2.2.1,by rw [← HX.out.1];exact htr⟩,rm2,⟨_,HS1.out.2.2.2.trans HQ.out.1⟩,hs12.to⟩⟩
         · refine(put1_err (w.heap.size+1+1+1+1) w.heap.size w2.heap.size (w.heap.size+1+1) (w.heap.size+1+1+1) v s s2 _ r HH.out.1 (HS1.out.2.2.2.trans HQ.out.1) er rt' ht' it' false hne .returning _ _ (OwnL.in6 (hs12.pull6 (A1:=VaultA v s2) (A2:=Pr.pts (w.heap.size+1+1+1+1) (.cells #[.int .i64 er] 25)) (A3:=Pr.pts w.heap.size (.cells #[.pointer (some ⟨v,0,none⟩)] 24)) (A4:=Pr.pts w2.heap.size (.cells #[.int .i64 (s.floor+((s.acts.length:Nat):Int))] 3)) (A5:=Pr.pts (w.heap.size+1+1) (treeC rt' ht' it')) (A6:=Pr.pts (w.heap.size+1+1+1) (.cells #[.bool false] 4))))).mono ?_
           rintro e u' w'' ⟨rfl,rfl,st6,hs13⟩;have hs14:=hs13.flat
           refine⟨_,results_cell3 rfl _ _ (w.heap.size+1+1) (treeV 0 0 0) rfl (run_loadVar_row _ (w.heap.size+1+1) _ _ _ _ _ (hs14.pts (w.heap.size+1+1)).pts_heap Tryz.underlying38 rfl infoTreeP) (w.heap.size+1+1+1) (.bool false) rfl (load_bool (hs14.pts (w.heap.size+1+1+1)).pts_heap) (w.heap.size+1+1+1+1) (.int .i64 er) rfl (load_errno (hs14.pts (w.heap.size+1+1+1+1)).pts_heap),
            (((((((HST5.out.setCell _ _).setCell _ _).setCell _ _).setCell _ _).setCell _ _).setCell _ _).drew).trans st6,0,0,0,false,er,rfl,.inr ⟨hne,rfl,rfl,rfl,rfl,.inr (.inr ⟨HK.out.2.2.2.1,HK.out.2.2.2.2.1,?_⟩),hs14.to⟩⟩
           rw [← HWS.out];exact .inr ⟨c,s1,ns,HS1.out.1,HS1.out.2.1,HS1.out.2.2.1,by rw [← HX.out.1];exact hte⟩
       · have PV:=hQ (PU.out _ rfl)
         clear PU;go_wp2_with fail
         refine PV.out.mono ?_;rintro e w4 ⟨st4,er,rfl,h4⟩;obtain⟨s2,rt',ht',it',q2,hq2,hs10,hcase⟩:=put_split h4;have hs11:=hs10.flat;clear c1;have c1:=hs11.facts;simp only [CellsAt,Nat.reduceAdd,and_true] at c1;have HQ:=hQ (And.intro hq2 hcase);have HS11:=hQ hs11;have HST5:=hQ (HST4.out.trans st4);clear hs10 hs11 h4 hq2 hcase st4 PV HST4;go_wp2_with fail
         refine wS 78 [0,1,2,3,4,5] [(6,[],[4,5]),(7,[],[5]),(8,[],[])] ?_;refine wpQ_all _ rfl rfl ?_;simp only [pick,pQ];iterate 6 (go_big_quiet_step (fail))
         refine wpQuiet_nil ?_;refine wpRest_act rfl ?_;go_wp2_with fail
         refine onN_mk ?_;refine wpQ_nil ⟨?_,?_⟩
         · refine chk_all _ rfl rfl ?_
           simp only [pick,Sl.Same,pQ,and_true];repeat' (first | apply And.intro | (go_big_quiet_step (fail);exact wpQuiet_nil rfl))
         refine wpRest_act rfl ?_;go_wp2_with fail
         refine onN_mk ?_;refine wpQ_nil ⟨?_,?_⟩
         · refine chk_all _ rfl rfl ?_
           simp only [pick,Sl.Same,pQ,and_true];repeat' (first | apply And.intro | (go_big_quiet_step (fail);exact wpQuiet_nil rfl))
         refine wpRest_act rfl ?_;go_wp2_with fail
         refine onN_mk ?_;refine wpQ_nil ⟨?_,?_⟩
         · exact chk_nil
         refine wpRest_nil ?_;go_wp2;refine leaves_cons (f:=35) (args:= #[.pointer (some ⟨(w.heap.size+1+1+1+1),0,none⟩),.pointer (some ⟨w.heap.size,0,none⟩),.pointer (some ⟨w2.heap.size,0,none⟩),.pointer (some ⟨(w.heap.size+1+1),0,none⟩),.pointer (some ⟨(w.heap.size+1+1+1),0,none⟩)]) (by simp) (by simp [go_sem]) ?_
         have hs12:=((((((HS11.out.set (w.heap.size+1+1+1+1) 0 (.int .i64 er)).set (w.heap.size+1+1) 0 (.int .i64 rt')).set (w.heap.size+1+1) 1 (.int .i64 ht')).set (w.heap.size+1+1) 2 (.int .i64 it')).set (w.heap.size+1+1+1) 0 (.bool true)).set (w.heap.size+1+1+1+1) 0 (.int .i64 er)).drew;rw [HMK.out] at hs12;rcases HQ.out.2 with⟨rfl,htr,rm2⟩ | ⟨hne,hte⟩
         · refine(put1_ok (w.heap.size+1+1+1+1) w.heap.size w2.heap.size (w.heap.size+1+1) (w.heap.size+1+1+1) .returning _ (by rw [cell_of_heap (hs12.pts (w.heap.size+1+1+1+1)).pts_heap];rfl)).mono ?_
           rintro e u' w'' ⟨rfl,rfl,rfl⟩
           exact⟨_,results_cell3 rfl _ _ (w.heap.size+1+1) (treeV rt' ht' it') rfl (run_loadVar_row _ (w.heap.size+1+1) _ _ _ _ _ (hs12.pts (w.heap.size+1+1)).pts_heap Tryz.underlying38 rfl infoTreeP) (w.heap.size+1+1+1) (.bool true) rfl (load_bool (hs12.pts (w.heap.size+1+1+1)).pts_heap) (w.heap.size+1+1+1+1) (.int .i64 0) rfl (load_errno (hs12.pts (w.heap.size+1+1+1+1)).pts_heap),
            ((((((HST5.out.setCell _ _).setCell _ _).setCell _ _).setCell _ _).setCell _ _).setCell _ _).drew,rt',ht',it',true,0,rfl,.inl ⟨rfl,HK.out.2.2.2.1,HK.out.2.2.2.2.1,HWS.out,s2,⟨c,s1,ns,HS1.out.1,HS1.out.2.1,HS1.out.2.2.1,by rw [← HX.out.1];exact htr⟩,rm2,⟨_,HS1.out.2.2.2.trans HQ.out.1⟩,hs12.to⟩⟩
         · refine(put1_err (w.heap.size+1+1+1+1) w.heap.size w2.heap.size (w.heap.size+1+1) (w.heap.size+1+1+1) v s s2 _ r HH.out.1 (HS1.out.2.2.2.trans HQ.out.1) er rt' ht' it' true hne .returning _ _ (OwnL.in6 (hs12.pull6 (A1:=VaultA v s2) (A2:=Pr.pts (w.heap.size+1+1+1+1) (.cells #[.int .i64 er] 25)) (A3:=Pr.pts w.heap.size (.cells #[.pointer (some ⟨v,0,none⟩)] 24)) (A4:=Pr.pts w2.heap.size (.cells #[.int .i64 (s.floor+((s.acts.length:Nat):Int))] 3)) (A5:=Pr.pts (w.heap.size+1+1) (treeC rt' ht' it')) (A6:=Pr.pts (w.heap.size+1+1+1) (.cells #[.bool true] 4))))).mono ?_
           rintro e u' w'' ⟨rfl,rfl,st6,hs13⟩;have hs14:=hs13.flat
           refine⟨_,results_cell3 rfl _ _ (w.heap.size+1+1) (treeV 0 0 0) rfl (run_loadVar_row _ (w.heap.size+1+1) _ _ _ _ _ (hs14.pts (w.heap.size+1+1)).pts_heap Tryz.underlying38 rfl infoTreeP) (w.heap.size+1+1+1) (.bool false) rfl (load_bool (hs14.pts (w.heap.size+1+1+1)).pts_heap) (w.heap.size+1+1+1+1) (.int .i64 er) rfl (load_errno (hs14.pts (w.heap.size+1+1+1+1)).pts_heap),
            (((((((HST5.out.setCell _ _).setCell _ _).setCell _ _).setCell _ _).setCell _ _).setCell _ _).drew).trans st6,0,0,0,false,er,rfl,.inr ⟨hne,rfl,rfl,rfl,rfl,.inr (.inr ⟨HK.out.2.2.2.1,HK.out.2.2.2.2.1,?_⟩),hs14.to⟩⟩
           rw [← HWS.out];exact .inr ⟨c,s1,ns,HS1.out.1,HS1.out.2.1,HS1.out.2.2.1,by rw [← HX.out.1];exact hte⟩
   · have hv3:3840<(V.length:Int):=by omega
     have HEND:=hQ (And.intro hkr (And.intro hvl (hsE 8)));clear hF hs0 hsE H vi rm hc hs hit hK hV uk hkr hvl hk2 nk nv c1;go_enter Tryz.func11,Tryz.ntmps11
     go_wp2
     refine bodyPost_ret (results_cell3 rfl _ _ (w.heap.size+1+1) (treeV 0 0 0) rfl (run_loadVar_row _ (w.heap.size+1+1) _ _ _ _ _ (HEND.out.2.2.pts (w.heap.size+1+1)).pts_heap Tryz.underlying38 rfl infoTreeP) (w.heap.size+1+1+1) (.bool false) rfl (load_bool (HEND.out.2.2.pts (w.heap.size+1+1+1)).pts_heap) (w.heap.size+1+1+1+1) (.int .i64 8) rfl (load_errno (HEND.out.2.2.pts (w.heap.size+1+1+1+1)).pts_heap)) rfl ?_
     exact⟨HSTE.out 8,0,0,0,false,8,rfl,.inr ⟨by decide,rfl,rfl,rfl,rfl,.inr (.inl ⟨HEND.out.1,by have:=HEND.out.2.1;omega,rfl⟩),HEND.out.2.2.to⟩⟩
 · have hkr2:¬(1≤K.length∧K.length≤24):=of_decide_eq_false (Bool.eq_false_iff.2 hkr)
   have hkf:keyR K=false:=Bool.eq_false_iff.2 hkr;have HEND:=hQ (And.intro hkf (hsE 7));have hor:(K.length:Int)<1∨¬(K.length:Int)<1∧24<(K.length:Int):=by omega
   clear hF hs0 hsE H vi rm hc hs hit hK hV uk hkr hkf nk nv hkr2 c1;rcases hor with hk3 | ⟨hk3,hk4⟩
   all_goals
    go_enter Tryz.func11,Tryz.ntmps11
    go_wp2
    refine bodyPost_ret (results_cell3 rfl _ _ (w.heap.size+1+1) (treeV 0 0 0) rfl (run_loadVar_row _ (w.heap.size+1+1) _ _ _ _ _ (HEND.out.2.pts (w.heap.size+1+1)).pts_heap Tryz.underlying38 rfl infoTreeP) (w.heap.size+1+1+1) (.bool false) rfl (load_bool (HEND.out.2.pts (w.heap.size+1+1+1)).pts_heap) (w.heap.size+1+1+1+1) (.int .i64 7) rfl (load_errno (HEND.out.2.pts (w.heap.size+1+1+1+1)).pts_heap)) rfl ?_
    exact⟨HSTE.out 7,0,0,0,false,7,rfl,.inr ⟨by decide,rfl,rfl,rfl,rfl,.inl ⟨HEND.out.1,rfl⟩,HEND.out.2.to⟩⟩
end Go.Proofs.YtkfjilnmnbeokaaGreat.U9
namespace Go.Cop
open Go.Proofs.YtkfjilnmnbeokaaGreat.D6 Go.Proofs.YtkfjilnmnbeokaaGreat.D8 Go.Proofs.YtkfjilnmnbeokaaGreat.M7 Go.Proofs.YtkfjilnmnbeokaaGreat.D2 Go.Proofs.YtkfjilnmnbeokaaGreat.J3 Go.Proofs.YtkfjilnmnbeokaaGreat.V3 Go.Proofs.YtkfjilnmnbeokaaGreat.J7 Go.Proofs.YtkfjilnmnbeokaaGreat.Q3 Go.Proofs.YtkfjilnmnbeokaaGreat.P8 Go.Proofs.YtkfjilnmnbeokaaGreat.C7 Go.Proofs.YtkfjilnmnbeokaaGreat.M4 Go.Proofs.YtkfjilnmnbeokaaGreat.V5 Go.Proofs.YtkfjilnmnbeokaaGreat.U9
theorem new_count(refs:Int)(n:Nat)(m:Int):(newV refs n).pool.count m=0:=by
 unfold PoolS.count;split
 · show (List.replicate n (0:Int)).getD (m.toNat-1) 0=0
   rw [List.getD_eq_getElem?_getD,List.getElem?_replicate];split<;>rfl
 · rfl
theorem new_lasts(refs:Int)(n:Nat)(m:Int):(newV refs n).pool.lasts m=false:=by
 unfold PoolS.lasts;show (lastsOf (List.replicate n (0:Int))).getD (m.toNat-1) false=false
 unfold lastsOf;rw [List.map_replicate,List.getD_eq_getElem?_getD,List.getElem?_replicate];split<;>rfl
theorem sum_zeros(n:Nat):sumC (List.replicate n (0:Int))=0:=by
 induction n with
 | zero=>rfl
 | succ n ih=>
   rw [List.replicate_succ];unfold sumC at*;simp_all
theorem new_facts {n:Nat}{refs:Int}(h:rangeOk n refs=true)(k:Nat)(hk:k≤100000):VInv (newV refs n)∧Lone (newV refs n)∧HistV [] (newV refs n)∧RoomV (newV refs n) k∧Clo (newV refs n).get (newV refs n).pool.count [] (rootC 0++ [])∧StandN (lookV (newV refs n)) 0 0 0 []:=by
 obtain⟨h1,h2,h3,h4⟩:=rangeOk_iff.1 h
 have ok:PoolOk (newV refs n).pool:=by
  refine⟨?_,?_,?_,h3,h4,fun c hc=> ?_,Int.le_refl _,by simp⟩
  · show 1≤(List.replicate n (0:Int)).length
    rw [List.length_replicate];omega
  · show (List.replicate n (0:Int)).length≤65536
    rw [List.length_replicate];omega
  · show (lastsOf (List.replicate n (0:Int))).length=(List.replicate n (0:Int)).length
    unfold lastsOf;rw [List.length_map]
  · rw [(List.mem_replicate.1 (show c∈List.replicate n (0:Int) from hc)).2]
    exact⟨Int.le_refl _,by decide⟩
 refine⟨⟨ok,fun m=> ?_,(fun m _=>rfl),(fun m hm=>absurd (new_count refs n m) hm),(fun m g hg=>by cases hg),(fun m g hg=>by cases hg)⟩,⟨(fun m=>by rw [new_count];decide),fun m=>new_lasts refs n m⟩,rfl,⟨?_,?_⟩,⟨List.nodup_nil,(fun m hm=>by cases hm),(fun m hm=>by cases hm),(fun p hp=>by simp [rootC] at hp),(fun k hk=>by cases hk)⟩,.inl ⟨rfl,rfl,rfl,rfl⟩⟩
 · rw [new_count]
   show (0:Int)≤refs
   omega
 · show (0:Int)+((0:Nat):Int)+((sumC (List.replicate n (0:Int)):Nat):Int)+ _+ _< _
   rw [sum_zeros];omega
 · show (0:Int)+((0:Nat):Int)+ _< _
   omega
theorem taken_nil {s t:VaultS}(h:Taken s t [])(hl:s.pool.counts.length≤65536):t=s:=by
 obtain⟨q,h1,_⟩:=steps_after h.steps hl;have h2:=h1.len.2;have h3:=h.va;simp only [List.length_nil,Nat.add_zero] at h3;have hq:q= []:=List.eq_nil_of_length_eq_zero (by omega);subst hq;cases h1;rfl
theorem short_store {s s1:VaultS}{c:Int}{V ns:List Int}(ok:PoolOk s.pool)(hv:V.length≤32)(ht:Taken s s1 ns)(hs:StoreAt s1 c V ns):c=0∧s1=s:=by
 rcases hs with⟨_,rfl,rfl⟩ | ⟨h,_⟩
 · exact⟨rfl,taken_nil ht ok.n2⟩
 · omega
theorem put_first {s s':VaultS}{K V:List Int}{was:Bool}{rt ht it:Int}(h:VInv s)(h1:s.pool.state 1=1)(hv:V.length≤32)(hp:PutR s 0 0 0 K V was s' rt ht it):
 rt=1∧ht=1∧it=1∧MkR s ⟨1,0,[storedI K V 0],[],0⟩ 1 s':=by
 obtain⟨c,s1,ns,ht',hst,ok1,h2⟩:=hp;obtain⟨rfl,rfl⟩:=short_store h.ok hv ht' hst;rcases h2 with⟨_,_,hm,rfl,rfl⟩ | ⟨h0,_⟩
 · have hm2:=hm
   obtain⟨_,⟨hs1,hlow⟩,_,_⟩:=hm;have hle:=hlow 1 h1;have hth:=(there_of_state (s:=s1.pool) (n:=rt) (by omega)).1;have e:rt=1:=by omega
   subst e;exact⟨rfl,rfl,rfl,hm2⟩
 · exact absurd rfl h0
theorem put_first_ok {s:VaultS}{K V:List Int}{was:Bool}{e:Int}(h:VInv s)(h1:s.pool.state 1=1)(hk:1≤K.length∧K.length≤24)(hv:V.length≤32)(hc:checkP ⟨1,0,[storedI K V 0],[],0⟩=0):¬PutE s 0 0 K V was e:=by
 rintro(⟨h2,_⟩ | ⟨c,s1,ns,ht',hst,ok1,(⟨_,h3⟩ | ⟨h0,_⟩)⟩)
 · refine h2 ?_
   unfold storeE pagesV;rw [if_neg (by omega),if_neg (by omega),if_pos hv,if_neg (by omega)]
 · obtain⟨rfl,rfl⟩:=short_store h.ok hv ht' hst
   obtain⟨_,(⟨h4,_⟩ | ⟨_,_,h4⟩)⟩:=h3
   · exact h4 hc
   · exact h4 1 h1
 · exact h0 rfl
theorem leaf_add {s:VaultS}{g:PageV}{K V:List Int}(h:VInv s)(hl:Lone s)(hc1:s.pool.count 1≠0)(on:s.on 1=some g)(hk1:g.kind=1)(h8:g.items.length<8)(hv:V.length≤32)(hk:1≤K.length∧K.length≤24)
 (hg:checkP (insG g (searchK K g.items).1 (storedI K V 0))=0):
 (∀e,¬PutE s 1 1 K V false e)∧∀s' rt ht it,PutR s 1 1 1 K V false s' rt ht it→rt=1∧ht=1∧it=2∧WrR s 1 (insG g (searchK K g.items).1 (storedI K V 0)) s':=by
 have own:=hl.own h hc1;have hk2:g.kind≠2:=by rw [hk1];decide
 have shE:∀e,¬ShE s 1 e:=by
  rintro e ⟨_,(⟨h1,_⟩ | ⟨_,h1,_⟩)⟩
  · exact hc1 h1
  · rw [own] at h1;cases h1
 have hfE:∀e,¬HalfE s 1 e:=by
  rintro e ⟨_,(⟨h1,_⟩ | ⟨g',h1,h2,_⟩)⟩
  · exact hc1 h1
  · rw [on] at h1;cases h1;omega
 have hfR:∀m sep s2,HalfR s 1 m sep s2→m=0∧s2=s:=by
  rintro m sep s2 ⟨g',h1,(⟨_,h2,_,h3⟩ | ⟨h2,_⟩)⟩
  · exact⟨h2,h3⟩
  · rw [on] at h1;cases h1;omega
 have rtR:∀s2 n h',RootR s 1 1 s2 n h'→s2=s∧n=1∧h'=1:=by
  rintro s2 n h' ⟨c,s1,m,sep,s3,h1,h2,h3⟩;obtain⟨rfl,rfl⟩:=sh_lone h hl h1;obtain⟨rfl,rfl⟩:=hfR _ _ _ h2;rcases h3 with⟨_,rfl,rfl,rfl⟩ | ⟨h3,_⟩
  · exact⟨rfl,rfl,rfl⟩
  · exact absurd rfl h3
 constructor
 · rintro e (⟨h2,_⟩ | ⟨c,s1,ns,ht',hst,ok1,(⟨h0,_⟩ | ⟨_,(h3 | ⟨s2,n,h',hr,hlE⟩)⟩)⟩)
   · refine h2 ?_
     unfold storeE pagesV;rw [if_neg (by omega),if_neg (by omega),if_pos hv,if_neg (by omega)]
   · cases h0
   · obtain⟨rfl,rfl⟩:=short_store h.ok hv ht' hst
     rcases h3 with h3 | ⟨c,s2,h3,h4⟩
     · exact shE e h3
     · obtain⟨rfl,rfl⟩:=sh_lone h hl h3
       rcases h4 with h4 | ⟨m,sep,s3,h4,h5,_⟩
       · exact hfE e h4
       · exact h5 (hfR _ _ _ h4).1
   · obtain⟨rfl,rfl⟩:=short_store h.ok hv ht' hst
     obtain⟨rfl,rfl,rfl⟩:=rtR _ _ _ hr;cases hlE with
     | read _ _ _ h0=>exact hc1 h0
     | full _ _ g' o1 _ o2=>rw [on] at o1;cases o1;omega
     | add _ _ g' _ o1 _ o2=>
       rw [on] at o1;cases o1;obtain⟨_,(⟨o3,_⟩ | ⟨_,o3,_⟩)⟩:=o2
       · rw [own] at o3;cases o3
       · exact o3 hg
     | down _ _ _ g' _ o1 o2 _=>rw [on] at o1;cases o1;exact hk2 o2
     | more _ _ _ g' _ _ _ o1 o2 _ _=>rw [on] at o1;cases o1;exact hk2 o2
 · rintro s' rt ht it ⟨c,s1,ns,ht',hst,ok1,(⟨h0,_⟩ | ⟨_,s2,hr,hlo,rfl⟩)⟩
   · cases h0
   · obtain⟨rfl,rfl⟩:=short_store h.ok hv ht' hst
     obtain⟨rfl,rfl,rfl⟩:=rtR _ _ _ hr;cases hlo with
     | add _ _ g' _ o1 _ o2=>rw [on] at o1;cases o1;exact⟨rfl,rfl,rfl,o2⟩
     | down _ _ _ g' _ _ _ o1 o2 _ _=>rw [on] at o1;cases o1;exact absurd o2 hk2
end Go.Cop
namespace Go.Proofs.YtkfjilnmnbeokaaGreat.V9
open ChangeShapes WideShapes ChangeAt RowKit Sl Cop Deep D2 D3 J3 V3 G2 J2 X3 Z3 Y3 Y5 K7 Z8 U9
def trCells(t:TreeV):List Value:= [.int .i64 t.root,.int .i64 t.height,.int .i64 t.items]
abbrev TrIn(h:Hp)(v:Value)(l:List TreeV):Prop:=RowIn h 3 v l.length (l.flatMap trCells)
abbrev TrRow(v:Value)(l:List TreeV):Pr:=Row 38 3 v l.length (l.flatMap trCells)
theorem infoTreeZ:(Tryz.prog.info? 38).map (fun i=>(i.zero,i.size,i.bytes))=some (some (treeV 0 0 0),3,24):=by kernel_rfl
theorem tr_rd {h:Hp}{v:Value}{l:List TreeV}(hr:TrIn h v l):∃a c,v= .slice a l.length c∧∀i (hl:i<l.length),∃b off,a=some ⟨b,off,none⟩∧∀w,h.le w→w.cell? ⟨b,off+i*3,none⟩=some (.int .i64 l[i].root)∧w.cell? ⟨b,off+i*3+1,none⟩=some (.int .i64 l[i].height)∧w.cell? ⟨b,off+i*3+2,none⟩=some (.int .i64 l[i].items):=by
 obtain⟨_,a,c,e,_,_,hc⟩:=hr;refine⟨a,c,e,fun i hl=> ?_⟩;obtain⟨b,off,ea,hcell⟩:=hc (by omega);refine⟨b,off,ea,fun w hw=> ?_⟩
 have at':∀j,j<3→∀v,(trCells l[i])[j]? =some v→w.cell? ⟨b,off+i*3+j,none⟩=some v:=by
  intro j hj v hv;have h3:=hcell (i*3+j) (by omega);have h4:=flat_at trCells 3 (fun _=>rfl) l i j hl hj;rw [hv] at h4;rw [Nat.add_assoc];exact Hp.cell_le hw (h3.trans h4)
 exact⟨at' 0 (by omega) _ rfl,at' 1 (by omega) _ rfl,at' 2 (by omega) _ rfl⟩
theorem copytrees_any(h:Hp)(vl:Value)(l:List TreeV)(hl:TrIn h vl l)(hn:l.length≤4000000000)(F:Pr)(w:World)(hF:Sat ((Pr.own h).star F) w):
 Calls Tryz.prog 89 #[vl] w fun e w'=>Stays w w'∧∃o,e= .returned o∧OwnL [TrRow o l,Pr.own h,F] w':=by
 obtain⟨a,c,rfl,rd⟩:=tr_rd hl;obtain⟨i0,hi0,hz0,hz1,hz2⟩:=info_parts infoTreeZ;have hs0:=(OwnL.in1 hF).emp;rw [← Row.nil 38 3] at hs0;have HS0:=hQ hs0;have RD:=hQ rd;have HN:=hQ hn;clear hF hs0 rd hl hn;go_enter Tryz.func89,Tryz.ntmps89
 go_wp2;go_loopg [3,4] l.length (fun k o i wr=> ∃q:Nat,q+k=l.length∧i= .int .i64 q∧Stays w wr∧Hid (OwnL [Row 38 3 o q ((l.take q).flatMap trCells),Pr.own h,F] wr))
 case atStart=>exact⟨0,Nat.zero_add _,rfl,Stays.refl _,HS0⟩
 case round=>
  obtain⟨q,hqk,rfl,hst,hs⟩:=hrel;rename World=>wr
  obtain⟨ao,co,rfl⟩:=Row.shape (hs.out.pull1 (A1:=Row 38 3 u3 q ((l.take q).flatMap trCells)));rcases Nat.lt_or_ge q l.length with hlt | hge
  · obtain⟨k0,hk0⟩:∃k0,k0+1=gk:=⟨gk-1,by omega⟩
    obtain⟨b,off,rfl,rc⟩:=RD.out q hlt;obtain⟨d1,d2,d3⟩:=rc wr (hs.out.le (a:=h));have zb:=World.block_lt_of_cell? _ _ d1;simp only at zb;obtain⟨t,ht⟩:∃t,t=l[q]:=⟨_,rfl⟩;rw [← ht] at d1 d2 d3;have hqi:(q:Int)<(l.length:Int):=by omega
    have hA:=hs.out.alloc (treeC t.root t.height t.items);have H1:=hQ (hA.pull1 (A1:=Row 38 3 (.slice ao q co) q ((l.take q).flatMap trCells)));have HC:=hQ (new_cells wr (trCells t) 38 _ rfl);have HST:=hQ (hst.alloc (treeC t.root t.height t.items));have HT:=hQ ht;have hn9:=HN.out;clear hs hA hst ht rc HS0
    go_wp2_with (at_builtin;refine wpList_append_sl rfl _ _ _ rfl 38 i0 (treeV 0 0 0) 3 24 Tryz.underlying56 hi0 hz0 hz1 hz2 rfl _ _ _ rfl H1.out ⟨wr.heap.size,0,none⟩ 1 1 (trCells t) rfl rfl HC.out (by simp [trCells,Value.oneCell']) (by simp only [maxLen];omega) (by omega) ?_;intro v7 w4 hs4 hg4 _;obtain⟨a7,c7,e7,_,_⟩:=Row.read hs4;subst e7;have HS4:=hQ (OwnL.of1 hs4);have HG4:=hQ (HST.out.of_grown hg4);clear hs4 hg4)
    go_roundg k0
    case measure=>omega
    case rel=>
     refine⟨q+1,by omega,congrArg (Value.int .i64) (by omega),HG4.out,hQ ?_⟩;have h8:=HS4.out.to (M:= [Row 38 3 (.slice a7 (q+1) c7) (q+1) ((l.take q).flatMap trCells++trCells t),Pr.own h,F]);rw [List.take_succ_eq_append_getElem hlt,List.flatMap_append, ← HT.out];simpa using h8
  · have hqi:¬(q:Int)<(l.length:Int):=by omega
    obtain rfl:q=l.length:=by omega
    have hs1:=hs.out;rw [List.take_length] at hs1;have HS1:=hQ hs1;have HST:=hQ hst;clear hs hs1 hst HS0;go_wp2;go_ret;exact⟨HST.out,_,rfl,HS1.out⟩
end Go.Proofs.YtkfjilnmnbeokaaGreat.V9
namespace Go.Proofs.YtkfjilnmnbeokaaGreat.X9
open ChangeShapes WideShapes ChangeAt RowKit Sl Cop Deep D2 D3 J3 V3 G2 J2 X3 Z3 Y3 Y5 K7 Z8 V9
theorem mk_boolsN(n:Nat)(hn:n≤65600):∀wx:World,(Instr.makeSlice 32 (.int .i64 (n:Int)) (.int .i64 (n:Int))).run Tryz.prog wx= .ok (.slice (some ⟨wx.heap.size,0,none⟩) n n) (wx.alloc (.cells (madeCells #[.bool false] n) 4)):=fun wx=>
 run_make_row' (P:=Tryz.prog) 32 4 (.bool false) 1 Tryz.underlying32 infoBool rfl .i64 .i64 n (by omega) (by omega) wx
theorem mk_intsN(n:Nat)(hn:n≤65600):∀wx:World,(Instr.makeSlice 31 (.int .i64 (n:Int)) (.int .i64 (n:Int))).run Tryz.prog wx= .ok (.slice (some ⟨wx.heap.size,0,none⟩) n n) (wx.alloc (.cells (madeCells #[.int .i64 0] n) 3)):=fun wx=>
 run_make_row' (P:=Tryz.prog) 31 3 (.int .i64 0) 8 Tryz.underlying31 infoInt rfl .i64 .i64 n (by omega) (by omega) wx
abbrev NoneRow(v:Value)(n:Nat):Pr:=Row 4 1 v n (List.replicate n (.bool false))
theorem met_zero(r:Nat)(s:PoolS)(gs:List PageV)(hush:RTail)(hn:1≤s.counts.length∧s.counts.length≤65536)(F:Pr)(w:World)(hF:Sat ((RefA r s gs hush).star F) w):
 Calls Tryz.prog 132 #[.pointer (some ⟨r,0,none⟩),treeV 0 0 0] w fun e w'=>Stays w w'∧∃o,e= .returned (.tuple #[o,.bool true])∧OwnL [NoneRow o s.counts.length,RefA r s gs hush,F] w':=by
 have hmk:=mk_boolsN s.counts.length (by omega);have hs1:=(OwnL.in1 hF).alloc (treeC 0 0 0);obtain⟨x,ok,h⟩:=refA_iff.1 (hs1.pull1 (A1:=RefA r s gs hush));obtain⟨ac,cc,al,cl,ap,cp,⟨q1,q2,q3,_⟩,z,_,rd⟩:=ref_rd ok h;have HST:=hQ ((Stays.refl w).alloc (treeC 0 0 0));have HS1:=hQ hs1;have HN:=hQ hn;clear rd hF h ok hs1 q2 q3;generalize s.counts.length=n at*;go_enter Tryz.func132,Tryz.ntmps132
 go_wp2;go_ret2;have hs2:=OwnL.of1 (row_made 4 (.bool false) n (by have:=HN.out;simp only [maxLen];omega) HS1.out.sat);rw [show (w.alloc (treeC 0 0 0)).heap.size=w.heap.size+1 by simp] at hs2;have hs3:=hs2.alloc (.cells #[.pointer (some ⟨r,0,none⟩),.slice (some ⟨w.heap.size+1,0,none⟩) n n,.bool false,.int .i64 0] 197)
 exact⟨(HST.out.alloc _).alloc _,.slice (some ⟨w.heap.size+1,0,none⟩) n n,rfl,hs3.to⟩
theorem rep_set {n k:Nat}{z:Value}:(List.replicate n z).set k z=List.replicate n z:=by
 apply List.ext_getElem
 · simp
 · intro i h1 h2
   rw [List.getElem_set];split<;>simp
theorem none_at {o:Value}{n:Nat}{F:Pr}{w:World}(h:Sat ((NoneRow o n).star F) w){k:Nat}(hk:k<n):
 ∃b c,o= .slice (some ⟨b,0,none⟩) n c∧w.cell? ⟨b,k,none⟩=some (.bool false)∧w.frozen? ⟨b,k,none⟩=false∧b<w.heap.size:=by
 obtain⟨a,c,rfl⟩:=Row.shape h;obtain⟨b,u,rfl,hu,h1,h2,h3⟩:=Row.at1 h k hk;rw [List.getElem?_replicate,if_pos hk] at hu;cases hu;exact⟨b,c,rfl,h1,h2,h3⟩
theorem none_set {b n c:Nat}{F:Pr}{w:World}(h:Sat ((NoneRow (.slice (some ⟨b,0,none⟩) n c) n).star F) w){k:Nat}(hk:k<n):Sat ((NoneRow (.slice (some ⟨b,0,none⟩) n c) n).star F) (w.setCell ⟨b,k,none⟩ (.bool false)):=by
 have:=Row.put1 h k (by simpa using hk) (.bool false)
 rwa [rep_set] at this
theorem stand_zero(r:Nat)(s:PoolS)(gs:List PageV)(hush:RTail)(hn:1≤s.counts.length∧s.counts.length≤65536)(h:Hp)(vl:Value)(hl:TrIn h vl [⟨0,0,0⟩])(F:Pr)(w:World)(hF:OwnL [RefA r s gs hush,Pr.own h,F] w):
 Calls Tryz.prog 91 #[.pointer (some ⟨r,0,none⟩),vl] w fun e w'=>Stays w w'∧e= .returned (.bool true)∧OwnL [RefA r s gs hush,Pr.own h,F] w':=by
 have hmk:=mk_boolsN s.counts.length (by omega);have hmi:=mk_intsN s.counts.length (by omega);obtain⟨a,c,rfl,rd⟩:=tr_rd hl;obtain⟨bt,off,rfl,rt⟩:=rd 0 (by decide);obtain⟨x,ok,hx⟩:=refA_iff.1 (hF.pull1 (A1:=RefA r s gs hush));obtain⟨ac,cc,al,cl,ap,cp,⟨q1,q2,q3,_⟩,z,_,_⟩:=ref_rd ok hx;have hs1:=OwnL.of1 (row_made 4 (.bool false) s.counts.length (by simp only [maxLen];omega) hF.sat)
 have hs2:=OwnL.of1 (row_made 3 (.int .i64 0) s.counts.length (by simp only [maxLen];omega) hs1.sat);have e1:(w.alloc (.cells (madeCells #[.bool false] s.counts.length) 4)).heap.size=w.heap.size+1:=by simp
 rw [e1] at hs2;have HST:=hQ (((Stays.refl w).alloc (.cells (madeCells #[.bool false] s.counts.length) 4)).alloc (.cells (madeCells #[.int .i64 0] s.counts.length) 3));have HS:=hQ hs2;have HN:=hQ hn;have RT:=hQ rt;have MZ:=hQ (fun FX wx hf=>met_zero r s gs hush hn FX wx hf);clear hF hl rd ok hx q2 q3 hs1 hs2 e1 rt hn;simp only [List.length_singleton];generalize s.counts.length=n at*
 go_enter Tryz.func91,Tryz.ntmps91
 go_wp2_with fail
 clear q1 z hmk hmi;obtain⟨B,hB⟩:∃B,B=w.heap.size:=⟨_,rfl⟩;rw [← hB] at HS ⊢;clear hB;obtain⟨LV,hLV⟩:∃L:Pr,L=Row 3 1 (.slice (some ⟨B+1,0,none⟩) n n) n (List.replicate n (.int .i64 0)):=⟨_,rfl⟩;have HS0:Hid (OwnL [NoneRow (.slice (some ⟨B,0,none⟩) n n) n,LV,RefA r s gs hush,Pr.own h,F] _):=hQ (by rw [hLV];exact HS.out.to);clear HS hLV
 go_loopg [7] 1 (fun kk i wr=> ∃q:Nat,q+kk=1∧i= .int .i64 q∧Stays w wr∧Hid (OwnL [NoneRow (.slice (some ⟨B,0,none⟩) n n) n,LV,RefA r s gs hush,Pr.own h,F] wr))
 case atStart=>exact⟨0,rfl,rfl,HST.out,HS0⟩
 case round=>
  obtain⟨q,hq,rfl,hst,hs⟩:=hrel;rename World=>wr
  have HST1:=hQ hst;clear HS0 HST hst;rcases Nat.lt_or_ge q 1 with hq1 | hq1
  · obtain rfl:q=0:=by omega
    obtain⟨d1,d2,d3⟩:=RT.out wr (hs.out.le (a:=h));simp only [Nat.zero_mul,Nat.add_zero,List.getElem_cons_zero] at d1 d2 d3;have zb:=World.block_lt_of_cell? _ _ d1;simp only at zb;have M1:=hQ (MZ.out _ wr (hs.out.pull1 (A1:=RefA r s gs hush)));go_wp2_with fail
    refine M1.out.mono ?_;rintro e w2 ⟨st2,o,rfl,hs2⟩;have hs3:=hs2.flat;obtain⟨oa,oc,rfl⟩:=Row.shape (hs3.pull1 (A1:=NoneRow o n));have HST2:=hQ (HST1.out.trans st2);have HS3:=hQ (hs3.to (M:= [NoneRow (.slice oa n oc) n,NoneRow (.slice (some ⟨B,0,none⟩) n n) n,LV,RefA r s gs hush,Pr.own h,F]));clear d1 d2 d3 zb M1 hs hs2 hs3 st2 HST1;go_wp2_with fail
    go_loopg [10] n (fun kk k wx=> ∃j:Nat,j+kk=n∧k= .int .i64 j∧Stays w wx∧Hid (OwnL [NoneRow (.slice oa n oc) n,NoneRow (.slice (some ⟨B,0,none⟩) n n) n,LV,RefA r s gs hush,Pr.own h,F] wx))
    case atStart=>exact⟨0,Nat.zero_add _,rfl,HST2.out,HS3⟩
    case round=>
     obtain⟨j,hj,rfl,hst,hs⟩:=hrel;rename World=>wx
     have HST3:=hQ hst;clear HS3 HST2 hst;rcases Nat.lt_or_ge j n with hlt | hge
     · obtain⟨k0,hk0⟩:∃k0,k0+1=gk:=⟨gk-1,by omega⟩
       obtain⟨b1,c1,e1,x1,x2,x3⟩:=none_at (hs.out.pull1 (A1:=NoneRow (.slice oa n oc) n)) hlt;obtain⟨b2,c2,e2,y1,y2,y3⟩:=none_at (hs.out.pull1 (A1:=NoneRow (.slice (some ⟨B,0,none⟩) n n) n)) hlt;cases e1;cases e2;have hji:(j:Int)<(n:Int):=by omega
       have hj9:(j:Int)<65536:=by have:=HN.out;omega
       have HN1:=hQ (OwnL.of1 (none_set (hs.out.pull1 (A1:=NoneRow (.slice (some ⟨B,0,none⟩) n n) n)) hlt));clear hs;go_wp2_with fail
       go_roundg k0
       case measure=>omega
       case rel=>exact⟨j+1,by omega,congrArg (Value.int .i64) (by omega),HST3.out.setCell _ _,hQ HN1.out.to⟩
     · have hji:¬(j:Int)<(n:Int):=by omega
       have HS4:=hQ (hs.out.to (M:= [NoneRow (.slice (some ⟨B,0,none⟩) n n) n,LV,RefA r s gs hush,Pr.own h,F]));obtain⟨d1,d2,d3⟩:=RT.out wx (hs.out.le (a:=h));simp only [Nat.zero_mul,Nat.add_zero,List.getElem_cons_zero] at d1 d2 d3;have zb:=World.block_lt_of_cell? _ _ d1;simp only at zb;clear hs;go_wp2_with fail
       go_roundg 0
       case measure=>omega
       case rel=>exact⟨1,rfl,rfl,HST3.out,HS4⟩
  · obtain rfl:q=1:=by omega
    go_wp2_with fail
    go_loopg [11] n (fun kk k wx=> ∃j:Nat,j+kk=n∧k= .int .i64 j∧Stays w wx∧Hid (OwnL [NoneRow (.slice (some ⟨B,0,none⟩) n n) n,LV,RefA r s gs hush,Pr.own h,F] wx))
    case atStart=>exact⟨0,Nat.zero_add _,rfl,HST1.out,hs⟩
    case round=>
     obtain⟨j,hj,rfl,hst,hs2⟩:=hrel;rename World=>wx
     have HST3:=hQ hst;clear hs HST1 hst;rcases Nat.lt_or_ge j n with hlt | hge
     · obtain⟨k0,hk0⟩:∃k0,k0+1=gk:=⟨gk-1,by omega⟩
       obtain⟨b2,c2,e2,y1,y2,y3⟩:=none_at (hs2.out.pull1 (A1:=NoneRow (.slice (some ⟨B,0,none⟩) n n) n)) hlt;cases e2;have hji:(j:Int)<(n:Int):=by omega
       have hj9:(j:Int)<65536:=by have:=HN.out;omega
       go_wp2_with fail
       go_roundg k0
       case measure=>omega
       case rel=>exact⟨j+1,by omega,congrArg (Value.int .i64) (by omega),HST3.out,hs2⟩
     · have hji:¬(j:Int)<(n:Int):=by omega
       go_wp2_with fail
       go_loopg [14] n (fun kk k wx=> ∃j:Nat,j+kk=n∧k= .int .i64 j∧Stays w wx∧Hid (OwnL [NoneRow (.slice (some ⟨B,0,none⟩) n n) n,LV,RefA r s gs hush,Pr.own h,F] wx))
       case atStart=>exact⟨0,Nat.zero_add _,rfl,HST3.out,hs2⟩
       case round=>
        obtain⟨j,hj,rfl,hst,hs⟩:=hrel;rename World=>wx
        have HST4:=hQ hst;clear hs2 HST3 hst;rcases Nat.lt_or_ge j n with hlt | hge
        · obtain⟨k0,hk0⟩:∃k0,k0+1=gk:=⟨gk-1,by omega⟩
          obtain⟨b2,c2,e2,y1,y2,y3⟩:=none_at (hs.out.pull1 (A1:=NoneRow (.slice (some ⟨B,0,none⟩) n n) n)) hlt;cases e2;have hji:(j:Int)<(n:Int):=by omega
          have hj9:(j:Int)<65536:=by have:=HN.out;omega
          go_wp2_with fail
          refine wS 139 [0,1,2,3,4,5,6,7,8,9,10,11,12,13,14,15,16,17] [] ?_;refine wpQ_all _ rfl rfl ?_;simp only [pick,pQ];iterate 18 (go_big_quiet_step (fail))
          refine wpQuiet_nil ?_;refine wpRest_nil ?_;go_wp2_with fail
          go_roundg k0
          case measure=>omega
          case rel=>exact⟨j+1,by omega,congrArg (Value.int .i64) (by omega),HST4.out.drew,hQ hs.out.drew⟩
        · have hji:¬(j:Int)<(n:Int):=by omega
          go_wp2;go_ret;exact⟨HST4.out,rfl,hs.out.to⟩
end Go.Proofs.YtkfjilnmnbeokaaGreat.X9
