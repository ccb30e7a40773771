/- A page whose lists are owned; the program's Read tells such a page; the conditions stand as hypotheses. -/
import Derived.Test.YtkfjilnmnbeokaaGreatPutInPlaceM24
import Derived.Test.YtkfjilnmnbeokaaGreatPutInPlaceM12
import Derived.Test.YtkfjilnmnbeokaaGreatPutInPlaceM10
import Derived.Test.YtkfjilnmnbeokaaGreatPutInPlaceM16
import Derived.Test.YtkfjilnmnbeokaaGreatPutInPlaceM03
import Derived.Test.YtkfjilnmnbeokaaGreatPutInPlaceM23
import Derived.Test.YtkfjilnmnbeokaaGreatPutInPlaceM01
set_option maxRecDepth 100000
set_option maxHeartbeats 16000000
namespace Go.Proofs.YtkfjilnmnbeokaaGreat.Q6
open ChangeShapes WideShapes ChangeAt RowKit Sl Cop D2 D3 J3 V3 G2 J2 X3 Y3 E4 G4 L4 M4 Q5 Z3 Y5 C6 N6
theorem fitK {g:PageV}(h:Fit g):∀y∈g.items,y.key.length≤65536∧y.value.length≤65536:=fun y hy=>by have:=h.k y hy;omega
structure ToldX where
 vi:Value
 vd:Value
 ys:List (Value × Value)
 g:PageV
def ToldX.pv(t:ToldX):Value:=pageV t.g.kind t.g.level t.vi t.vd t.g.next
abbrev TRows(t:ToldX)(T:Pr):Pr:=(ItRow t.vi t.ys t.g.items).star ((big rowsOf (t.ys.zip t.g.items)).star ((BytesRow t.vd t.g.data).star T))
def PgOwn(t:ToldX):Pr:=(Pr.pure (t.ys.length=t.g.items.length)).star (TRows t Pr.emp)
theorem pgOwn_iff {t:ToldX}{F:Pr}{w:World}:Sat ((PgOwn t).star F) w↔t.ys.length=t.g.items.length∧Sat (TRows t F) w:=by
 unfold PgOwn;rw [Pr.star_assoc];constructor
 · intro h
   obtain⟨h1,h2⟩:=Sat.pure.1 h;exact⟨h1,h2.perm (by simp only [TRows,Pr.star_assoc,Pr.emp_star])⟩
 · rintro⟨h1,h2⟩
   exact Sat.pure.2 ⟨h1,h2.perm (by simp only [TRows,Pr.star_assoc,Pr.emp_star])⟩
theorem big_rows_in {l:List ((Value × Value) × ItemV)}{h:Hp}(hb:big rowsOf l h):∀x∈l,Bytes h x.1.1 x.2.key∧Bytes h x.1.2 x.2.value:=by
 induction l generalizing h with
 | nil=>intro x hx;cases hx
 | cons y l ih=>
   obtain⟨a,b,ha,hb',s1,s2⟩:=star_sub (show ((rowsOf y).star (big rowsOf l)) h from hb);obtain⟨c,d,hc,hd,s3,s4⟩:=star_sub (show ((BytesRow y.1.1 y.2.key).star (BytesRow y.1.2 y.2.value)) a from ha);intro x hx;rcases List.mem_cons.1 hx with rfl | hx
   · exact⟨((Row.rowIn hc).sub s3).sub s1,((Row.rowIn hd).sub s4).sub s1⟩
   · exact⟨(ih hb' x hx).1.sub s2,(ih hb' x hx).2.sub s2⟩
theorem pgOwn_in {t:ToldX}{h:Hp}(ht:PgOwn t h):PageIn h t.pv t.g:=by
 have ht:((Pr.pure (t.ys.length=t.g.items.length)).star (TRows t Pr.emp)) h:=ht;obtain⟨a,b,ha,hb,s1,s2⟩:=star_sub ht;have hlen:t.ys.length=t.g.items.length:=ha.1;obtain⟨c,d,hc,hd,s3,s4⟩:=star_sub (show ((ItRow t.vi t.ys t.g.items).star ((big rowsOf (t.ys.zip t.g.items)).star ((BytesRow t.vd t.g.data).star Pr.emp))) b from hb);obtain⟨e,f,he,hf,s5,s6⟩:=star_sub hd;obtain⟨i,j,hi,_,s7,_⟩:=star_sub hf
 refine⟨t.vi,t.vd,rfl,⟨t.ys,hlen,((Row.rowIn hc).sub s3).sub s2,fun k hx hl=> ?_⟩,((((Row.rowIn hi).sub s7).sub s6).sub s4).sub s2⟩
 have hm:=big_rows_in he (t.ys[k],t.g.items[k]) (by
  have hz:k<(t.ys.zip t.g.items).length:=by simp;omega
  have:=List.getElem_mem hz
  rwa [List.getElem_zip] at this)
 exact⟨((hm.1.sub s5).sub s4).sub s2,((hm.2.sub s5).sub s4).sub s2⟩
def zeroT:ToldX:=⟨.slice none 0 0,.slice none 0 0,[],zeroP⟩
theorem read_rows(v:Nat)(s:VaultS)(n:Int)(hn:1≤n∧n≤65536)(g:PageV)(hfit:Fit g)(F:Pr)(w:World)(hF:Sat ((VaultA v s).star F) w)(h0:s.pool.count n≠0)(hon:s.on n=some g):
 Calls Tryz.prog 21 #[.pointer (some ⟨v,0,none⟩),.int .i64 n] w fun e w'=>
  Stays w w'∧∃t:ToldX,e= .returned (.tuple #[t.pv,.int .i64 0])∧t.g=g∧Sat ((PgOwn t).star ((VaultA v s).star F)) w':=by
 obtain⟨x,ok,hF⟩:=vaultA_iff.1 hF;have ho:Only w (w.alloc (pageC 0 0 (.slice none 0 0) (.slice none 0 0) 0)):=(Only.refl w).alloc _
 have h1:Sat ((PoolA x.p s.pool).star ((Pr.pts v (.cells #[.pointer (some ⟨x.p,0,none⟩),.map (some x.mb),x.av,.int .i64 s.floor] 70)).star
  ((((MapA Tryz.prog 3 x.mb x.f).star ((Row 126 2 x.av s.acts.length (actCells x.axs)).star (Pr.own x.h)))).star F))) w:=hF.perm (by unfold VaultAt;ac_rfl)
 have qv:w.cell? ⟨v,0,none⟩=some (.pointer (some ⟨x.p,0,none⟩)):=by rw [cell_of_heap h1.right.pts_heap];rfl
 have qm:w.cell? ⟨v,1,none⟩=some (.map (some x.mb)):=by rw [cell_of_heap h1.right.pts_heap];rfl
 have zv:=h1.right.lt;have C:=hQ (count_A x.p s.pool n _ _ (h1.only ho));have hm:=(h1.only ho).perm (B:=(MapA Tryz.prog 3 x.mb x.f).star ((PoolA x.p s.pool).star ((Pr.pts v (.cells #[.pointer (some ⟨x.p,0,none⟩),.map (some x.mb),x.av,.int .i64 s.floor] 70)).star ((Row 126 2 x.av s.acts.length (actCells x.axs)).star ((Pr.own x.h).star F))))) (by ac_rfl);have hO:=ok.on n;rw [hon] at hO
 obtain⟨pv,hf,hpv⟩:=hO;have hne:(s.pool.count n == 0)=false:=by rw [beq_eq_false_iff_ne];exact h0
 have h2:=(hF.alloc (pageC 0 0 (.slice none 0 0) (.slice none 0 0) 0)).perm (B:=(Pr.own x.h).star ((Pr.pts w.heap.size (pageC 0 0 (.slice none 0 0) (.slice none 0 0) 0)).star ((Pr.pts v (.cells #[.pointer (some ⟨x.p,0,none⟩),.map (some x.mb),x.av,.int .i64 s.floor] 70)).star ((PoolA x.p s.pool).star ((MapA Tryz.prog 3 x.mb x.f).star ((Row 126 2 x.av s.acts.length (actCells x.axs)).star F)))))) (by unfold VaultAt;ac_rfl)
 have D:=hQ (copied_rows x.h pv g hpv (by have:=hfit.n;omega) (fitK hfit) (by have:=hfit.d;omega) _ _ h2);have HM:=hQ hm;have HO:=hQ ho;have OK:=hQ ok;have HFN:=hQ hf;clear h1 hF ok ho hm hf hpv h2;go_enter Tryz.func21,Tryz.ntmps21
 go_wp2_with fail
 refine C.out.mono ?_;rintro e w1 ⟨rfl,rfl⟩;generalize s.pool.count n=k at*;go_wp2_with (at_lookup;refine wpList_look rfl _ _ _ false rfl Tryz.underlying3 Tryz.underlying67 zeroPage (zero_page _) n hn rfl rfl HM.out ?_;rw [HFN.out])
 refine D.out.mono ?_;rintro e w1 ⟨vi,vd,ys,rfl,hyl,h3,hst⟩;obtain⟨ai,ci,rfl⟩:=Row.shape h3;obtain⟨ad,cd,rfl⟩:=Row.shape h3.right.right;have h4:=(pgOwn_iff (t:=⟨.slice ai g.items.length ci,.slice ad g.data.length cd,ys,g⟩)).2 ⟨hyl,h3⟩;have hs:=OwnL.in7 h4;have c1:=hs.facts;simp only [CellsAt,Nat.reduceAdd,and_true] at c1;have HS:=hQ hs;have HST:=hQ (HO.out.st.trans hst);have HYL:=hQ hyl
 clear h3 h4 hs hst C D HM HFN hyl;go_wp2;have h5:=(((((HS.out.set w.heap.size 0 (.int .i64 g.kind)).set w.heap.size 1 (.int .i64 g.level)).set w.heap.size 2 (.slice ai g.items.length ci)).set w.heap.size 3 (.slice ad g.data.length cd)).set w.heap.size 4 (.int .i64 g.next))
 refine bodyPost_ret (results_cell_row_tmp rfl _ _ w.heap.size _ rfl (run_loadVar_row _ w.heap.size _ _ _ _ _ (h5.pts w.heap.size).pts_heap Tryz.underlying74 rfl infoPage)) rfl ?_;refine⟨((((HST.out.setCell _ _).setCell _ _).setCell _ _).setCell _ _).setCell _ _,⟨.slice ai g.items.length ci,.slice ad g.data.length cd,ys,g⟩,rfl,rfl,?_⟩
 have h6:=h5.pull8 (A1:=PgOwn ⟨.slice ai g.items.length ci,.slice ad g.data.length cd,ys,g⟩) (A2:=Pr.pts v (.cells #[.pointer (some ⟨x.p,0,none⟩),.map (some x.mb),x.av,.int .i64 s.floor] 70)) (A3:=PoolA x.p s.pool) (A4:=MapA Tryz.prog 3 x.mb x.f) (A5:=Row 126 2 x.av s.acts.length (actCells x.axs)) (A6:=Pr.own x.h) (A7:=F) (A8:=Pr.pts w.heap.size (pageC g.kind g.level (.slice ai g.items.length ci) (.slice ad g.data.length cd) g.next))
 refine Sat.perm (A:=(VaultA v s).star ((PgOwn ⟨.slice ai g.items.length ci,.slice ad g.data.length cd,ys,g⟩).star F)) ?_ (Pr.left_comm _ _ _);refine vaultA_iff.2 ⟨x,OK.out,?_⟩;refine Sat.left (B:=(Pr.pts w.heap.size (pageC g.kind g.level (.slice ai g.items.length ci) (.slice ad g.data.length cd) g.next)).star (starL [])) (h6.perm ?_);unfold VaultAt;simp only [starL];ac_rfl
end Go.Proofs.YtkfjilnmnbeokaaGreat.Q6
namespace Go.Proofs.YtkfjilnmnbeokaaGreat.S6
open ChangeShapes WideShapes ChangeAt RowKit Sl Cop G2 J2 X3 Z3 Y5 N6 Q6
theorem nfresh_any(h:Hp)(iv:Value)(x:ItemV)(hi:ItemIn h iv x)(hb:x.key.length≤65536∧x.value.length≤65536)(F:Pr)(w:World)(hF:Sat ((Pr.own h).star F) w):
 Calls Tryz.prog 149 #[iv] w fun e w'=>Stays w w'∧∃k v,e= .returned (itemV k v x.child x.size)∧OwnL [BytesRow k x.key,BytesRow v x.value,Pr.own h,F] w':=by
 obtain⟨kv,vv,rfl,hk,hv⟩:=id hi;obtain⟨ak,ck,rfl⟩:=bytes_shape hk;obtain⟨av,cv,rfl⟩:=bytes_shape hv;have hs0:=((OwnL.in1 hF).alloc (itemC (.slice ak x.key.length ck) (.slice av x.value.length cv) x.child x.size)).alloc (itemC (.slice none 0 0) (.slice none 0 0) 0 0)
 rw [show (w.alloc (itemC (.slice ak x.key.length ck) (.slice av x.value.length cv) x.child x.size)).heap.size=w.heap.size+1 by simp] at hs0;have c1:=hs0.facts;simp only [CellsAt,Nat.reduceAdd,and_true] at c1;have C1:=hQ (bclone_any h _ x.key _ _ hs0.drew.sat (hs0.drew.le (a:=h)) hk hb.1);have HV:=hQ (And.intro hv hb.2)
 have HST:=hQ (((Stays.refl w).alloc (itemC (.slice ak x.key.length ck) (.slice av x.value.length cv) x.child x.size)).alloc (itemC (.slice none 0 0) (.slice none 0 0) 0 0)).drew;clear hF hs0 hk hv hi hb;go_enter Tryz.func149,Tryz.ntmps149
 go_wp2_with fail
 refine wS 12 [0,1,3,4] [(2,[6],[0,3,4]),(5,[],[0,3,6]),(7,[8],[]),(9,[],[])] ?_;refine wpQ_all _ rfl rfl ?_;simp only [pick,pQ];iterate 4 (go_big_quiet_step (fail))
 refine wpQuiet_nil ?_;refine wpRest_act rfl ?_;go_wp2_with fail
 refine C1.out.mono ?_;rintro e w1 ⟨v1,rfl,hs1,st1⟩;have hs2:=OwnL.of1 hs1;obtain⟨a1,c1',rfl⟩:=Row.shape hs1;clear c1;have c1:=hs2.facts;simp only [CellsAt,Nat.reduceAdd,and_true] at c1;have C2:=hQ (bclone_any h _ x.value _ _ hs2.sat (hs2.le (a:=h)) HV.out.1 HV.out.2);have HST2:=hQ (HST.out.trans st1);clear hs1 hs2 st1 C1 HST;go_wp2;refine onN_mk ?_;refine wpQ_all _ rfl rfl ?_;simp only [pick,pQ]
 iterate 1 (go_big_quiet_step (fail))
 refine wpQuiet_nil ⟨?_,?_⟩
 · exact cQ
 refine wpRest_act rfl ?_;go_wp2_with fail
 refine C2.out.mono ?_;rintro e w2 ⟨v2,rfl,hs3,st3⟩;have hs4:=OwnL.of1 hs3;obtain⟨a2,c2,rfl⟩:=Row.shape hs3;clear c1;have c1:=hs4.facts;simp only [CellsAt,Nat.reduceAdd,and_true] at c1;have HS4:=hQ hs4;have HST4:=hQ (HST2.out.trans st3);clear hs3 hs4 st3 C2 HST2;go_wp2;refine onN_mk ?_;refine wpQ_nil ⟨?_,?_⟩
 · exact cQ
 refine wpRest_act rfl ?_;go_wp2;refine onN_mk ?_;refine wpQ_all _ rfl rfl ?_;simp only [pick,pQ];iterate 1 (go_big_quiet_step (fail))
 refine wpQuiet_nil ⟨?_,?_⟩
 · exact chk_nil
 refine wpRest_act rfl ?_;go_wp2;refine onN_mk ?_;refine wpQ_nil ⟨?_,?_⟩
 · exact chk_nil
 refine wpRest_nil ?_;have hs5:=(HS4.out.set w.heap.size 0 (.slice a1 x.key.length c1')).set w.heap.size 1 (.slice a2 x.value.length c2);clear c1;have c1:=hs5.facts;simp only [CellsAt,Nat.reduceAdd,and_true] at c1;have HS5:=hQ hs5;clear hs5 HS4;go_wp2
 have h7:=(((HS5.out.set (w.heap.size+1) 0 (.slice a1 x.key.length c1')).set (w.heap.size+1) 1 (.slice a2 x.value.length c2)).set (w.heap.size+1) 2 (.int .i64 x.child)).set (w.heap.size+1) 3 (.int .i64 x.size);refine bodyPost_ret (results_cell_row rfl _ _ (w.heap.size+1) _ _ _ _ rfl (h7.pts (w.heap.size+1)).pts_heap Tryz.underlying89 rfl infoItemS) rfl ?_
 exact⟨(((((HST4.out.setCell _ _).setCell _ _).setCell _ _).setCell _ _).setCell _ _).setCell _ _,_,_,rfl,h7.to⟩
theorem parts_any(a:Option Addr)(n c at':Nat)(hn:at'≤n)(hc:n≤c∧c≤maxLen)(w:World):
 Calls Tryz.prog 109 #[.slice a n c,.int .i64 at'] w fun e w'=>w'=w.drew∧e= .returned (.tuple #[.slice a at' at',.slice (if c=at' then a else Option.map (fun x=>x.add (at'*4)) a) (n-at') (c-at')]):=by
 have h1:(at':Int)≤c:=by omega
 have h2:(at':Int)≤n:=by omega
 obtain⟨a2,ha2⟩:∃a2,(if c=at' then a else Option.map (fun x=>x.add (at'*4)) a)=a2:=⟨_,rfl⟩;rw [ha2];have HA2:=hQ ha2;clear ha2;go_enter Tryz.func109,Tryz.ntmps109
 go_wp2;refine wS 13 [0,1,2,3,4,5,6,7,8] [] ?_;refine wpQ_cut [0,1,2] [3,4,5,6,7,8] ?_;refine wpQ_all _ rfl rfl ?_;simp only [pick,pQ];iterate 3 (go_big_quiet_step (fail))
 refine wpQuiet_nil ?_;refine wpQ_step rfl rfl (fun K hK=> ?_);go_simp;refine hK _ ?_;clear hK K;refine wpQ_cut [4,5] [6,7,8] ?_;refine wpQ_all _ rfl rfl ?_;simp only [pick,pQ];iterate 2 (go_big_quiet_step (fail))
 refine wpQuiet_nil ?_;refine wpQ_step rfl rfl (fun K hK=> ?_);go_simp;rw [HA2.out];refine hK _ ?_;clear hK K;refine wpQ_all _ rfl rfl ?_;simp only [pick,pQ];iterate 2 (go_big_quiet_step (fail))
 refine wpQuiet_nil ?_;refine wpRest_nil ?_;go_wp2;go_ret2;exact⟨rfl,rfl⟩
theorem row_take {h:Hp}{k:Nat}{a:Option Addr}{n c:Nat}{xs:List Value}(hr:RowIn h k (.slice a n c) n xs){m:Nat}(hm:m≤n):RowIn h k (.slice a m m) m (xs.take (m*k)):=by
 obtain⟨hl,a',c',e,h1,h2,h3⟩:=hr;cases e;have hmk:m*k≤n*k:=Nat.mul_le_mul_right k hm;refine⟨by rw [List.length_take,hl];omega,a,m,rfl,Nat.le_refl _,by omega,fun h0=> ?_⟩;obtain⟨b,off,ea,hc⟩:=h3 (by omega);exact⟨b,off,ea,fun i hi=>by rw [hc i (by omega),List.getElem?_take_of_lt hi]⟩
theorem row_drop {h:Hp}{k:Nat}{a:Option Addr}{n c:Nat}{xs:List Value}(hr:RowIn h k (.slice a n c) n xs){m:Nat}(hm:m≤n):RowIn h k (.slice (if c=m then a else Option.map (fun x=>x.add (m*k)) a) (n-m) (c-m)) (n-m) (xs.drop (m*k)):=by
 obtain⟨hl,a',c',e,h1,h2,h3⟩:=hr;cases e;have hmk:(n-m)*k=n*k-m*k:=Nat.sub_mul n m k;have hmk2:m*k≤n*k:=Nat.mul_le_mul_right k hm;refine⟨by rw [List.length_drop,hl,hmk],_,c-m,rfl,by omega,by omega,fun h0=> ?_⟩;obtain⟨b,off,ea,hc⟩:=h3 (by omega);rw [if_neg (by omega),ea];refine⟨b,off+m*k,by simp [Addr.add],fun i hi=> ?_⟩;rw [Nat.add_assoc,hc (m*k+i) (by omega),List.getElem?_drop]
theorem flat_take {α:Type}(f:α→List Value)(k:Nat)(hf:∀x,(f x).length=k):∀(l:List α) (m:Nat),(l.flatMap f).take (m*k)=(l.take m).flatMap f
 | [],m=>by simp
 | x :: l,0=>by simp
 | x :: l,m+1=>by
   rw [List.flatMap_cons,List.take_succ_cons,List.flatMap_cons,Nat.succ_mul,List.take_append,hf,List.take_of_length_le (by rw [hf];omega),Nat.add_sub_cancel,flat_take f k hf l m]
theorem flat_drop {α:Type}(f:α→List Value)(k:Nat)(hf:∀x,(f x).length=k):∀(l:List α) (m:Nat),(l.flatMap f).drop (m*k)=(l.drop m).flatMap f
 | [],m=>by simp
 | x :: l,0=>by simp
 | x :: l,m+1=>by
   rw [List.flatMap_cons,List.drop_succ_cons,Nat.succ_mul,List.drop_append,hf,List.drop_of_length_le (by rw [hf];omega),Nat.add_sub_cancel,List.nil_append,flat_drop f k hf l m]
theorem zip_take {α β:Type}:∀(l:List α) (m:List β) (k:Nat),(l.zip m).take k=(l.take k).zip (m.take k)
 | _,_,0=>by simp
 | [],_,k+1=>by simp
 | _ :: _,[],k+1=>by simp
 | a :: l,b :: m,k+1=>by simp only [List.zip_cons_cons,List.take_succ_cons,zip_take l m k]
theorem zip_drop {α β:Type}:∀(l:List α) (m:List β) (k:Nat),(l.zip m).drop k=(l.drop k).zip (m.drop k)
 | _,_,0=>by simp
 | [],_,k+1=>by simp
 | _ :: _,[],k+1=>by simp
 | a :: l,b :: m,k+1=>by simp only [List.zip_cons_cons,List.drop_succ_cons,zip_drop l m k]
theorem items_take {h:Hp}{a:Option Addr}{c:Nat}{l:List ItemV}(hi:ItemsIn h (.slice a l.length c) l){m:Nat}(hm:m≤l.length):ItemsIn h (.slice a m m) (l.take m):=by
 obtain⟨xs,hx,hr,hb⟩:=hi;have hl:(l.take m).length=m:=by rw [List.length_take];omega
 have h1:=row_take (m:=m) hr hm;refine⟨xs.take m,by rw [List.length_take,hx,List.length_take],?_,fun i hx' hl'=> ?_⟩
 · rw [hl]
   have e:((xs.take m).zip (l.take m)).flatMap (fun x=> [x.1.1,x.1.2,Value.int .i64 x.2.child,Value.int .i64 x.2.size])=((xs.zip l).flatMap fun x=> [x.1.1,x.1.2,Value.int .i64 x.2.child,Value.int .i64 x.2.size]).take (m*4):=by
    rw [flat_take _ 4 (fun _=>rfl),zip_take]
   rw [e];exact h1
 · rw [List.length_take] at hx' hl'
   rw [List.getElem_take,List.getElem_take];exact hb i (by omega) (by omega)
theorem items_drop {h:Hp}{a:Option Addr}{c:Nat}{l:List ItemV}(hi:ItemsIn h (.slice a l.length c) l){m:Nat}(hm:m≤l.length):ItemsIn h (.slice (if c=m then a else Option.map (fun x=>x.add (m*4)) a) (l.length-m) (c-m)) (l.drop m):=by
 obtain⟨xs,hx,hr,hb⟩:=hi;have hl:(l.drop m).length=l.length-m:=List.length_drop;have h1:=row_drop (m:=m) hr hm;refine⟨xs.drop m,by rw [List.length_drop,hx,List.length_drop],?_,fun i hx' hl'=> ?_⟩
 · rw [hl]
   have e:((xs.drop m).zip (l.drop m)).flatMap (fun x=> [x.1.1,x.1.2,Value.int .i64 x.2.child,Value.int .i64 x.2.size])=((xs.zip l).flatMap fun x=> [x.1.1,x.1.2,Value.int .i64 x.2.child,Value.int .i64 x.2.size]).drop (m*4):=by
    rw [flat_drop _ 4 (fun _=>rfl),zip_drop]
   rw [e];exact h1
 · rw [List.length_drop] at hx' hl'
   rw [List.getElem_drop,List.getElem_drop];exact hb (m+i) (by omega) (by omega)
end Go.Proofs.YtkfjilnmnbeokaaGreat.S6
namespace Go.Proofs.YtkfjilnmnbeokaaGreat.U6
open ChangeShapes WideShapes ChangeAt RowKit Sl Cop G2 J2 X3 Z3 Y5 N6 Q6
def kidT(t:ToldX)(i:Nat)(c:Int):ToldX:= { t with g:=childG t.g i c }
theorem kid_set {l:List ItemV}{i:Nat}(hi:i<l.length)(x:ItemV):l.take i++x :: l.drop (i+1)=l.set i x:=by
 rw [List.set_eq_take_append_cons_drop,if_pos hi]
theorem kid_items {g:PageV}{i:Nat}(hi:i<g.items.length)(c:Int):(childG g i c).items=g.items.set i { itemAt g.items i with child:=c }:=kid_set hi _
theorem zip_set {ys:List (Value × Value)}{l:List ItemV}(hl:ys.length=l.length){i:Nat}(hi:i<l.length)(x:ItemV):ys.zip (l.set i x)=(ys.zip l).set i (ys[i]'(by omega),x):=by
 apply List.ext_getElem
 · simp
 · intro j h1 h2
   simp only [List.getElem_zip,List.getElem_set];split
   · rename_i e;subst e;rfl
   · rfl
theorem told_child {t:ToldX}{F:Pr}{w:World}(h:Sat ((PgOwn t).star F) w){i:Nat}(hi:i<t.g.items.length):
 ∃b ci ad cd,t.pv=pageV t.g.kind t.g.level (.slice (some ⟨b,0,none⟩) t.g.items.length ci) (.slice ad t.g.data.length cd) t.g.next∧
  w.cell? ⟨b,i*4+2,none⟩=some (.int .i64 (itemAt t.g.items i).child)∧w.frozen? ⟨b,i*4+2,none⟩=false∧b<w.heap.size∧
  ∀(c:Int) (F':Pr) (w':World),Sat ((PgOwn t).star F') w'→Sat ((PgOwn (kidT t i c)).star F') (w'.setCell ⟨b,i*4+2,none⟩ (.int .i64 c)):=by
 obtain⟨hl,h1⟩:=pgOwn_iff.1 h;obtain⟨ad,cd,e2⟩:=Row.shape h1.right.right;have h0:=h1;unfold TRows ItRow at h1;obtain⟨hn,(⟨_,e0,_⟩ | ⟨b,cap,sp,e1,h2,h3,h4,h5⟩)⟩:=Row.open' h1
 · omega
 · have hz:i<(t.ys.zip t.g.items).length:=by rw [List.length_zip];omega
   have hzi:(t.ys.zip t.g.items)[i]=(t.ys[i]'(by omega),t.g.items[i]):=List.getElem_zip;have hat:=flat_at itCells 4 (fun _=>rfl) (t.ys.zip t.g.items) i 2 hz (by decide);rw [hzi] at hat;have hlt:i*4+2<((t.ys.zip t.g.items).flatMap itCells).length:=by rw [hn];omega
   refine⟨b,cap,ad,cd,by unfold ToldX.pv;rw [e1,e2],?_,?_,h5.lt,fun c F' w' h'=> ?_⟩
   · rw [cell_of_heap h5.pts_heap]
     show (((t.ys.zip t.g.items).flatMap itCells++sp).toArray)[i*4+2]? =_
     rw [List.getElem?_toArray,List.getElem?_append_left hlt,hat,itemAt_get hi];rfl
   · exact frozen_of_heap h5.pts_heap _
   · obtain⟨_,k1⟩:=pgOwn_iff.1 h'
     unfold TRows ItRow at k1;rw [e1] at k1;have k2:=Row.put1 k1 (i*4+2) hlt (.int .i64 c)
     have hy:(itCells ((t.ys.zip t.g.items)[i])).set 2 (.int .i64 c)=itCells (t.ys[i]'(by omega),{ itemAt t.g.items i with child:=c }):=by
      rw [hzi,itemAt_get hi];rfl
     rw [flat_set itCells 4 (fun _=>rfl) 2 (.int .i64 c) (t.ys[i]'(by omega),{ itemAt t.g.items i with child:=c }) (by decide) _ i hz hy, ← zip_set hl hi, ← kid_items hi] at k2;have hlen:(childG t.g i c).items.length=t.g.items.length:=by rw [kid_items hi,List.length_set]
     refine pgOwn_iff.2 ⟨hl.trans hlen.symm,?_⟩
     have hbig:big rowsOf (t.ys.zip t.g.items)=big rowsOf (t.ys.zip (childG t.g i c).items):=by
      unfold big;congr 1
      rw [kid_items hi,zip_set hl hi,List.map_set];apply List.ext_getElem
      · simp
      · intro j h1 h2
        rw [List.getElem_set];split
        · rename_i e
          subst e;rw [List.getElem_map,hzi,itemAt_get hi];rfl
        · rfl
     rw [hbig] at k2;show Sat ((ItRow t.vi t.ys (childG t.g i c).items).star ((big rowsOf (t.ys.zip (childG t.g i c).items)).star ((BytesRow t.vd t.g.data).star F'))) _
     unfold ItRow;rw [hlen,e1];exact k2
theorem told_cell {t:ToldX}{F:Pr}{w:World}(h:Sat ((PgOwn t).star F) w){i:Nat}(hi:i<t.g.items.length){k l nx:Int}{b n ci:Nat}{vd:Value}(hpv:t.pv=pageV k l (.slice (some ⟨b,0,none⟩) n ci) vd nx):
 w.cell? ⟨b,i*4+2,none⟩=some (.int .i64 (itemAt t.g.items i).child)∧w.frozen? ⟨b,i*4+2,none⟩=false∧b<w.heap.size∧
  ∀(c:Int) (F':Pr) (w':World),Sat ((PgOwn t).star F') w'→Sat ((PgOwn (kidT t i c)).star F') (w'.setCell ⟨b,i*4+2,none⟩ (.int .i64 c)):=by
 obtain⟨b',ci',ad,cd,e,h1⟩:=told_child h hi;rw [hpv] at e;simp only [pageV,Value.agg.injEq,Array.mk.injEq,List.cons.injEq,Value.slice.injEq,Option.some.injEq,Addr.mk.injEq,and_true] at e;obtain⟨-, -,⟨rfl, -, -⟩, -, -⟩:=e;exact h1
theorem kid_fit {g:PageV}(h:Fit g){i:Nat}(hi:i<g.items.length)(c:Int):Fit (childG g i c):=by
 refine⟨?_,h.d,fun x hx=> ?_⟩
 · rw [kid_items hi,List.length_set];exact h.n
 · rw [kid_items hi] at hx
   rcases List.mem_or_eq_of_mem_set hx with hx | rfl
   · exact h.k x hx
   · exact h.k (itemAt g.items i) (by rw [itemAt_get hi];exact List.getElem_mem hi)
end Go.Proofs.YtkfjilnmnbeokaaGreat.U6
namespace Go.Proofs.YtkfjilnmnbeokaaGreat.V6
open ChangeShapes WideShapes ChangeAt RowKit Sl Cop G2 J2 X3 Z3 Y3 Y5 N6 Q6 S6
theorem slices_rd {h:Hp}{v:Value}{xs:List Value}(hr:RowIn h 1 v xs.length xs):∃a c,v= .slice a xs.length c∧c≤maxLen∧∀i (hi:i<xs.length),∃b off,a=some ⟨b,off,none⟩∧∀w,h.le w→w.cell? ⟨b,off+i,none⟩=some xs[i]:=by
 obtain⟨hlen,a,c,e,_,hcm,hc⟩:=hr;refine⟨a,c,e,hcm,fun i hi=> ?_⟩;obtain⟨b,off,ea,hcell⟩:=hc (by omega);refine⟨b,off,ea,fun w hw=>Hp.cell_le hw ((hcell i (by omega)).trans (List.getElem?_eq_getElem hi))⟩
def PiecesIn(h:Hp)(v:Value)(PP:List (Value × List ItemV)):Prop:=RowIn h 1 v (PP.map (·.1)).length (PP.map (·.1))∧∀p∈PP,ItemsIn h p.1 p.2
def itemsOf(PP:List (Value × List ItemV)):List ItemV:=(PP.map (·.2)).flatten
theorem itemsOf_app(A B:List (Value × List ItemV)):itemsOf (A++B)=itemsOf A++itemsOf B:=by
 unfold itemsOf;rw [List.map_append,List.flatten_append]
theorem itemsOf_snoc {PP:List (Value × List ItemV)}{j:Nat}(hj:j<PP.length):itemsOf (PP.take (j+1))=itemsOf (PP.take j)++PP[j].2:=by
 unfold itemsOf;rw [List.take_succ_eq_append_getElem hj];simp only [List.map_append,List.map_cons,List.map_nil,List.flatten_append,List.flatten_cons,List.flatten_nil,List.append_nil]
theorem zip_fs {α β:Type}:∀zs:List (α × β),(zs.map (·.1)).zip (zs.map (·.2))=zs
 | []=>rfl
 | z :: zs=>by simp only [List.map_cons,List.zip_cons_cons,zip_fs zs]
abbrev ItZ(v:Value)(zs:List ((Value × Value) × ItemV)):Pr:=Row 89 4 v zs.length (zs.flatMap itCells)
abbrev WithL(W:Nat)(k0 l0 nx:Int)(h:Hp)(vd:Value)(dat:List Int)(F:Pr)(vi:Value)(zs:List ((Value × Value) × ItemV)):List Pr:=
 [Pr.pts W (pageC k0 l0 vi vd nx),ItZ vi zs,big rowsOf zs,BytesRow vd dat,Pr.pts (W+1) (pageC 0 0 (.slice none 0 0) (.slice none 0 0) 0),Pr.own h,F]
theorem with_any(h:Hp)(k0 l0 nx:Int)(ai:Option Addr)(ni ci:Nat)(vd:Value)(dat:List Int)(hd:Bytes h vd dat)(hdl:dat.length≤65536)(pv:Value)(PP:List (Value × List ItemV))(hp:PiecesIn h pv PP)(hfit:∀p∈PP,∀x∈p.2,x.key.length≤65536∧x.value.length≤65536)
 (hn:(itemsOf PP).length≤65536) (hPn:PP.length≤65536) (F:Pr) (w:World) (hF:Sat ((Pr.own h).star F) w):
 Calls Tryz.prog 110 #[pageV k0 l0 (.slice ai ni ci) vd nx,pv] w fun e w'=>Stays w w'∧∃t:ToldX,e= .returned t.pv∧t.g=⟨k0,l0,itemsOf PP,dat,nx⟩∧OwnL [PgOwn t,Pr.own h,F] w':=by
 obtain⟨adr,cdr,rfl⟩:=bytes_shape hd;obtain⟨pa,pc,rfl,_,prd⟩:=slices_rd hp.1
 have prd':∀i (hi:i<PP.length),∃b off,pa=some ⟨b,off,none⟩∧∀w,h.le w→w.cell? ⟨b,off+i,none⟩=some PP[i].1:=fun i hi=>by
  obtain⟨b,off,e,hc⟩:=prd i (by rw [List.length_map];exact hi);refine⟨b,off,e,fun w hw=> ?_⟩;have:=hc w hw
  rwa [List.getElem_map] at this
 clear prd;rw [List.length_map];have hs0:=((OwnL.in1 hF).alloc (pageC k0 l0 (.slice ai ni ci) (.slice adr dat.length cdr) nx)).alloc (pageC 0 0 (.slice none 0 0) (.slice none 0 0) 0);rw [show (w.alloc (pageC k0 l0 (.slice ai ni ci) (.slice adr dat.length cdr) nx)).heap.size=w.heap.size+1 by simp] at hs0;have c1:=hs0.facts;simp only [CellsAt,Nat.reduceAdd,and_true] at c1
 have C1:=hQ (bclone_any h _ dat _ _ hs0.sat (hs0.le (a:=h)) hd hdl);have HST:=hQ (((Stays.refl w).alloc (pageC k0 l0 (.slice ai ni ci) (.slice adr dat.length cdr) nx)).alloc (pageC 0 0 (.slice none 0 0) (.slice none 0 0) 0));have PRD:=hQ prd';have HP:=hQ (And.intro hp.2 (And.intro hfit hn));obtain⟨i0,hi,hz0,hz1,hz2⟩:=info_parts infoItem;clear hF hs0 hd hp hfit prd' hdl hn
 go_enter Tryz.func110,Tryz.ntmps110
 go_wp2_with fail
 refine C1.out.mono ?_;rintro e w1 ⟨v1,rfl,hs1,st1⟩;obtain⟨ad,cd,rfl⟩:=Row.shape hs1;have hs2:=OwnL.of1 hs1;clear c1;have c1:=hs2.facts;simp only [CellsAt,Nat.reduceAdd,and_true] at c1;have HS3:=hQ ((hs2.set w.heap.size 3 (.slice ad dat.length cd)).set w.heap.size 2 (.slice none 0 0))
 have HST3:=hQ (((HST.out.trans st1).setCell ⟨w.heap.size,3,none⟩ (.slice ad dat.length cd)).setCell ⟨w.heap.size,2,none⟩ (.slice none 0 0));clear hs1 hs2 st1 C1 HST;have hPn2:(PP.length:Int)≤65536:=by omega
 go_wp2;go_loopw [16] (fun i wr=> ∃(j:Nat) (vi:Value) (zs:List ((Value × Value) × ItemV)),j≤PP.length∧i= .int .i64 j∧Hid (zs.map (·.2)=itemsOf (PP.take j))∧Stays w wr∧OwnL (WithL w.heap.size k0 l0 nx h (.slice ad dat.length cd) dat F vi zs) wr) (fun i _=>PP.length-(intOf i).toNat)
 case atStart=>
  refine⟨0,.slice none 0 0,[],Nat.zero_le _,rfl,hQ rfl,HST3.out,?_⟩;have h1:=HS3.out.to (M:= [Pr.pts w.heap.size (pageC k0 l0 (.slice none 0 0) (.slice ad dat.length cd) nx),BytesRow (.slice ad dat.length cd) dat,Pr.pts (w.heap.size+1) (pageC 0 0 (.slice none 0 0) (.slice none 0 0) 0),Pr.own h,F])
  have h2:OwnL [Pr.pts w.heap.size (pageC k0 l0 (.slice none 0 0) (.slice ad dat.length cd) nx),Pr.emp,Pr.emp,BytesRow (.slice ad dat.length cd) dat,Pr.pts (w.heap.size+1) (pageC 0 0 (.slice none 0 0) (.slice none 0 0) 0),Pr.own h,F] _:=h1.emp.emp.to;refine⟨h2.sat.perm ?_⟩;have e1:ItZ (.slice none 0 0) []=Pr.emp:=Row.nil _ _;simp only [starL,e1,big_nil]
 case round=>
  obtain⟨j,vi,zs,hj,rfl,hD,hst,hs⟩:=hrel;obtain⟨ax,cx,rfl⟩:=Row.shape (hs.pull1 (A1:=ItZ vi zs));clear c1;have c1:=hs.facts;simp only [CellsAt,Nat.reduceAdd,and_true] at c1;rcases Nat.lt_or_ge j PP.length with hlt | hge
  · obtain⟨pb,poff,rfl,hpc⟩:=PRD.out j hlt
    have d0:=hpc wr (hs.le (a:=h));have hsn:=itemsOf_snoc hlt;have hfitj:=HP.out.2.1 PP[j] (List.getElem_mem hlt);have hinj:=HP.out.1 PP[j] (List.getElem_mem hlt)
    have hlen:(itemsOf (PP.take (j+1))).length≤(itemsOf PP).length:=by
     have h1:=itemsOf_app (PP.take (j+1)) (PP.drop (j+1));rw [List.take_append_drop] at h1;rw [h1,List.length_append];exact Nat.le_add_right _ _
    have hlen2:=HP.out.2.2;rw [hsn, ← hD.out,List.length_append,List.length_map] at hlen;generalize PP[j]=pj at*;obtain⟨pjv,cur⟩:=pj;dsimp only at d0 hsn hfitj hinj hlen;obtain⟨ca,cc,rfl,hcm,RDI⟩:=items_rd hinj;have zb:=World.block_lt_of_cell? _ _ d0;simp only at zb;have HD:=hQ (And.intro hD.out (And.intro hsn (And.intro hlen hlen2)));have HRD:=hQ (And.intro RDI hfitj);have HST4:=hQ hst
    have HS4:=hQ hs;have hcl:(cur.length:Int)≤65536:=by omega
    have hjl:(j:Int)<(PP.length:Int):=by omega
    clear hD hsn hlen hlen2 RDI hfitj hinj hst hs hpc HS3 HST3 PRD;go_wp2;go_loopw [22] (fun i wy=> ∃(k:Nat) (vi:Value) (zz:List ((Value × Value) × ItemV)),k≤cur.length∧i= .int .i64 k∧Hid (zz.map (·.2)=zs.map (·.2)++cur.take k)∧Stays w wy∧OwnL (WithL w.heap.size k0 l0 nx h (.slice ad dat.length cd) dat F vi zz) wy) (fun i _=>cur.length-(intOf i).toNat)
    case atStart=>exact⟨0,.slice ax zs.length cx,zs,Nat.zero_le _,rfl,hQ (by simp),HST4.out,HS4.out⟩
    case round=>
     obtain⟨k,vi,zz,hk,rfl,hzz,hst,hs⟩:=hrel;rename World=>wy
     clear HS4 HST4 c1 d0 zb;obtain⟨ax,cx,rfl⟩:=Row.shape (hs.pull1 (A1:=ItZ vi zz));rcases Nat.lt_or_ge k cur.length with hlt2 | hge2
     · obtain⟨b,off,ak,ck,av,cv,rfl,hbk,hbv,hcell⟩:=HRD.out.1 k hlt2
       have hfx:=HRD.out.2 cur[k] (List.getElem_mem hlt2);have htk:cur.take (k+1)=cur.take k++ [cur[k]]:=List.take_succ_eq_append_getElem hlt2
       have hzl:zz.length≤65535:=by
        have h1:=congrArg List.length hzz.out;rw [List.length_map,List.length_append,List.length_map,List.length_take] at h1;have:=HD.out.2.2
        omega
       generalize cur[k]=x at*;have hs1:=hs.alloc (itemC (.slice ak x.key.length ck) (.slice av x.value.length cv) x.child x.size);obtain⟨d0,d1,d2,d3⟩:=hcell wy (hs.le (a:=h));have zb:=World.block_lt_of_cell? _ _ d0;simp only at zb;have c1:=hs1.facts;simp only [CellsAt,Nat.reduceAdd,and_true] at c1;have NF:=hQ (nfresh_any h _ x ⟨_,_,rfl,hbk,hbv⟩ hfx _ _ (hs1.drew.pull1 (A1:=Pr.own h)))
       have HST5:=hQ (hst.alloc (itemC (.slice ak x.key.length ck) (.slice av x.value.length cv) x.child x.size)).drew;have HZ:=hQ (And.intro hzz.out htk);have hkl:(k:Int)<(cur.length:Int):=by omega
       have hzl2:(zz.length:Int)≤65535:=by omega
       clear hs hs1 hst hzz htk hbk hbv hfx hcell;go_wp2_with fail
       refine wS 36 [0,1,2] [(3,[],[0,1]),(4,[],[0,1]),(5,[6],[0]),(7,[],[])] ?_;refine wpQ_all _ rfl rfl ?_;simp only [pick,pQ];iterate 3 (go_big_quiet_step (fail))
       refine wpQuiet_nil ?_;refine wpRest_act rfl ?_;go_wp2_with fail
       refine NF.out.mono ?_;rintro e w2 ⟨st2,k',v',rfl,hs2⟩;obtain⟨a1,c1',rfl⟩:=Row.shape (hs2.pull1 (A1:=BytesRow k' x.key));obtain⟨a2,c2,rfl⟩:=Row.shape (hs2.pull1 (A1:=BytesRow v' x.value));have hs3:=hs2.flat;clear c1 d0 d1 d2 d3 zb;have c1:=hs3.facts;simp only [CellsAt,Nat.reduceAdd,and_true] at c1
       have hA2:=hs3.alloc (.cells #[.slice a1 x.key.length c1',.slice a2 x.value.length c2,.int .i64 x.child,.int .i64 x.size] 89);have H1:=hQ (hA2.pull1 (A1:=ItZ (.slice ax zz.length cx) zz));have HCN:=hQ (new_cells w2 [.slice a1 x.key.length c1',.slice a2 x.value.length c2,.int .i64 x.child,.int .i64 x.size] 89 _ rfl)
       have HST6:=hQ ((HST5.out.trans st2).alloc (.cells #[.slice a1 x.key.length c1',.slice a2 x.value.length c2,.int .i64 x.child,.int .i64 x.size] 89));clear hs2 hs3 hA2 st2 NF HST5;go_wp2;refine onN_mk ?_;refine wpQ_nil ⟨?_,?_⟩
       · exact cQ
       refine wpRest_act rfl ?_;go_wp2;refine onN_mk ?_;refine wpQ_nil ⟨?_,?_⟩
       · exact cQ
       refine wpRest_act rfl ?_
       refine wpList_appN rfl _ _ _ rfl 89 i0 (.agg #[.slice none 0 0,.slice none 0 0,.int .i64 0,.int .i64 0]) 4 64 Tryz.underlying72 hi hz0 hz1 hz2 rfl _ _ _ rfl H1.out ⟨w2.heap.size,0,none⟩ 1 1 [.slice a1 x.key.length c1',.slice a2 x.value.length c2,.int .i64 x.child,.int .i64 x.size] rfl rfl HCN.out (by simp [Value.oneCell']) (by simp only [maxLen];omega) (by omega) (fun v7 w7 hs7 hg7 K0 hK0=> ?_)
       obtain⟨a7,c7,rfl⟩:=Row.shape hs7;go_simp;refine hK0 _ ?_;clear hK0 K0;have hs8:=OwnL.of1 hs7;clear c1;have c1:=hs8.facts;simp only [CellsAt,Nat.reduceAdd,and_true] at c1;have HS8:=hQ hs8;have HST8:=hQ (HST6.out.of_grown hg7);clear hs7 hs8 hg7 H1 HCN HST6;refine wpList_nil ?_;refine onN_mk ?_;refine wpQ_all _ rfl rfl ?_;simp only [pick,pQ];iterate 1 (go_big_quiet_step (fail))
       refine wpQuiet_nil ⟨?_,?_⟩
       · exact cQ
       refine wpRest_act rfl ?_;go_wp2;refine onN_mk ?_;refine wpQ_nil ⟨?_,?_⟩
       · exact chk_nil
       refine wpRest_nil ?_;go_wp2;refine⟨⟨k+1,.slice a7 (zz.length+1) c7,zz++ [((.slice a1 x.key.length c1',.slice a2 x.value.length c2),x)],by omega,congrArg (Value.int .i64) (by omega),hQ ?_,HST8.out.setCell _ _,?_⟩,by simp [intOf];omega⟩
       · rw [List.map_append,HZ.out.1,HZ.out.2]
         simp
       · have h8:=(HS8.out.set w.heap.size 2 (.slice a7 (zz.length+1) c7)).join2 (BytesRow (.slice a1 x.key.length c1') x.key) (BytesRow (.slice a2 x.value.length c2) x.value)
         have h9:OwnL (rowsOf ((.slice a1 x.key.length c1',.slice a2 x.value.length c2),x) :: _) _:=h8;have h10:=h9.snoc rowsOf zz ((.slice a1 x.key.length c1',.slice a2 x.value.length c2),x)
         have h11:=h10.to (M:= [Pr.pts w.heap.size (pageC k0 l0 (.slice a7 (zz.length+1) c7) (.slice ad dat.length cd) nx),Row 89 4 (.slice a7 (zz.length+1) c7) (zz.length+1) (zz.flatMap itCells++ [.slice a1 x.key.length c1',.slice a2 x.value.length c2,.int .i64 x.child,.int .i64 x.size]),big rowsOf (zz++ [((.slice a1 x.key.length c1',.slice a2 x.value.length c2),x)]),BytesRow (.slice ad dat.length cd) dat,Pr.pts (w.heap.size+1) (pageC 0 0 (.slice none 0 0) (.slice none 0 0) 0),Pr.own h,F])
         refine⟨h11.sat.perm ?_⟩;simp only [starL,ItZ,List.length_append,List.length_singleton,List.flatMap_append,List.flatMap_cons,List.flatMap_nil,List.append_nil];rfl
     · have hke:k=cur.length:=by omega
       subst hke;have HS5:=hQ hs;have HST5:=hQ hst;have HZ:=hQ hzz.out;have c1:=hs.facts;simp only [CellsAt,Nat.reduceAdd,and_true] at c1;clear hs hst hzz;go_wp2;refine⟨⟨j+1,.slice ax zz.length cx,zz,by omega,congrArg (Value.int .i64) (by omega),hQ ?_,HST5.out,HS5.out⟩,by simp [intOf];omega⟩;rw [HZ.out,HD.out.1,List.take_length,HD.out.2.1]
  · have hje:j=PP.length:=by omega
    subst hje;have HS5:=hQ hs;have HST5:=hQ hst;have HD:=hQ hD.out;clear hs hst hD HS3 HST3;go_wp2;have h7:=((((HS5.out.set (w.heap.size+1) 0 (.int .i64 k0)).set (w.heap.size+1) 1 (.int .i64 l0)).set (w.heap.size+1) 2 (.slice ax zs.length cx)).set (w.heap.size+1) 3 (.slice ad dat.length cd)).set (w.heap.size+1) 4 (.int .i64 nx)
    refine bodyPost_ret (results_cell_row rfl _ _ (w.heap.size+1) _ _ _ _ rfl (h7.pts (w.heap.size+1)).pts_heap Tryz.underlying74 rfl infoPage) rfl ?_;refine⟨((((HST5.out.setCell _ _).setCell _ _).setCell _ _).setCell _ _).setCell _ _,⟨.slice ax zs.length cx,.slice ad dat.length cd,zs.map (·.1),⟨k0,l0,zs.map (·.2),dat,nx⟩⟩,rfl,?_,?_⟩
    · rw [HD.out,List.take_length]
    · have h8:=h7.to (M:= [ItZ (.slice ax zs.length cx) zs,big rowsOf zs,BytesRow (.slice ad dat.length cd) dat,Pr.own h,F])
      refine⟨pgOwn_iff.2 ⟨by simp,h8.sat.perm ?_⟩⟩;simp only [starL,TRows,ItRow,zip_fs,List.length_map]
end Go.Proofs.YtkfjilnmnbeokaaGreat.V6
namespace Go.Proofs.YtkfjilnmnbeokaaGreat.W6
open ChangeShapes WideShapes ChangeAt RowKit Sl Cop G2 J2 X3 Z3 Y3 M4 Y5 N6 Q6 S6 V6
theorem own_is {h x:Hp}(hx:Pr.own h x):x=h:=hx
theorem one_item {h:Hp}{b T:Nat}{k v:Value}{x:ItemV}(hp:Pr.pts b (.cells [k,v,.int .i64 x.child,.int .i64 x.size].toArray T (0,0)) h){a:Hp}(hs:h.sub a)(hk:Bytes a k x.key)(hv:Bytes a v x.value):ItemsIn a (.slice (some ⟨b,0,none⟩) 1 1) [x]:=
 ⟨[(k,v)],rfl,(pts_rowIn (k:=4) (n:=1) hp rfl rfl (by simp [maxLen])).sub hs,fun i hx hl=>by
   have:i=0:=by simpa using hx
   subst this
   exact⟨hk,hv⟩⟩
theorem told_sh {t:ToldX}{F:Pr}{w:World}(h:Sat ((PgOwn t).star F) w):∃ai ci ad cd,t.pv=pageV t.g.kind t.g.level (.slice ai t.g.items.length ci) (.slice ad t.g.data.length cd) t.g.next:=by
 obtain⟨_,h1⟩:=pgOwn_iff.1 h;obtain⟨ai,ci,e1⟩:=Row.shape h1;obtain⟨ad,cd,e2⟩:=Row.shape h1.right.right;exact⟨ai,ci,ad,cd,by unfold ToldX.pv;rw [e1,e2]⟩
def NdPost(h:Hp)(F:Pr)(w:World)(e:Ending)(w':World):Option PageV→Prop
 | none=>Stays w w'∧e= .returned (.tuple #[zeroPage,.bool false])∧OwnL [Pr.own h,F] w'
 | some g=>Stays w w'∧∃t:ToldX,e= .returned (.tuple #[t.pv,.bool true])∧t.g=g∧OwnL [PgOwn t,Pr.own h,F] w'
theorem pieces3 {h hh:Hp}{b1 b2 T1 T2:Nat}{k v:Value}{x:ItemV}{v1 v2:Value}{A B:List ItemV}(ha:((Pr.own h).star ((Pr.pts b1 (.cells [k,v,.int .i64 x.child,.int .i64 x.size].toArray T1 (0,0))).star (Pr.pts b2 (.cells [v1,.slice (some ⟨b1,0,none⟩) 1 1,v2].toArray T2 (0,0))))) hh)
 (hk:Bytes h k x.key) (hv:Bytes h v x.value) (h1:ItemsIn h v1 A) (h2:ItemsIn h v2 B):h.sub hh∧PiecesIn hh (.slice (some ⟨b2,0,none⟩) 3 3) [(v1,A),(.slice (some ⟨b1,0,none⟩) 1 1,[x]),(v2,B)]:=by
 obtain⟨a,b,ha',hb',sa,sb⟩:=star_sub ha;obtain⟨c,d,hc,hd,sc,sd⟩:=star_sub hb';cases own_is ha';refine⟨sa,(pts_rowIn (k:=1) (n:=3) hd rfl rfl (by simp [maxLen])).sub (sd.trans sb),fun p hp=> ?_⟩;simp only [List.mem_cons,List.not_mem_nil,or_false] at hp;rcases hp with rfl | rfl | rfl
 · exact h1.sub sa
 · exact one_item hc (sc.trans sb) (hk.sub sa) (hv.sub sa)
 · exact h2.sub sa
theorem insert_any(h:Hp)(pv:Value)(g:PageV)(hg:PageIn h pv g)(fit:Fit g)(at':Nat)(hat:at'≤g.items.length)(iv:Value)(x:ItemV)(hx:ItemIn h iv x)(fx:x.key.length≤65536∧x.value.length≤65536)(F:Pr)(w:World)(hF:Sat ((Pr.own h).star F) w):
 Calls Tryz.prog 71 #[pv,.int .i64 at',iv] w fun e w'=>NdPost h F w e w' (if g.items.length<8 then some (insG g at' x) else none):=by
 obtain⟨vi,vd,rfl,hi,hdd⟩:=id hg;obtain⟨ai,ci,rfl,hcm,_⟩:=items_rd hi;obtain⟨ad,cd,rfl⟩:=bytes_shape hdd;obtain⟨kv,vv,rfl,hk,hv⟩:=id hx;obtain⟨ak,ck,rfl⟩:=bytes_shape hk;obtain⟨av,cv,rfl⟩:=bytes_shape hv
 have hic:g.items.length≤ci:=by
  obtain⟨_,_,⟨_,_,_,e,h1,_⟩,_⟩:=id hi;cases e;exact h1
 have hs0:=(((OwnL.in1 hF).alloc (pageC g.kind g.level (.slice ai g.items.length ci) (.slice ad g.data.length cd) g.next)).alloc (itemC (.slice ak x.key.length ck) (.slice av x.value.length cv) x.child x.size)).alloc (pageC 0 0 (.slice none 0 0) (.slice none 0 0) 0)
 rw [show ((w.alloc (pageC g.kind g.level (.slice ai g.items.length ci) (.slice ad g.data.length cd) g.next)).alloc (itemC (.slice ak x.key.length ck) (.slice av x.value.length cv) x.child x.size)).heap.size=w.heap.size+1+1 by simp,show (w.alloc (pageC g.kind g.level (.slice ai g.items.length ci) (.slice ad g.data.length cd) g.next)).heap.size=w.heap.size+1 by simp] at hs0
 have HST:=hQ ((((Stays.refl w).alloc (pageC g.kind g.level (.slice ai g.items.length ci) (.slice ad g.data.length cd) g.next)).alloc (itemC (.slice ak x.key.length ck) (.slice av x.value.length cv) x.child x.size)).alloc (pageC 0 0 (.slice none 0 0) (.slice none 0 0) 0));have hn8:=fit.n;have hnl:¬(at':Int)<0:=by omega
 have hng:¬(g.items.length:Int)<(at':Int):=by omega
 have c1:=hs0.facts;simp only [CellsAt,Nat.reduceAdd,and_true] at c1;have HS0:=hQ hs0;have HI:=hQ (And.intro hi (And.intro hdd (And.intro hk hv)));clear hF hs0 hg hi hdd hx hk hv;by_cases h8:8≤g.items.length
 · have h8':(8:Int)≤(g.items.length:Int):=by omega
   rw [if_neg (by omega)];go_enter Tryz.func71,Tryz.ntmps71
   go_wp2;refine bodyPost_ret (results_cell_row_tmp rfl _ _ (w.heap.size+1+1) _ rfl (run_loadVar_row _ (w.heap.size+1+1) _ _ _ _ _ (HS0.out.pts (w.heap.size+1+1)).pts_heap Tryz.underlying74 rfl infoPage)) rfl ?_;exact⟨HST.out,rfl,HS0.out.to⟩
 · have h8':¬(8:Int)≤(g.items.length:Int):=by omega
   have PA:=hQ (fun wx=>parts_any ai g.items.length ci at' hat ⟨hic,hcm⟩ wx);have I1:=items_take HI.out.1 hat;have I2:=items_drop HI.out.1 hat;rw [if_pos (by omega)];obtain⟨a2,ha2⟩:∃a2,(if ci=at' then ai else Option.map (fun x=>x.add (at'*4)) ai)=a2:=⟨_,rfl⟩;rw [ha2] at I2 PA;go_enter Tryz.func71,Tryz.ntmps71
   go_wp2_with fail
   refine(PA.out _).mono ?_;rintro e w1 ⟨rfl,rfl⟩;generalize hw0:((w.alloc (pageC g.kind g.level (.slice ai g.items.length ci) (.slice ad g.data.length cd) g.next)).alloc (itemC (.slice ak x.key.length ck) (.slice av x.value.length cv) x.child x.size)).alloc (pageC 0 0 (.slice none 0 0) (.slice none 0 0) 0)=w0 at*
   have hs2:=((HS0.out.alloc (.cells #[.slice ak x.key.length ck,.slice av x.value.length cv,.int .i64 x.child,.int .i64 x.size] 89)).alloc (.cells #[.slice ai at' at',.slice (some ⟨w0.heap.size,0,none⟩) 1 1,.slice a2 (g.items.length-at') (ci-at')] 72)).drew
   rw [show (w0.alloc (.cells #[.slice ak x.key.length ck,.slice av x.value.length cv,.int .i64 x.child,.int .i64 x.size] 89)).heap.size=w0.heap.size+1 by simp] at hs2
   have hs3:=hs2.join3 (Pr.own h) (Pr.pts (w0.heap.size) (.cells [.slice ak x.key.length ck,.slice av x.value.length cv,.int .i64 x.child,.int .i64 x.size].toArray 89 (0,0))) (Pr.pts (w0.heap.size+1) (.cells [.slice ai at' at',.slice (some ⟨w0.heap.size,0,none⟩) 1 1,.slice a2 (g.items.length-at') (ci-at')].toArray 72 (0,0)))
   obtain⟨hh,ha,hs4⟩:=hs3.arena ((Pr.own h).star ((Pr.pts (w0.heap.size) (.cells [.slice ak x.key.length ck,.slice av x.value.length cv,.int .i64 x.child,.int .i64 x.size].toArray 89 (0,0))).star (Pr.pts (w0.heap.size+1) (.cells [.slice ai at' at',.slice (some ⟨w0.heap.size,0,none⟩) 1 1,.slice a2 (g.items.length-at') (ci-at')].toArray 72 (0,0)))))
   obtain⟨sh,hp⟩:=pieces3 ha HI.out.2.2.1 HI.out.2.2.2 I1 I2;have hio:itemsOf [(Value.slice ai at' at',g.items.take at'),(Value.slice (some ⟨w0.heap.size,0,none⟩) 1 1,[x]),(Value.slice a2 (g.items.length-at') (ci-at'),g.items.drop at')]=g.items.take at'++x :: g.items.drop at':=by simp [itemsOf]
   have WA:=with_any hh g.kind g.level g.next ai g.items.length ci _ g.data (HI.out.2.1.sub sh) (by have:=fit.d;omega) _ _ hp (fun p hp y hy=>by
    simp only [List.mem_cons,List.not_mem_nil,or_false] at hp
    rcases hp with rfl | rfl | rfl
    · have:=fit.k y (List.mem_of_mem_take hy);omega
    · rw [List.mem_singleton.1 hy];exact fx
    · have:=fit.k y (List.mem_of_mem_drop hy);omega) (by rw [hio,List.length_append,List.length_cons,List.length_take,List.length_drop];omega) (by simp) _ _ (hs4.pull1 (A1:=Pr.own hh))
   rw [hio] at WA;have WAH:=hQ WA;have HST2:=hQ ((HST.out.alloc (.cells #[.slice ak x.key.length ck,.slice av x.value.length cv,.int .i64 x.child,.int .i64 x.size] 89)).alloc (.cells #[.slice ai at' at',.slice (some ⟨w0.heap.size,0,none⟩) 1 1,.slice a2 (g.items.length-at') (ci-at')] 72)).drew;have HA:=hQ ha;clear hs2 hs3 hs4 ha hp sh hio WA I1 I2 hw0 ha2 HST;go_wp2_with fail
   refine WAH.out.mono ?_;rintro e w2 ⟨st2,t,rfl,ht,hs5⟩
   have hs6:=(hs5.flat.back ((Pr.own h).star ((Pr.pts (w0.heap.size) (.cells [.slice ak x.key.length ck,.slice av x.value.length cv,.int .i64 x.child,.int .i64 x.size].toArray 89 (0,0))).star (Pr.pts (w0.heap.size+1) (.cells [.slice ai at' at',.slice (some ⟨w0.heap.size,0,none⟩) 1 1,.slice a2 (g.items.length-at') (ci-at')].toArray 72 (0,0))))) HA.out).norm
   obtain⟨ti,tc,td,te,hpv⟩:=told_sh (hs6.pull1 (A1:=PgOwn t));rw [hpv];clear c1;have c1:=hs6.facts;simp only [CellsAt,Nat.reduceAdd,and_true] at c1;have HS6:=hQ hs6;have HPV:=hQ (And.intro hpv ht);have HST6:=hQ (HST2.out.trans st2);clear hs5 hs6 hpv ht st2 HST2 WAH;generalize t.g.items.length=tn at*;generalize t.g.data.length=td2 at*;go_wp2
   have h7:=((((HS6.out.set (w.heap.size+1+1) 0 (.int .i64 t.g.kind)).set (w.heap.size+1+1) 1 (.int .i64 t.g.level)).set (w.heap.size+1+1) 2 (.slice ti tn tc)).set (w.heap.size+1+1) 3 (.slice td td2 te)).set (w.heap.size+1+1) 4 (.int .i64 t.g.next)
   refine bodyPost_ret (results_cell_row_tmp rfl _ _ (w.heap.size+1+1) _ rfl (run_loadVar_row _ (w.heap.size+1+1) _ _ _ _ _ (h7.pts (w.heap.size+1+1)).pts_heap Tryz.underlying74 rfl infoPage)) rfl ?_;exact⟨((((HST6.out.setCell _ _).setCell _ _).setCell _ _).setCell _ _).setCell _ _,t,by rw [HPV.out.1];rfl,HPV.out.2,h7.to⟩
theorem replace_any(h:Hp)(pv:Value)(g:PageV)(hg:PageIn h pv g)(fit:Fit g)(at':Nat)(hat:at'<g.items.length)(iv:Value)(x:ItemV)(hx:ItemIn h iv x)(fx:x.key.length≤65536∧x.value.length≤65536)(F:Pr)(w:World)(hF:Sat ((Pr.own h).star F) w):
 Calls Tryz.prog 73 #[pv,.int .i64 at',iv] w fun e w'=>NdPost h F w e w' (some (repG g at' x)):=by
 obtain⟨vi,vd,rfl,hi,hdd⟩:=id hg;obtain⟨ai,ci,rfl,hcm,_⟩:=items_rd hi;obtain⟨ad,cd,rfl⟩:=bytes_shape hdd;obtain⟨kv,vv,rfl,hk,hv⟩:=id hx;obtain⟨ak,ck,rfl⟩:=bytes_shape hk;obtain⟨av,cv,rfl⟩:=bytes_shape hv
 have hic:g.items.length≤ci:=by
  obtain⟨_,_,⟨_,_,_,e,h1,_⟩,_⟩:=id hi;cases e;exact h1
 have hs0:=(((OwnL.in1 hF).alloc (pageC g.kind g.level (.slice ai g.items.length ci) (.slice ad g.data.length cd) g.next)).alloc (itemC (.slice ak x.key.length ck) (.slice av x.value.length cv) x.child x.size)).alloc (pageC 0 0 (.slice none 0 0) (.slice none 0 0) 0)
 rw [show ((w.alloc (pageC g.kind g.level (.slice ai g.items.length ci) (.slice ad g.data.length cd) g.next)).alloc (itemC (.slice ak x.key.length ck) (.slice av x.value.length cv) x.child x.size)).heap.size=w.heap.size+1+1 by simp,show (w.alloc (pageC g.kind g.level (.slice ai g.items.length ci) (.slice ad g.data.length cd) g.next)).heap.size=w.heap.size+1 by simp] at hs0
 have HST:=hQ ((((Stays.refl w).alloc (pageC g.kind g.level (.slice ai g.items.length ci) (.slice ad g.data.length cd) g.next)).alloc (itemC (.slice ak x.key.length ck) (.slice av x.value.length cv) x.child x.size)).alloc (pageC 0 0 (.slice none 0 0) (.slice none 0 0) 0));have hn8:=fit.n;have hnl:¬(at':Int)<0:=by omega
 have hng:¬(g.items.length:Int)≤(at':Int):=by omega
 have c1:=hs0.facts;simp only [CellsAt,Nat.reduceAdd,and_true] at c1;have HS0:=hQ hs0;have HI:=hQ (And.intro hi (And.intro hdd (And.intro hk hv)));clear hF hs0 hg hi hdd hx hk hv;have PA:=hQ (fun wx=>parts_any ai g.items.length ci at' (by omega) ⟨hic,hcm⟩ wx);have I1:=items_take HI.out.1 (m:=at') (by omega);have I2:=items_drop HI.out.1 (m:=at') (by omega)
 obtain⟨a2,ha2⟩:∃a2,(if ci=at' then ai else Option.map (fun x=>x.add (at'*4)) ai)=a2:=⟨_,rfl⟩;rw [ha2] at I2 PA;have I3:=items_drop (by rw [List.length_drop];exact I2) (m:=1) (by rw [List.length_drop];omega);rw [List.length_drop,List.drop_drop] at I3;obtain⟨b2,hb2⟩:∃b2,(if ci-at'=1 then a2 else Option.map (fun x=>x.add (1*4)) a2)=b2:=⟨_,rfl⟩;rw [hb2] at I3;have HB2:=hQ hb2;clear hb2
 go_enter Tryz.func73,Tryz.ntmps73
 go_wp2_with fail
 refine(PA.out _).mono ?_;rintro e w1 ⟨rfl,rfl⟩;generalize hw0:((w.alloc (pageC g.kind g.level (.slice ai g.items.length ci) (.slice ad g.data.length cd) g.next)).alloc (itemC (.slice ak x.key.length ck) (.slice av x.value.length cv) x.child x.size)).alloc (pageC 0 0 (.slice none 0 0) (.slice none 0 0) 0)=w0 at*
 have hs2:=((HS0.out.alloc (.cells #[.slice ak x.key.length ck,.slice av x.value.length cv,.int .i64 x.child,.int .i64 x.size] 89)).alloc (.cells #[.slice ai at' at',.slice (some ⟨w0.heap.size,0,none⟩) 1 1,.slice b2 (g.items.length-at'-1) (ci-at'-1)] 72)).drew.drew
 rw [show (w0.alloc (.cells #[.slice ak x.key.length ck,.slice av x.value.length cv,.int .i64 x.child,.int .i64 x.size] 89)).heap.size=w0.heap.size+1 by simp] at hs2
 have hs3:=hs2.join3 (Pr.own h) (Pr.pts (w0.heap.size) (.cells [.slice ak x.key.length ck,.slice av x.value.length cv,.int .i64 x.child,.int .i64 x.size].toArray 89 (0,0))) (Pr.pts (w0.heap.size+1) (.cells [.slice ai at' at',.slice (some ⟨w0.heap.size,0,none⟩) 1 1,.slice b2 (g.items.length-at'-1) (ci-at'-1)].toArray 72 (0,0)))
 obtain⟨hh,ha,hs4⟩:=hs3.arena ((Pr.own h).star ((Pr.pts (w0.heap.size) (.cells [.slice ak x.key.length ck,.slice av x.value.length cv,.int .i64 x.child,.int .i64 x.size].toArray 89 (0,0))).star (Pr.pts (w0.heap.size+1) (.cells [.slice ai at' at',.slice (some ⟨w0.heap.size,0,none⟩) 1 1,.slice b2 (g.items.length-at'-1) (ci-at'-1)].toArray 72 (0,0)))))
 obtain⟨sh,hp⟩:=pieces3 ha HI.out.2.2.1 HI.out.2.2.2 I1 I3;have hio:itemsOf [(Value.slice ai at' at',g.items.take at'),(Value.slice (some ⟨w0.heap.size,0,none⟩) 1 1,[x]),(Value.slice b2 (g.items.length-at'-1) (ci-at'-1),g.items.drop (at'+1))]=g.items.take at'++x :: g.items.drop (at'+1):=by simp [itemsOf]
 have WA:=with_any hh g.kind g.level g.next ai g.items.length ci _ g.data (HI.out.2.1.sub sh) (by have:=fit.d;omega) _ _ hp (fun p hp y hy=>by
  simp only [List.mem_cons,List.not_mem_nil,or_false] at hp
  rcases hp with rfl | rfl | rfl
  · have:=fit.k y (List.mem_of_mem_take hy);omega
  · rw [List.mem_singleton.1 hy];exact fx
  · have:=fit.k y (List.mem_of_mem_drop hy);omega) (by rw [hio,List.length_append,List.length_cons,List.length_take,List.length_drop];omega) (by simp) _ _ (hs4.pull1 (A1:=Pr.own hh))
 rw [hio] at WA;have WAH:=hQ WA;have HST2:=hQ ((HST.out.alloc (.cells #[.slice ak x.key.length ck,.slice av x.value.length cv,.int .i64 x.child,.int .i64 x.size] 89)).alloc (.cells #[.slice ai at' at',.slice (some ⟨w0.heap.size,0,none⟩) 1 1,.slice b2 (g.items.length-at'-1) (ci-at'-1)] 72)).drew.drew;have HA:=hQ ha;have h1c:(1:Int)≤((g.items.length-at':Nat):Int):=by omega
 have h1d:(1:Int)≤((ci-at':Nat):Int):=by omega
 clear hs2 hs3 hs4 ha hp sh hio WA I1 I2 I3 hw0 ha2 HST;go_wp2;refine wS 35 [0,1,2,4,5] [(3,[],[0,1,4,5]),(6,[],[0,4]),(7,[],[4]),(8,[9],[])] ?_;refine wpQ_cut [0,1,2,4] [5] ?_;refine wpQ_all _ rfl rfl ?_;simp only [pick,pQ];iterate 4 (go_big_quiet_step (fail))
 refine wpQuiet_nil ?_;refine wpQ_step rfl rfl (fun K hK=> ?_);go_simp;rw [show (if ci-at'=1 then a2 else Option.map (fun x=>({ block:=x.block,off:=x.off+4 }:Addr)) a2)=b2 from HB2.out];refine hK _ ?_;clear hK K;refine wpQ_nil ?_;refine wpRest_act rfl ?_;go_wp2;refine onN_mk ?_;refine wpQ_nil ⟨?_,?_⟩
 · refine chk_cut [0,1,4] [5] ?_ (chk_cons (yieldF_of rfl rfl rfl rfl (by go_simp;rw [show (if ci-at'=1 then a2 else Option.map (fun x=>({ block:=x.block,off:=x.off+4 }:Addr)) a2)=b2 from HB2.out])) chk_nil)
   refine chk_all _ rfl rfl ?_;simp only [pick,Same,pQ,and_true];repeat' (first | apply And.intro | (go_big_quiet_step (fail);exact wpQuiet_nil rfl))
 refine wpRest_act rfl ?_;go_wp2;refine onN_mk ?_;refine wpQ_nil ⟨?_,?_⟩
 · exact cQ
 refine wpRest_act rfl ?_;go_wp2_with fail
 refine WAH.out.mono ?_;rintro e w2 ⟨st2,t,rfl,ht,hs5⟩
 have hs6:=(hs5.flat.back ((Pr.own h).star ((Pr.pts (w0.heap.size) (.cells [.slice ak x.key.length ck,.slice av x.value.length cv,.int .i64 x.child,.int .i64 x.size].toArray 89 (0,0))).star (Pr.pts (w0.heap.size+1) (.cells [.slice ai at' at',.slice (some ⟨w0.heap.size,0,none⟩) 1 1,.slice b2 (g.items.length-at'-1) (ci-at'-1)].toArray 72 (0,0))))) HA.out).norm
 obtain⟨ti,tc,td,te,hpv⟩:=told_sh (hs6.pull1 (A1:=PgOwn t));rw [hpv];clear c1;have c1:=hs6.facts;simp only [CellsAt,Nat.reduceAdd,and_true] at c1;have HS6:=hQ hs6;have HPV:=hQ (And.intro hpv ht);have HST6:=hQ (HST2.out.trans st2);clear hs5 hs6 hpv ht st2 HST2 WAH;generalize t.g.items.length=tn at*;generalize t.g.data.length=td2 at*;go_wp2;refine onN_mk ?_;refine wpQ_nil ⟨?_,?_⟩
 · exact cQ
 refine wpRest_act rfl ?_;go_wp2;refine onN_mk ?_;refine wpQ_all _ rfl rfl ?_;simp only [pick,pQ];iterate 1 (go_big_quiet_step (fail))
 refine wpQuiet_nil ⟨?_,?_⟩
 · exact chk_nil
 refine wpRest_nil ?_;go_wp2;have h7:=((((HS6.out.set (w.heap.size+1+1) 0 (.int .i64 t.g.kind)).set (w.heap.size+1+1) 1 (.int .i64 t.g.level)).set (w.heap.size+1+1) 2 (.slice ti tn tc)).set (w.heap.size+1+1) 3 (.slice td td2 te)).set (w.heap.size+1+1) 4 (.int .i64 t.g.next)
 refine bodyPost_ret (results_cell_row_tmp rfl _ _ (w.heap.size+1+1) _ rfl (run_loadVar_row _ (w.heap.size+1+1) _ _ _ _ _ (h7.pts (w.heap.size+1+1)).pts_heap Tryz.underlying74 rfl infoPage)) rfl ?_;exact⟨((((HST6.out.setCell _ _).setCell _ _).setCell _ _).setCell _ _).setCell _ _,t,by rw [HPV.out.1];rfl,HPV.out.2,h7.to⟩
end Go.Proofs.YtkfjilnmnbeokaaGreat.W6
