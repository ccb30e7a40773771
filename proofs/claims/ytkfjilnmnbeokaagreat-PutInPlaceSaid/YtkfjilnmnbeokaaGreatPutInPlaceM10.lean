/- The pool: a new one, Tally; the conditions stand as hypotheses. -/
import Derived.Test.YtkfjilnmnbeokaaGreatPutInPlaceM08
import Derived.Test.YtkfjilnmnbeokaaGreatPutInPlaceM05
import Derived.Deep.OwnRows
import Derived.Test.YtkfjilnmnbeokaaGreatPutInPlaceM03
import Derived.Laws.Rows
import Derived.Laws.ResultCell
import Derived.Test.YtkfjilnmnbeokaaGreatPutInPlaceM01
set_option maxRecDepth 100000
set_option maxHeartbeats 16000000
namespace Go.Proofs.YtkfjilnmnbeokaaGreat.V3
open ChangeShapes WideShapes ChangeAt RowKit Sl Cop D2 D3 E3 G3 J3 M3 E2 C3 G2
abbrev poolOf(refs:Int)(cs:List Int)(fl:Int):PoolS:= { refs:=refs,counts:=cs,last:=lastsOf cs,acts:= [],floor:=fl }
theorem own_nil:Pr.own Hp.nil=Pr.emp:=rfl
theorem acts_nil {p:Nat}{F:Pr}{w:World}(h:Sat F w):Sat ((ActsA p (.slice none 0 0) []).star F) w:=by
 unfold ActsA;refine Sat.ex.2 ⟨([],Hp.nil),?_⟩;rw [Pr.star_assoc];refine Sat.pure.2 ⟨⟨rfl,fun i hi=>absurd hi (by simp)⟩,?_⟩;show Sat (((Row _ 1 (.slice none 0 0) 0 []).star (Pr.own Hp.nil)).star F) w
 rw [Row.nil,own_nil,Pr.star_emp,Pr.emp_star];exact h
theorem mid_end {p fb:Nat}{refs:Int}{cv lv:Value}{cs:List Int}{last:List Bool}{fl:Int}{F:Pr}{w:World}(hl:last.length=cs.length)(ok:PoolOk (poolOf refs cs fl))
 (h:Sat ((Mid p fb refs cv lv cs last fl cs.length).star F) w):Sat ((PoolA p (poolOf refs cs fl)).star F) w:=by
 refine poolA_iff.2 ⟨ok,cv,lv,fb,.slice none 0 0,?_⟩;have h1:=acts_nil (p:=p) h;refine h1.perm ?_;unfold PoolAt Mid
 have e1:setCells refs cv lv fb (cs.take cs.length) fl=poolCells (poolOf refs cs fl) cv lv fb (.slice none 0 0):=by
  have t:∀k,1≤k∧k≤4→(poolOf refs cs fl).tally k=inState cs k:=fun k hk=>by
   unfold PoolS.tally;rw [if_neg (by omega),many_settled cs k _ rfl rfl]
  unfold setCells poolCells;rw [t 1 (by omega),t 2 (by omega),t 3 (by omega),t 4 (by omega),inState_none cs 2 (by omega) (by omega),inState_none cs 3 (by omega) (by omega),List.take_length]
 have e2:lastsOf (cs.take cs.length)++last.drop cs.length=lastsOf cs:=by rw [List.take_length,List.drop_eq_nil_of_le (by omega),List.append_nil]
 have e3:(SetOf fb fun n=>1≤n∧n≤((cs.length:Nat):Int)∧cs.getD (n.toNat-1) 0=0)=SetOf fb fun n=>(poolOf refs cs fl).state n=1:=by
  refine setOf_congr fun n=>⟨fun⟨b1,b2,b3⟩=> ?_,fun hs=> ?_⟩
  · have ht:(poolOf refs cs fl).there n:=⟨b1,b2⟩
    rw [state_there ht];unfold PoolS.count PoolS.lasts;rw [if_pos ht]
    have:((poolOf refs cs fl).last).getD (n.toNat-1) false=decide (0<cs.getD (n.toNat-1) 0):=by
     show (lastsOf cs).getD _ _=_
     rw [List.getD_eq_getElem?_getD,List.getD_eq_getElem?_getD];simp [lastsOf,List.getElem?_eq_getElem (show n.toNat-1<cs.length by omega)]
    rw [this];show stateOf (cs.getD (n.toNat-1) 0) _=1
    rw [b3,stateOf_zero]
  · have ht:(poolOf refs cs fl).there n:=there_of_state (by omega)
    have h0:=count_of_free ok hs;unfold PoolS.count at h0;rw [if_pos ht] at h0;exact⟨ht.1,ht.2,h0⟩
 rw [e1,e2,e3];ac_rfl
theorem right_yes(n r:Int)(h:1≤n∧n≤65536∧2≤r∧r<65536)(w:World):Calls Tryz.prog 64 #[.int .i64 n,.int .i64 r] w fun e w'=>e= .returned (.bool true)∧w=w':=by
 obtain⟨h1,h2,h3,h4⟩:=h;go_enter Tryz.func64,Tryz.ntmps64
 go_wp2;go_ret;exact⟨rfl,rfl⟩
theorem infoBool:(Tryz.prog.info? 4).map (fun i=>(i.zero,i.size,i.bytes))=some (some (.bool false),1,1):=by kernel_rfl
theorem made_rep(z:Value)(n:Nat):madeCells #[z] n=(List.replicate n z).toArray:=by
 refine Array.ext (by simp [size_madeCells]) fun i h1 h2=> ?_
 simp [madeCells,Nat.mod_one]
theorem row_made {F:Pr}{w:World}(T:Nat)(z:Value)(n:Nat)(hn:n≤maxLen)(h:Sat F w):
 Sat ((Row T 1 (.slice (some ⟨w.heap.size,0,none⟩) n n) n (List.replicate n z)).star F) (w.alloc (.cells (madeCells #[z] n) T)):=by
 have h1:=h.alloc (.cells (madeCells #[z] n) T);rw [made_rep] at h1 ⊢;refine Row.mk' (sp:= []) (by simp) (by simp) (Nat.le_refl _) hn ?_;rw [List.append_nil];exact h1
theorem over_any(refs:Int)(cv:Value)(cs:List Int)(F:Pr)(w:World)(hF:Sat ((IntsRow cv cs).star F) w)(ok:PoolOk (poolOf refs cs 0)):
 Calls Tryz.prog 65 #[.int .i64 refs,cv] w fun e w'=> ∃p,e= .returned (.pointer (some ⟨p,0,none⟩))∧Sat ((PoolA p (poolOf refs cs 0)).star F) w'∧Stays w w':=by
 have o1:1≤cs.length:=ok.n1;have o2:cs.length≤65536:=ok.n2;have hmk:=run_make_row' (P:=Tryz.prog) 32 4 (.bool false) 1 Tryz.underlying32 infoBool rfl .i64 .i64 cs.length (by omega) (by omega);obtain⟨bc,cc,ec,_⟩:=ints_read hF (by omega);subst ec;have h1:=row_made 4 (.bool false) cs.length (by simp only [maxLen];omega) hF
 have e1:Row 4 1 (.slice (some ⟨w.heap.size,0,none⟩) cs.length cs.length) cs.length (List.replicate cs.length (.bool false))=BoolsRow (.slice (some ⟨w.heap.size,0,none⟩) cs.length cs.length) (List.replicate cs.length false):=by
  unfold BoolsRow;rw [List.length_replicate,List.map_replicate]
 rw [e1] at h1;have h2:=h1.alloc (.cells #[.int .i64 refs,.slice (some ⟨bc,0,none⟩) cs.length cc,.slice (some ⟨w.heap.size,0,none⟩) cs.length cs.length,.pointer none,.int .i64 0,.int .i64 0,.int .i64 0,.int .i64 0,.int .i64 0,.slice none 0 0,.int .i64 0] 118);have es:(w.alloc (.cells (madeCells #[.bool false] cs.length) 4)).heap.size=w.heap.size+1:=by simp
 rw [es] at h2
 have h3:=h2.perm (B:=(Pr.pts (w.heap.size+1) (.cells #[.int .i64 refs,.slice (some ⟨bc,0,none⟩) cs.length cc,.slice (some ⟨w.heap.size,0,none⟩) cs.length cs.length,.pointer none,.int .i64 0,.int .i64 0,.int .i64 0,.int .i64 0,.int .i64 0,.slice none 0 0,.int .i64 0] 118)).star ((IntsRow (.slice (some ⟨bc,0,none⟩) cs.length cc) cs).star ((BoolsRow (.slice (some ⟨w.heap.size,0,none⟩) cs.length cs.length) (List.replicate cs.length false)).star F))) (by ac_rfl)
 have C:=settle_low (w.heap.size+1) refs _ _ _ _ _ _ _ _ none 0 0 0 cs (List.replicate cs.length false) F _ h3 o1 o2 (by simp) ok.cs (by omega) (by omega);have HC:=hQ C;have HOK:=hQ ok;clear C h1 h2 h3 hF e1 ok es;go_enter Tryz.func65,Tryz.ntmps65
 go_wp2_with fail
 refine HC.out.mono ?_;rintro e w1 ⟨rfl,⟨fb,h4⟩,hst⟩;have H4:=hQ (mid_end (p:=_) (by simp) HOK.out h4);clear h4;go_wp2;go_ret;exact⟨_,rfl,H4.out,(((Stays.refl w).alloc _).alloc _).trans hst⟩
theorem poolOk_new(pages refs:Int)(h:1≤pages∧pages≤65536∧2≤refs∧refs<65536):PoolOk (poolOf refs (List.replicate pages.toNat 0) 0):=by
 refine⟨?_,?_,?_,h.2.2.1,h.2.2.2,?_,Int.le_refl _,?_⟩
 · show 1≤(List.replicate _ _).length;rw [List.length_replicate];omega
 · show (List.replicate _ _).length≤ _;rw [List.length_replicate];omega
 · simp [lastsOf]
 · intro c hc
   have:=List.eq_of_mem_replicate hc
   omega
 · show (0:Int)+(([]:List (Int × Int)).length:Nat)≤ _
   simp
theorem new_any(pages refs:Int)(h:1≤pages∧pages≤65536∧2≤refs∧refs<65536)(F:Pr)(w:World)(hF:Sat F w):
 Calls Tryz.prog 32 #[.int .i64 pages,.int .i64 refs] w fun e w'=>
  ∃p,e= .returned (.tuple #[.pointer (some ⟨p,0,none⟩),.int .i64 0])∧Sat ((PoolA p (poolOf refs (List.replicate pages.toNat 0) 0)).star F) w'∧Stays w w':=by
 have hok:=poolOk_new pages refs h;obtain⟨n,rfl⟩:∃n:Nat,pages=n:=⟨pages.toNat,by omega⟩;rw [Int.toNat_natCast] at hok ⊢;have hmk:=run_make_row' (P:=Tryz.prog) 31 3 (.int .i64 0) 8 Tryz.underlying31 infoInt rfl .i64 .i64 n (by omega) (by omega);have h1:=row_made 3 (.int .i64 0) n (by simp only [maxLen];omega) hF
 have e1:Row 3 1 (.slice (some ⟨w.heap.size,0,none⟩) n n) n (List.replicate n (.int .i64 0))=IntsRow (.slice (some ⟨w.heap.size,0,none⟩) n n) (List.replicate n 0):=by
  unfold IntsRow;rw [List.length_replicate,List.map_replicate]
 rw [e1] at h1;have HC:=hQ (over_any refs _ _ F _ h1 hok);clear h1 e1 hok hF;go_enter Tryz.func32,Tryz.ntmps32
 go_wp2_with fail
 refine(right_yes _ _ h _).mono ?_;rintro e w1 ⟨rfl,rfl⟩;go_wp2_with fail
 refine HC.out.mono ?_;rintro e w1 ⟨p,rfl,h4,hst⟩;have H4:=hQ h4;clear h4;go_wp2;go_ret2;exact⟨p,rfl,H4.out,((Stays.refl w).alloc _).trans hst⟩
end Go.Proofs.YtkfjilnmnbeokaaGreat.V3
namespace Go.Cop
structure ItemV where
 key:List Int
 value:List Int
 child:Int
 size:Int
structure PageV where
 kind:Int
 level:Int
 items:List ItemV
 data:List Int
 next:Int
abbrev blobV(d:List Int)(next:Int):PageV:=⟨3,0,[],d,next⟩
structure ActV where
 mark:Int
 was:List (Int × Option PageV)
structure VaultS where
 pool:PoolS
 on:Int→Option PageV
 acts:List ActV
 floor:Int
end Go.Cop
namespace Go.Proofs.YtkfjilnmnbeokaaGreat.X3
open ChangeShapes WideShapes ChangeAt RowKit Sl Cop D2 D3 J3 V3 G2 J2
theorem infoPage:(Tryz.prog.info? 74).map (·.size)=some 5:=by kernel_rfl
theorem infoItem:(Tryz.prog.info? 89).map (fun i=>(i.zero,i.size,i.bytes))=some (some (.agg #[.slice none 0 0,.slice none 0 0,.int .i64 0,.int .i64 0]),4,64):=by kernel_rfl
theorem infoWas:(Tryz.prog.info? 164).map (fun i=>(i.zero,i.size,i.bytes))=some (some (.agg #[.int .i64 0,.int .i64 0,.int .i64 0,.slice none 0 0,.slice none 0 0,.int .i64 0,.bool false]),7,88):=by kernel_rfl
theorem infoVAct:(Tryz.prog.info? 126).map (fun i=>(i.zero,i.size,i.bytes))=some (some (.agg #[.int .i64 0,.slice none 0 0]),2,32):=by kernel_rfl
def ItemsIn(h:Hp)(vi:Value)(l:List ItemV):Prop:=
 ∃xs:List (Value × Value),xs.length=l.length∧RowIn h 4 vi l.length ((xs.zip l).flatMap fun x=> [x.1.1,x.1.2,.int .i64 x.2.child,.int .i64 x.2.size])∧
  ∀i (hx:i<xs.length) (hl:i<l.length),Bytes h xs[i].1 l[i].key∧Bytes h xs[i].2 l[i].value
def PageIn(h:Hp)(v:Value)(g:PageV):Prop:= ∃vi vd,v=pageV g.kind g.level vi vd g.next∧ItemsIn h vi g.items∧Bytes h vd g.data
theorem ItemsIn.sub {a b:Hp}(hs:a.sub b){v:Value}{l:List ItemV}(h:ItemsIn a v l):ItemsIn b v l:=by
 obtain⟨xs,h1,h2,h3⟩:=h;exact⟨xs,h1,h2.sub hs,fun i hx hl=>⟨(h3 i hx hl).1.sub hs,(h3 i hx hl).2.sub hs⟩⟩
theorem PageIn.sub {a b:Hp}(hs:a.sub b){v:Value}{g:PageV}(h:PageIn a v g):PageIn b v g:=by
 obtain⟨vi,vd,h1,h2,h3⟩:=h;exact⟨vi,vd,h1,h2.sub hs,h3.sub hs⟩
theorem items_none {h:Hp}{v:Value}(hi:ItemsIn h v []):∃a c,v= .slice a 0 c∧c≤maxLen:=by
 obtain⟨xs,h1,h2,h3⟩:=hi;obtain⟨_,a,c,e,_,e2,_⟩:=h2;exact⟨a,c,e,e2⟩
theorem Row.bd {T k:Nat}{a:Option Addr}{m c n:Nat}{xs:List Value}{F:Pr}{w:World}(h:Sat ((Row T k (.slice a m c) n xs).star F) w):c≤maxLen:=by
 obtain⟨_,(⟨e,_,_⟩ | ⟨b,cap,sp,e,_,_,h3,_⟩)⟩:=Row.open' h
 · cases e;exact Nat.zero_le _
 · cases e;exact h3
theorem sat_emp(w:World):Sat Pr.emp w:=⟨Hp.nil,rfl,fun k o e=>by cases e⟩
theorem only_grown {a w w':World}{row:Option Nat}(h:Only a w)(hg:w.grownBy w' row)(hr:∀b,row=some b→a.heap.size≤b):Only a w':=
 ⟨h.st.of_grown hg,fun k hk=>(hg.block k (Nat.lt_of_lt_of_le hk h.st.size) (fun e=>by have:=hr k e.symm;omega)).trans (h.heap k hk)⟩
theorem items_mk {h:Hp}{a:Option Addr}{c:Nat}(hc:c≤maxLen):ItemsIn h (.slice a 0 c) []:=
 ⟨[],rfl,⟨by simp,a,c,rfl,Nat.zero_le _,hc,fun h=>absurd h (by simp)⟩,fun i hx=>absurd hx (by simp)⟩
theorem clone_items0(a:Option Addr)(c:Nat)(hc:c≤maxLen)(w:World):
 Calls Tryz.prog 101 #[.slice a 0 c] w fun e w'=> ∃a' c',e= .returned (.slice a' 0 c')∧c'≤maxLen∧Only w w':=by
 have he:∀wx:World,(binOp .eql 72 (.slice a 0 c) (.slice none 0 0)).run Tryz.prog wx= .ok (.bool a.isNone) wx:=fun wx=>Lib.run_eql_slice_nil wx _ _ a _ c 0 0 Tryz.underlying72
 cases a with
 | none=>
   go_enter Tryz.func101,Tryz.ntmps101
   go_wp2;go_ret;exact⟨_,_,rfl,Nat.zero_le _,Only.refl w⟩
 | some ad=>
   have hnew:Sat ((Row 89 4 (.slice (some ⟨w.heap.size,0,none⟩) 0 0) 0 []).star Pr.emp) (w.alloc (.cells #[] 89)):=
    Row.mk' (xs:= []) (sp:= []) (by simp) (by simp) (Nat.le_refl _) (by simp) (by simpa using (sat_emp w).alloc (.cells #[] 89))
   have hx:RowIn Hp.nil 4 (.slice (some ad) 0 c) 0 []:=⟨by simp,some ad,c,rfl,Nat.zero_le _,hc,fun h=>absurd h (by simp)⟩;have HF:=hQ hnew;have HX:=hQ hx;clear hx hnew;go_enter Tryz.func101,Tryz.ntmps101
   obtain⟨i0,hi,hz0,hz1,hz2⟩:=info_parts infoItem;go_wp2_with (at_builtin;refine wpList_append_row rfl _ _ _ rfl 89 i0 (.agg #[.slice none 0 0,.slice none 0 0,.int .i64 0,.int .i64 0]) 4 64 Tryz.underlying72 hi hz0 hz1 hz2 rfl _ _ _ rfl HF.out Hp.nil (fun k o e=>by cases e) _ _ _ rfl HX.out (by simp) (by simp) (by simp) ?_;intro v' w1 hsat hgr _;have HSAT:=hQ hsat;clear hsat)
   go_ret;have h1:=HSAT.out;obtain⟨a',c',e',_,_⟩:=Row.read h1;subst e';exact⟨a',c',rfl,Row.bd h1,only_grown ((Only.refl w).alloc _) hgr (fun b e=>by cases e;exact Nat.le_refl _)⟩
theorem toArena {A F:Pr}{w:World}(h:Sat (A.star F) w){Q:Hp→Prop}(hq:∀x,A x→Q x):∃h',Q h'∧Sat ((Pr.own h').star F) w:=by
 obtain⟨x,⟨a,f,ha,hf,hd,rfl⟩,hw⟩:=h;exact⟨a,hq a ha,_,⟨a,f,rfl,hf,hd,rfl⟩,hw⟩
theorem copied_blob(h:Hp)(v:Value)(d:List Int)(next:Int)(hd:d.length≤65536)(hv:PageIn h v (blobV d next))(F:Pr)(w:World)(hF:Sat F w)(hh:h.le w):
 Calls Tryz.prog 55 #[v] w fun e w'=> ∃v',e= .returned v'∧(∃h',PageIn h' v' (blobV d next)∧Sat ((Pr.own h').star F) w')∧Stays w w':=by
 obtain⟨vi,vd,rfl,h1,h2⟩:=hv;obtain⟨ai,ci,rfl,hci⟩:=items_none h1;obtain⟨_,ad,cd,hvd,_,_,_⟩:=id h2;subst hvd;dsimp only;have es:(w.alloc (.cells #[.int .i64 3,.int .i64 0,.slice ai 0 ci,.slice ad d.length cd,.int .i64 next] 74)).heap.size=w.heap.size+1:=by simp
 have hb:=hF.alloc (.cells #[.int .i64 3,.int .i64 0,.slice ai 0 ci,.slice ad d.length cd,.int .i64 next] 74);have hb2:=hb.alloc (.cells #[.int .i64 0,.int .i64 0,.slice none 0 0,.slice none 0 0,.int .i64 0] 74);rw [es] at hb2
 have hle:h.le ((w.alloc (.cells #[.int .i64 3,.int .i64 0,.slice ai 0 ci,.slice ad d.length cd,.int .i64 next] 74)).alloc (.cells #[.int .i64 0,.int .i64 0,.slice none 0 0,.slice none 0 0,.int .i64 0] 74)):=
  fun k o e=>((((Only.refl w).alloc _).alloc _).heap k (Array.getElem?_eq_some_iff.1 (hh k o e)).1).trans (hh k o e)
 have HB:=hQ hb2;have HL:=hQ hle;have H2:=hQ h2;clear hb hb2 hle h2 h1 hF hh es;go_enter Tryz.func55,Tryz.ntmps55
 go_wp2;refine wS 39 [0,1,3,4] [(2,[6],[0,3,4]),(5,[],[0,3,6]),(7,[8],[]),(9,[],[])] ?_;iterate 4 (refine wpQ_step rfl rfl (fun K hK=> ?_);go_simp;refine hK _ ?_;clear hK K)
 refine wpQ_nil ?_;refine wpRest_act rfl ?_;go_wp2_with fail
 refine(clone_items0 ai ci hci _).mono ?_;rintro e w1 ⟨a',c',rfl,hc',ho⟩;have s1:=HB.out.drew.only ho;have l1:h.le w1:=fun k o e=>(ho.heap k (Array.getElem?_eq_some_iff.1 (HL.out k o e)).1).trans (HL.out k o e)
 have q3:w1.cell? ⟨w.heap.size,3,none⟩=some (.slice ad d.length cd):=by rw [cell_of_heap s1.right.pts_heap];rfl
 have S1:=hQ s1;have L1:=hQ l1;have HO:=hQ ho;clear s1 l1 ho;go_wp2;refine onN_mk ?_;iterate 1 (refine wpQ_step rfl rfl (fun K hK=> ?_);go_simp;refine hK _ ?_;clear hK K)
 refine wpQ_nil ⟨?_,?_⟩
 · refine chk_cons ?_ (chk_cons ?_ (chk_cons ?_ chk_nil))<;>(refine yieldF_of rfl rfl rfl rfl ?_;go_simp;try omega)
 refine wpRest_act rfl ?_;go_wp2_with fail
 refine(clone_bytes h _ d _ _ S1.out L1.out H2.out hd).mono ?_;rintro e w2 ⟨vd2,rfl,s2,hst2⟩;obtain⟨a2,c2,ed,_,_⟩:=Row.read s2;subst ed
 have s3:Sat ((Pr.pts w.heap.size (.cells #[.int .i64 3,.int .i64 0,.slice ai 0 ci,.slice ad d.length cd,.int .i64 next] 74)).star ((Pr.pts (w.heap.size+1) (.cells #[.int .i64 0,.int .i64 0,.slice none 0 0,.slice none 0 0,.int .i64 0] 74)).star
  ((BytesRow (.slice a2 d.length c2) d).star F))) w2:=s2.perm (by ac_rfl)
 have y2:w2.cell? ⟨w.heap.size,2,none⟩=some (.slice ai 0 ci):=by rw [cell_of_heap s3.pts_heap];rfl
 have y3:w2.cell? ⟨w.heap.size,3,none⟩=some (.slice ad d.length cd):=by rw [cell_of_heap s3.pts_heap];rfl
 have z2:=frozen_of_heap s3.pts_heap 2;have z3:=frozen_of_heap s3.pts_heap 3;have S3:=hQ s3;clear s2 s3 S1 L1 HB HL H2;go_wp2;refine onN_mk (wpQ_nil ⟨?_,?_⟩)
 · refine chk_cons ?_ (chk_cons ?_ (chk_cons ?_ chk_nil))<;>(refine yieldF_of rfl rfl rfl rfl ?_;go_simp;try omega)
 refine wpRest_act rfl ?_;go_wp2;refine onN_mk ?_;iterate 1 (refine wpQ_step rfl rfl (fun K hK=> ?_);go_simp;refine hK _ ?_;clear hK K)
 refine wpQ_nil ⟨chk_nil,?_⟩;refine wpRest_act rfl ?_;go_wp2;refine onN_mk (wpQ_nil ⟨chk_nil,wpRest_nil ?_⟩);clear z2 z3;have s4:=(S3.out.setCell (i:=2) (.slice a' 0 c')).setCell (i:=3) (.slice a2 d.length c2)
 have w4:Sat ((Pr.pts (w.heap.size+1) (.cells #[.int .i64 0,.int .i64 0,.slice none 0 0,.slice none 0 0,.int .i64 0] 74)).star ((Pr.pts w.heap.size (.cells #[.int .i64 3,.int .i64 0,.slice a' 0 c',.slice a2 d.length c2,.int .i64 next] 74)).star
  ((BytesRow (.slice a2 d.length c2) d).star F))) _:=s4.perm (by rw [Pr.left_comm];rfl)
 generalize hwe:(w2.setCell ⟨w.heap.size,2,none⟩ (.slice a' 0 c')).setCell ⟨w.heap.size,3,none⟩ (.slice a2 d.length c2)=w5 at*;have hst5:Stays w2 w5:=by rw [← hwe];exact((Stays.refl _).setCell _ _).setCell _ _
 have p0:w5.cell? ⟨w.heap.size,0,none⟩=some (.int .i64 3):=by rw [cell_of_heap w4.right.pts_heap];rfl
 have p1:w5.cell? ⟨w.heap.size,1,none⟩=some (.int .i64 0):=by rw [cell_of_heap w4.right.pts_heap];rfl
 have p2:w5.cell? ⟨w.heap.size,2,none⟩=some (.slice a' 0 c'):=by rw [cell_of_heap w4.right.pts_heap];rfl
 have p3:w5.cell? ⟨w.heap.size,3,none⟩=some (.slice a2 d.length c2):=by rw [cell_of_heap w4.right.pts_heap];rfl
 have p4:w5.cell? ⟨w.heap.size,4,none⟩=some (.int .i64 next):=by rw [cell_of_heap w4.right.pts_heap];rfl
 have f0:w5.cell? ⟨w.heap.size+1,0,none⟩=some (.int .i64 0):=by rw [cell_of_heap w4.pts_heap];rfl
 have f1:w5.cell? ⟨w.heap.size+1,1,none⟩=some (.int .i64 0):=by rw [cell_of_heap w4.pts_heap];rfl
 have f2:w5.cell? ⟨w.heap.size+1,2,none⟩=some (.slice none 0 0):=by rw [cell_of_heap w4.pts_heap];rfl
 have f3:w5.cell? ⟨w.heap.size+1,3,none⟩=some (.slice none 0 0):=by rw [cell_of_heap w4.pts_heap];rfl
 have f4:w5.cell? ⟨w.heap.size+1,4,none⟩=some (.int .i64 0):=by rw [cell_of_heap w4.pts_heap];rfl
 have z0:=frozen_of_heap w4.pts_heap 0;have z1:=frozen_of_heap w4.pts_heap 1;have z2:=frozen_of_heap w4.pts_heap 2;have z3:=frozen_of_heap w4.pts_heap 3;have z4:=frozen_of_heap w4.pts_heap 4;have W4:=hQ w4;have HST:=hQ (((((Stays.refl w).alloc _).alloc _).drew.trans HO.out.st).trans (hst2.trans hst5));clear s4 w4 hwe hst5 y2 y3 S3 hst2 HO;go_wp2
 go_loopw [16] (fun i wr=>i= .int .i64 0∧wr=w5) (fun _ _=>0)
 case atStart=>exact⟨rfl,rfl⟩
 case round=>
  obtain⟨rfl,rfl⟩:=hrel;go_wp2;have s6:=((((W4.out.setCell (i:=0) (.int .i64 3)).setCell (i:=1) (.int .i64 0)).setCell (i:=2) (.slice a' 0 c')).setCell (i:=3) (.slice a2 d.length c2)).setCell (i:=4) (.int .i64 next)
  have s7:Sat ((Pr.pts (w.heap.size+1) (.cells #[.int .i64 3,.int .i64 0,.slice a' 0 c',.slice a2 d.length c2,.int .i64 next] 74)).star ((Pr.pts w.heap.size (.cells #[.int .i64 3,.int .i64 0,.slice a' 0 c',.slice a2 d.length c2,.int .i64 next] 74)).star
   ((BytesRow (.slice a2 d.length c2) d).star F))) _:=s6
  refine bodyPost_ret (results_cell_row rfl _ _ (w.heap.size+1) _ _ _ _ rfl s7.pts_heap Tryz.underlying74 rfl infoPage) rfl ?_;obtain⟨h',e1,e2⟩:=toArena (Q:=fun x=>Bytes x (.slice a2 d.length c2) d) s7.right.right (fun x hx=>Row.rowIn hx);exact⟨_,rfl,⟨h',⟨_,_,rfl,items_mk hc',e1⟩,e2⟩,((((HST.out.setCell _ _).setCell _ _).setCell _ _).setCell _ _).setCell _ _⟩
end Go.Proofs.YtkfjilnmnbeokaaGreat.X3
namespace Go.Cop
open Go.Proofs.YtkfjilnmnbeokaaGreat.Q2
def keyOk(k:Int)(i:Nat)(x:ItemV):Bool:=if k=2∧i=0 then decide (x.key.length=0) else decide (1≤x.key.length∧x.key.length≤24)
def ordOk(i:Nat)(prev:List Int)(x:ItemV):Bool:=decide (i=0∨0<cmpI x.key prev)
def valOk(k:Int)(x:ItemV):Bool:=
 if k=2 then decide (x.value.length=0∧x.size=0)
 else if 0≤x.size∧x.size≤3840 then(if x.size≤32 then decide ((x.value.length:Int)=x.size) else decide (x.value.length=0)) else false
def kidOk(k:Int)(x:ItemV):Bool:=if k=1∧x.size≤32 then decide (x.child=0) else isPg x.child
def itemE(k:Int)(i:Nat)(prev:List Int)(x:ItemV):Int:=
 if keyOk k i x=false then 7 else if ordOk i prev x=false then 11 else if valOk k x=false then 8 else if kidOk k x=false then 15 else 0
def itemsE(k:Int):Nat→List Int→List ItemV→Int
 | _,_,[]=>0
 | i,prev,x :: l=>if itemE k i prev x=0 then itemsE k (i+1) x.key l else itemE k i prev x
def kindOk(k:Int):Bool:=decide (1≤k∧k≤3)
def nextOk(n:Int):Bool:=decide (n=0) || isPg n
def thenE(e f:Int):Int:=if e=0 then f else e
def checkP(g:PageV):Int:=
 if kindOk g.kind=false then 22 else if formP g.kind g.level g.items.length g.data.length g.next=false then 5
 else thenE (itemsE g.kind 0 [] g.items) (if nextOk g.next then 0 else 15)
structure Fit(g:PageV):Prop where
 n:g.items.length≤8
 d:g.data.length≤480
 k:∀x∈g.items,x.key.length≤24∧x.value.length≤32
theorem mustP_then(f:Int)(b:Bool)(e:Int):mustP f b e=thenE f (if b then 0 else e):=by
 unfold mustP thenE;cases b
 · simp
 · by_cases h:f=0<;>simp [h]
theorem thenE_assoc(a b c:Int):thenE (thenE a b) c=thenE a (thenE b c):=by
 unfold thenE;by_cases h:a=0<;>by_cases h2:b=0<;>simp [h,h2]
theorem thenE_zero(a:Int):thenE a 0=a:=by
 unfold thenE;by_cases h:a=0<;>simp [h]
theorem zero_thenE(a:Int):thenE 0 a=a:=rfl
theorem itemsE_cons(k:Int)(i:Nat)(p:List Int)(x:ItemV)(l:List ItemV):itemsE k i p (x :: l)=thenE (itemE k i p x) (itemsE k (i+1) x.key l):=rfl
theorem itemE_then(k:Int)(i:Nat)(p:List Int)(x:ItemV):itemE k i p x=thenE (if keyOk k i x then 0 else 7) (thenE (if ordOk i p x then 0 else 11) (thenE (if valOk k x then 0 else 8) (if kidOk k x then 0 else 15))):=by
 unfold itemE thenE;cases keyOk k i x<;>cases ordOk i p x<;>cases valOk k x<;>cases kidOk k x<;>simp
theorem drop_at {l:List ItemV}{i:Nat}(h:i<l.length):l.drop i=l[i] :: l.drop (i+1):=List.drop_eq_getElem_cons h
theorem fit_items(k:Int):∀(l:List ItemV) (i:Nat) (p:List Int),itemsE k i p l=0→∀x∈l,x.key.length≤24∧x.value.length≤32
 | [],_,_,_,x,hx=>by cases hx
 | y :: l,i,p,h,x,hx=>by
   rw [itemsE_cons] at h
   have h1:itemE k i p y=0:=by
    unfold thenE at h;split at h
    · assumption
    · exact absurd h (by assumption)
   have h2:itemsE k (i+1) y.key l=0:=by unfold thenE at h;rw [if_pos h1] at h;exact h
   rcases List.mem_cons.1 hx with rfl | hx
   · unfold itemE at h1
     split at h1
     · cases h1
     · rename_i hk
       split at h1
       · cases h1
       · split at h1
         · cases h1
         · rename_i hv
           constructor
           · unfold keyOk at hk
             split at hk<;>simp only [decide_eq_false_iff_not,Decidable.not_not] at hk<;>omega
           · unfold valOk at hv
             split at hv
             · simp only [decide_eq_false_iff_not,Decidable.not_not] at hv;omega
             · split at hv
               · split at hv<;>simp only [decide_eq_false_iff_not,Decidable.not_not] at hv<;>omega
               · simp at hv
   · exact fit_items k l (i+1) y.key h2 x hx
theorem fit_of_check {g:PageV}(h:checkP g=0):Fit g:=by
 unfold checkP at h;split at h
 · cases h
 · rename_i hk
   split at h
   · cases h
   · rename_i hf
     have h1:itemsE g.kind 0 [] g.items=0:=by
      unfold thenE at h;split at h
      · assumption
      · exact absurd h (by assumption)
     have hb:g.items.length≤8∧g.data.length≤480:=by
      unfold formP at hf;split at hf
      · simp only [decide_eq_false_iff_not,Decidable.not_not] at hf;omega
      · split at hf<;>simp only [decide_eq_false_iff_not,Decidable.not_not] at hf<;>omega
     exact⟨hb.1,hb.2,fit_items _ _ _ _ h1⟩
end Go.Cop
namespace Go.Proofs.YtkfjilnmnbeokaaGreat.Y3
open ChangeShapes WideShapes ChangeAt RowKit Sl Cop D2 D3 J3 V3 G2 J2 X3
structure WasX where
 no:Int
 pk:Int
 pl:Int
 vi:Value
 vd:Value
 nx:Int
 th:Bool
def WasX.cells(x:WasX):List Value:= [.int .i64 x.no,.int .i64 x.pk,.int .i64 x.pl,x.vi,x.vd,.int .i64 x.nx,.bool x.th]
def IsSl(v:Value):Prop:= ∃a m c,v= .slice a m c
def WasRel(h:Hp)(x:WasX)(y:Int × Option PageV):Prop:=
 x.no=y.1∧IsSl x.vi∧IsSl x.vd∧match y.2 with | some g=>x.th=true∧PageIn h (pageV x.pk x.pl x.vi x.vd x.nx) g | none=>x.th=false
def WasIn(h:Hp)(xs:List WasX)(was:List (Int × Option PageV)):Prop:=xs.length=was.length∧∀i (h1:i<xs.length) (h2:i<was.length),WasRel h xs[i] was[i]
def ActRel(h:Hp)(x:Int × Value)(y:ActV):Prop:=x.1=y.mark∧∃xs:List WasX,RowIn h 7 x.2 y.was.length (xs.flatMap WasX.cells)∧WasIn h xs y.was
def ActsIn2(h:Hp)(xs:List (Int × Value))(acts:List ActV):Prop:=xs.length=acts.length∧∀i (h1:i<xs.length) (h2:i<acts.length),ActRel h xs[i] acts[i]
def actCells(xs:List (Int × Value)):List Value:=xs.flatMap fun x=> [.int .i64 x.1,x.2]
def OnIn(h:Hp)(f:Int→Option Value)(on:Int→Option PageV):Prop:= ∀n,match on n with | none=>f n=none | some g=> ∃v,f n=some v∧PageIn h v g
theorem WasRel.sub {a b:Hp}(hs:a.sub b){x:WasX}{y:Int × Option PageV}(h:WasRel a x y):WasRel b x y:=by
 obtain⟨h1,h2,h3,h4⟩:=h;refine⟨h1,h2,h3,?_⟩;cases hy:y.2 with
 | none=>rw [hy] at h4;exact h4
 | some g=>rw [hy] at h4;exact⟨h4.1,h4.2.sub hs⟩
theorem WasIn.sub {a b:Hp}(hs:a.sub b){xs:List WasX}{was:List (Int × Option PageV)}(h:WasIn a xs was):WasIn b xs was:=⟨h.1,fun i h1 h2=>(h.2 i h1 h2).sub hs⟩
theorem ActsIn2.sub {a b:Hp}(hs:a.sub b){xs:List (Int × Value)}{acts:List ActV}(h:ActsIn2 a xs acts):ActsIn2 b xs acts:=
 ⟨h.1,fun i h1 h2=>⟨(h.2 i h1 h2).1,by obtain⟨ys,e1,e2⟩:=(h.2 i h1 h2).2;exact⟨ys,e1.sub hs,e2.sub hs⟩⟩⟩
theorem OnIn.sub {a b:Hp}(hs:a.sub b){f:Int→Option Value}{on:Int→Option PageV}(h:OnIn a f on):OnIn b f on:=by
 intro n;have:=h n
 cases hy:on n with
 | none=>rw [hy] at this;exact this
 | some g=>rw [hy] at this;obtain⟨v,e1,e2⟩:=this;exact⟨v,e1,e2.sub hs⟩
theorem OnIn.put {h:Hp}{f:Int→Option Value}{on:Int→Option PageV}(hO:OnIn h f on){n:Int}{v:Value}{g:PageV}(hp:PageIn h v g):OnIn h (fun m=>if m=n then some v else f m) (fun m=>if m=n then some g else on m):=by
 intro m;dsimp only;by_cases hm:m=n
 · simp only [hm,if_true];exact⟨v,rfl,hp⟩
 · simp only [hm,if_false];exact hO m
structure VX where
 p:Nat
 mb:Nat
 av:Value
 f:Int→Option Value
 axs:List (Int × Value)
 h:Hp
def VaultAt(v:Nat)(s:VaultS)(x:VX):Pr:=
 (Pr.pts v (.cells #[.pointer (some ⟨x.p,0,none⟩),.map (some x.mb),x.av,.int .i64 s.floor] 70)).star ((PoolA x.p s.pool).star ((MapA Tryz.prog 3 x.mb x.f).star ((Row 126 2 x.av s.acts.length (actCells x.axs)).star (Pr.own x.h))))
structure VOk(s:VaultS)(x:VX):Prop where
 on:OnIn x.h x.f s.on
 acts:ActsIn2 x.h x.axs s.acts
 f0:0≤s.floor
 fb:s.floor+s.acts.length≤1099511627776
def VaultA(v:Nat)(s:VaultS):Pr:=Pr.ex fun x:VX=>(Pr.pure (VOk s x)).star (VaultAt v s x)
theorem vaultA_iff {v:Nat}{s:VaultS}{F:Pr}{w:World}:Sat ((VaultA v s).star F) w↔∃x,VOk s x∧Sat ((VaultAt v s x).star F) w:=by
 unfold VaultA;rw [Sat.ex];constructor
 · rintro⟨x,h⟩
   rw [Pr.star_assoc] at h;obtain⟨h1,h2⟩:=Sat.pure.1 h;exact⟨x,h1,h2⟩
 · rintro⟨x,h1,h2⟩
   refine⟨x,?_⟩;rw [Pr.star_assoc];exact Sat.pure.2 ⟨h1,h2⟩
def VMAt(v:Nat)(s:VaultS)(x:VX)(ab:Nat)(mark:Int)(wv:Value)(ws:List WasX):Pr:=
 (VaultAt v s x).star ((Pr.pts ab (.cells #[.int .i64 mark,wv] 126)).star (Row 164 7 wv ws.length (ws.flatMap WasX.cells)))
theorem new_cells(w:World)(l:List Value)(T:TypeId)(b:Nat)(hb:b=w.heap.size):∀j u,l[j]? =some u→(w.alloc (.cells l.toArray T)).cell? ((⟨b,0,none⟩:Addr).add j)=some u:=by
 intro j u hj;subst hb;rw [add_cell,cell_of_heap (heap_new _ _)];simpa using hj
abbrev zeroPage:Value:=pageV 0 0 (.slice none 0 0) (.slice none 0 0) 0
theorem zero_page(w:World):(zeroValue 74).run Tryz.prog w= .ok zeroPage w:=by kernel_rfl
theorem look_shape {h:Hp}{f:Int→Option Value}{on:Int→Option PageV}(hO:OnIn h f on)(n:Int):
 ∃pk pl ai mi ci ad md cd nx th,(f n).getD zeroPage=pageV pk pl (.slice ai mi ci) (.slice ad md cd) nx∧(f n).isSome=th∧WasRel h ⟨n,pk,pl,.slice ai mi ci,.slice ad md cd,nx,th⟩ (n,on n):=by
 have:=hO n
 cases hy:on n with
 | none=>
   rw [hy] at this;dsimp only at this;exact⟨0,0,none,0,0,none,0,0,0,false,by rw [this];rfl,by rw [this];rfl,rfl,⟨_,_,_,rfl⟩,⟨_,_,_,rfl⟩,rfl⟩
 | some g=>
   rw [hy] at this;obtain⟨v,e1,e2⟩:=this;obtain⟨vi,vd,e3,e4,e5⟩:=id e2;obtain⟨xs,_,⟨_,ai,ci,e6,_⟩,_⟩:=id e4;obtain⟨_,ad,cd,e7,_⟩:=id e5;subst e6;subst e7;exact⟨g.kind,g.level,ai,_,ci,ad,_,cd,g.next,true,by rw [e1,e3];rfl,by rw [e1];rfl,rfl,⟨_,_,_,rfl⟩,⟨_,_,_,rfl⟩,rfl,by rw [← e3];exact e2⟩
theorem note_at(v:Nat)(s:VaultS)(x:VX)(ab:Nat)(mark:Int)(wv:Value)(ws:List WasX)(n:Int)(hn:1≤n∧n≤65536)(hO:OnIn x.h x.f s.on)(hl:ws.length≤65536)(F:Pr)(w:World)
 (hF:Sat ((VMAt v s x ab mark wv ws).star F) w):
 Calls Tryz.prog 148 #[.pointer (some ⟨v,0,none⟩),.pointer (some ⟨ab,0,none⟩),.int .i64 n] w fun e w'=>
  e= .returned (.tuple #[])∧(∃wv' X,WasRel x.h X (n,s.on n)∧Sat ((VMAt v s x ab mark wv' (ws++ [X])).star F) w')∧Stays w w':=by
 have h1:Sat ((MapA Tryz.prog 3 x.mb x.f).star ((Pr.pts v (.cells #[.pointer (some ⟨x.p,0,none⟩),.map (some x.mb),x.av,.int .i64 s.floor] 70)).star ((Row 164 7 wv ws.length (ws.flatMap WasX.cells)).star ((Pr.pts ab (.cells #[.int .i64 mark,wv] 126)).star
  (((PoolA x.p s.pool).star ((Row 126 2 x.av s.acts.length (actCells x.axs)).star (Pr.own x.h))).star F))))) w:=hF.perm (by unfold VMAt VaultAt;ac_rfl)
 obtain⟨pk,pl,ai,mi,ci,ad,md,cd,nx,th,e1,e2,hrel⟩:=look_shape hO n;have q1:w.cell? ⟨v,1,none⟩=some (.map (some x.mb)):=by rw [cell_of_heap h1.right.pts_heap];rfl
 obtain⟨aw,cw,ew,_,_⟩:=Row.read h1.right.right;subst ew;have z0:=h1.right.right.right.lt;have qb:w.cell? ⟨ab,1,none⟩=some (.slice aw ws.length cw):=by rw [cell_of_heap h1.right.right.right.pts_heap];rfl
 have H1:=hQ h1;have HR:=hQ hrel;clear h1 hF hrel hO;go_enter Tryz.func148,Tryz.ntmps148
 go_wp2_with (at_lookup;refine wpList_look rfl _ _ _ true rfl Tryz.underlying3 Tryz.underlying67 zeroPage (zero_page _) n hn rfl rfl H1.out ?_;rw [e1,e2])
 have es:(w.alloc (.cells #[.int .i64 pk,.int .i64 pl,.slice ai mi ci,.slice ad md cd,.int .i64 nx] 74)).heap.size=w.heap.size+1:=by simp
 have h2:=H1.out.alloc (.cells #[.int .i64 pk,.int .i64 pl,.slice ai mi ci,.slice ad md cd,.int .i64 nx] 74);have hb:=h2.pts_heap;generalize hw1:w.alloc (.cells #[.int .i64 pk,.int .i64 pl,.slice ai mi ci,.slice ad md cd,.int .i64 nx] 74)=w1 at*;have p0:w1.cell? ⟨w.heap.size,0,none⟩=some (.int .i64 pk):=by rw [cell_of_heap hb];rfl
 have p1:w1.cell? ⟨w.heap.size,1,none⟩=some (.int .i64 pl):=by rw [cell_of_heap hb];rfl
 have p2:w1.cell? ⟨w.heap.size,2,none⟩=some (.slice ai mi ci):=by rw [cell_of_heap hb];rfl
 have p3:w1.cell? ⟨w.heap.size,3,none⟩=some (.slice ad md cd):=by rw [cell_of_heap hb];rfl
 have p4:w1.cell? ⟨w.heap.size,4,none⟩=some (.int .i64 nx):=by rw [cell_of_heap hb];rfl
 have h3:=h2.right;have qb:w1.cell? ⟨ab,1,none⟩=some (.slice aw ws.length cw):=by rw [cell_of_heap h3.right.right.right.pts_heap];rfl
 have zb:=h3.right.right.right.lt;have zB:=h2.lt;have hsb:=(hw1 ▸ ((Stays.refl w).alloc _):Stays w w1);clear hw1 qb q1 hb;have qb:w1.cell? ⟨ab,1,none⟩=some (.slice aw ws.length cw):=by rw [cell_of_heap h3.right.right.right.pts_heap];rfl
 rw [← es] at*
 have h4:Sat ((Row 164 7 (.slice aw ws.length cw) ws.length (ws.flatMap WasX.cells)).star ((Pr.pts ab (.cells #[.int .i64 mark,.slice aw ws.length cw] 126)).star ((MapA Tryz.prog 3 x.mb x.f).star ((Pr.pts v (.cells #[.pointer (some ⟨x.p,0,none⟩),.map (some x.mb),x.av,.int .i64 s.floor] 70)).star
  ((Pr.pts w.heap.size (.cells #[.int .i64 pk,.int .i64 pl,.slice ai mi ci,.slice ad md cd,.int .i64 nx] 74)).star (((PoolA x.p s.pool).star ((Row 126 2 x.av s.acts.length (actCells x.axs)).star (Pr.own x.h))).star F)))))) w1:=h2.perm (by ac_rfl)
 have hnew:=hQ (new_cells w1 [.int .i64 n,.int .i64 pk,.int .i64 pl,.slice ai mi ci,.slice ad md cd,.int .i64 nx,.bool th] 164 _ rfl);have H5:=hQ (h4.alloc (.cells #[.int .i64 n,.int .i64 pk,.int .i64 pl,.slice ai mi ci,.slice ad md cd,.int .i64 nx,.bool th] 164)).right;have HST:=hQ hsb;clear h2 h3 h4 H1 hsb;go_wp2
 refine wS 30 [0,1,2,3,4,5,6,7,8] [(9,[],[0,1,2,3,4,5,6,7]),(10,[11,12],[0,1,2,3,5,6,7]),(13,[],[11])] ?_;iterate 9 (refine wpQ_step rfl rfl (fun K hK=> ?_);go_simp;refine hK _ ?_;clear hK K)
 refine wpQ_nil ?_;refine wpRest_act rfl ?_;go_wp2;refine onN_mk (wpQ_nil ⟨?_,?_⟩)
 · refine chk_cons ?_ (chk_cons ?_ (chk_cons ?_ (chk_cons ?_ (chk_cons ?_ (chk_cons ?_ (chk_cons ?_ (chk_cons ?_ chk_nil)))))))<;>(refine yieldF_of rfl rfl rfl rfl ?_;go_simp;try omega)
 refine wpRest_act rfl ?_;obtain⟨i0,hi,hz0,hz1,hz2⟩:=info_parts infoWas;refine wpList_append_sl rfl _ _ _ rfl 164 i0 (.agg #[.int .i64 0,.int .i64 0,.int .i64 0,.slice none 0 0,.slice none 0 0,.int .i64 0,.bool false]) 7 88 Tryz.underlying124 hi hz0 hz1 hz2 rfl _ _ _ rfl H5.out ⟨w1.heap.size,0,none⟩ 1 1 _ rfl rfl hnew.out (by simp [Value.oneCell']) (by simp only [maxLen];omega) (by omega) ?_
 intro v' w2 hsat hgr _;obtain⟨a2,c2,hv2,_,_⟩:=Row.read hsat;subst hv2;have hp:=hsat.right;have hpb:=hsat.right.right.right.right;have r0:w2.cell? ⟨w.heap.size,0,none⟩=some (.int .i64 pk):=by rw [cell_of_heap hpb.pts_heap];rfl
 have r1:w2.cell? ⟨w.heap.size,1,none⟩=some (.int .i64 pl):=by rw [cell_of_heap hpb.pts_heap];rfl
 have r2:w2.cell? ⟨w.heap.size,2,none⟩=some (.slice ai mi ci):=by rw [cell_of_heap hpb.pts_heap];rfl
 have r3:w2.cell? ⟨w.heap.size,3,none⟩=some (.slice ad md cd):=by rw [cell_of_heap hpb.pts_heap];rfl
 have r4:w2.cell? ⟨w.heap.size,4,none⟩=some (.int .i64 nx):=by rw [cell_of_heap hpb.pts_heap];rfl
 have y1:=frozen_of_heap hp.pts_heap 1;have y1c:w2.cell? ⟨ab,1,none⟩=some (.slice aw ws.length cw):=by rw [cell_of_heap hp.pts_heap];rfl
 have yp:=hp.lt;have yB:=hpb.lt;have HSAT:=hQ hsat;have HG:=hQ (((HST.out.alloc (.cells #[.int .i64 n,.int .i64 pk,.int .i64 pl,.slice ai mi ci,.slice ad md cd,.int .i64 nx,.bool th] 164)).drew).of_grown hgr);clear hsat hp hpb hgr p0 p1 p2 p3 p4 qb zb zB H5 hnew es;go_wp2;refine onN_mk ?_;iterate 2 (refine wpQ_step rfl rfl (fun K hK=> ?_);go_simp;refine hK _ ?_;clear hK K)
 refine wpQ_nil ⟨?_,?_⟩
 · refine chk_cons ?_ (chk_cons ?_ (chk_cons ?_ (chk_cons ?_ (chk_cons ?_ (chk_cons ?_ (chk_cons ?_ chk_nil))))))<;>(refine yieldF_of rfl rfl rfl rfl ?_;go_simp;try omega)
 refine wpRest_act rfl ?_;go_wp2;refine onN_mk (wpQ_nil ⟨?_,wpRest_nil ?_⟩)
 · refine chk_cons ?_ chk_nil<;>(refine yieldF_of rfl rfl rfl rfl ?_;go_simp;try omega)
 go_wp2;first | refine bodyPost_ret (results_none rfl _ _ _) rfl ?_ | go_end0
 refine⟨rfl,⟨.slice a2 (ws.length+1) c2,⟨n,pk,pl,.slice ai mi ci,.slice ad md cd,nx,th⟩,HR.out,?_⟩,HG.out.setCell _ _⟩
 have h6:Sat ((Pr.pts ab (.cells #[.int .i64 mark,.slice a2 (ws.length+1) c2] 126)).star ((Row 164 7 (.slice a2 (ws.length+1) c2) (ws.length+1) (ws.flatMap WasX.cells++ [.int .i64 n,.int .i64 pk,.int .i64 pl,.slice ai mi ci,.slice ad md cd,.int .i64 nx,.bool th])).star ((MapA Tryz.prog 3 x.mb x.f).star ((Pr.pts v (.cells #[.pointer (some ⟨x.p,0,none⟩),.map (some x.mb),x.av,.int .i64 s.floor] 70)).star ((Pr.pts w.heap.size (.cells #[.int .i64 pk,.int .i64 pl,.slice ai mi ci,.slice ad md cd,.int .i64 nx] 74)).star (((PoolA x.p s.pool).star ((Row 126 2 x.av s.acts.length (actCells x.axs)).star (Pr.own x.h))).star F)))))) _:=(HSAT.out.perm (Pr.left_comm _ _ _)).setCell (i:=1) (.slice a2 (ws.length+1) c2)
 have h7:Sat ((Pr.pts w.heap.size (.cells #[.int .i64 pk,.int .i64 pl,.slice ai mi ci,.slice ad md cd,.int .i64 nx] 74)).star ((((Pr.pts v (.cells #[.pointer (some ⟨x.p,0,none⟩),.map (some x.mb),x.av,.int .i64 s.floor] 70)).star ((PoolA x.p s.pool).star ((MapA Tryz.prog 3 x.mb x.f).star ((Row 126 2 x.av s.acts.length (actCells x.axs)).star (Pr.own x.h))))).star ((Pr.pts ab (.cells #[.int .i64 mark,.slice a2 (ws.length+1) c2] 126)).star (Row 164 7 (.slice a2 (ws.length+1) c2) (ws.length+1) (ws.flatMap WasX.cells++ [.int .i64 n,.int .i64 pk,.int .i64 pl,.slice ai mi ci,.slice ad md cd,.int .i64 nx,.bool th])))).star F)) _:=h6.perm (by ac_rfl)
 have e:VMAt v s x ab mark (.slice a2 (ws.length+1) c2) (ws++ [⟨n,pk,pl,.slice ai mi ci,.slice ad md cd,nx,th⟩])=((Pr.pts v (.cells #[.pointer (some ⟨x.p,0,none⟩),.map (some x.mb),x.av,.int .i64 s.floor] 70)).star ((PoolA x.p s.pool).star ((MapA Tryz.prog 3 x.mb x.f).star ((Row 126 2 x.av s.acts.length (actCells x.axs)).star (Pr.own x.h))))).star ((Pr.pts ab (.cells #[.int .i64 mark,.slice a2 (ws.length+1) c2] 126)).star (Row 164 7 (.slice a2 (ws.length+1) c2) (ws.length+1) (ws.flatMap WasX.cells++ [.int .i64 n,.int .i64 pk,.int .i64 pl,.slice ai mi ci,.slice ad md cd,.int .i64 nx,.bool th]))):=by
  unfold VMAt VaultAt;rw [List.flatMap_append,List.length_append];rfl
 rw [e];exact h7.right
end Go.Proofs.YtkfjilnmnbeokaaGreat.Y3
namespace Go.Sl
theorem flat_at {α:Type}(f:α→List Value)(k:Nat)(hf:∀x,(f x).length=k):∀(l:List α) (i j:Nat) (hi:i<l.length),j<k→(l.flatMap f)[i*k+j]? =(f l[i])[j]?
 | [],i,j,hi,_=>absurd hi (by simp)
 | x :: l,0,j,_,hj=>by
   simp only [List.flatMap_cons,Nat.zero_mul,Nat.zero_add,List.getElem_cons_zero];rw [List.getElem?_append_left (by rw [hf];exact hj)]
 | x :: l,i+1,j,hi,hj=>by
   have hx:=hf x;simp only [List.flatMap_cons,List.getElem_cons_succ];rw [List.getElem?_append_right (by rw [hx,Nat.succ_mul];omega),hx,show (i+1)*k+j-k=i*k+j by rw [Nat.succ_mul];omega];exact flat_at f k hf l i j (by simpa using hi) hj
theorem flat_len {α:Type}(f:α→List Value)(k:Nat)(hf:∀x,(f x).length=k):∀(l:List α),(l.flatMap f).length=l.length*k
 | []=>by simp
 | x :: l=>by simp only [List.flatMap_cons,List.length_append,List.length_cons,flat_len f k hf l,hf x,Nat.succ_mul];omega
theorem flat_set {α:Type}(f:α→List Value)(k:Nat)(hf:∀x,(f x).length=k)(j:Nat)(v:Value)(y:α)(hj:j<k):∀(l:List α) (i:Nat) (hi:i<l.length),(f l[i]).set j v=f y→(l.flatMap f).set (i*k+j) v=(l.set i y).flatMap f
 | [],i,hi,_=>absurd hi (by simp)
 | x :: l,0,_,e=>by
   simp only [List.flatMap_cons,Nat.zero_mul,Nat.zero_add,List.set_cons_zero,List.getElem_cons_zero] at e ⊢;rw [List.set_append_left _ _ (by rw [hf];exact hj),e]
 | x :: l,i+1,hi,e=>by
   have hx:=hf x;simp only [List.flatMap_cons,List.set_cons_succ,List.getElem_cons_succ] at e ⊢;rw [List.set_append_right _ _ (by rw [hx,Nat.succ_mul];omega),hx,show (i+1)*k+j-k=i*k+j by rw [Nat.succ_mul];omega];rw [flat_set f k hf j v y hj l i (by simpa using hi) e]
theorem Row.set {T k b c n:Nat}{xs:List Value}{F:Pr}{w:World}(h:Sat ((Row T k (.slice (some ⟨b,0,none⟩) n c) n xs).star F) w)(i:Nat)(hi:i<xs.length)(v:Value):
 Sat ((Row T k (.slice (some ⟨b,0,none⟩) n c) n (xs.set i v)).star F) (w.setCell ⟨b,i,none⟩ v):=by
 obtain⟨hl,(⟨e,_,_⟩ | ⟨b',cap,sp,e,h1,h2,h3,h4⟩)⟩:=Row.open' h
 · cases e
 · cases e
   have h5:=h4.setCell (i:=i) v;refine Row.mk' (sp:=sp) (by simpa using hl) (by simpa using h1) h2 h3 ?_
   have e6:(xs.set i v++sp).toArray=(xs++sp).toArray.setIfInBounds i v:=by
    rw [List.setIfInBounds_toArray,List.set_append_left _ _ hi]
   rw [e6];exact h5
end Go.Sl
namespace Go.Proofs.YtkfjilnmnbeokaaGreat.Z3
open ChangeShapes WideShapes ChangeAt RowKit Sl Cop G2 J2 X3
abbrev itemV(kv vv:Value)(c s:Int):Value:= .agg #[kv,vv,.int .i64 c,.int .i64 s]
def ItemIn(h:Hp)(v:Value)(x:ItemV):Prop:= ∃kv vv,v=itemV kv vv x.child x.size∧Bytes h kv x.key∧Bytes h vv x.value
theorem ItemIn.sub {a b:Hp}(hs:a.sub b){v:Value}{x:ItemV}(h:ItemIn a v x):ItemIn b v x:=by
 obtain⟨kv,vv,e,h1,h2⟩:=h;exact⟨kv,vv,e,h1.sub hs,h2.sub hs⟩
theorem bytes_shape {h:Hp}{v:Value}{l:List Int}(hb:Bytes h v l):∃a c,v= .slice a l.length c:=by
 obtain⟨_,a,c,e,_⟩:=hb;exact⟨a,c,e⟩
def itCells(x:(Value × Value) × ItemV):List Value:= [x.1.1,x.1.2,.int .i64 x.2.child,.int .i64 x.2.size]
theorem items_rd {h:Hp}{vi:Value}{l:List ItemV}(hi:ItemsIn h vi l):∃a c,vi= .slice a l.length c∧c≤maxLen∧∀i (hl:i<l.length),∃b off ak ck av cv,a=some ⟨b,off,none⟩∧
 Bytes h (.slice ak l[i].key.length ck) l[i].key∧Bytes h (.slice av l[i].value.length cv) l[i].value∧
 ∀w,h.le w→w.cell? ⟨b,off+i*4,none⟩=some (.slice ak l[i].key.length ck)∧w.cell? ⟨b,off+i*4+1,none⟩=some (.slice av l[i].value.length cv)∧
  w.cell? ⟨b,off+i*4+2,none⟩=some (.int .i64 l[i].child)∧w.cell? ⟨b,off+i*4+3,none⟩=some (.int .i64 l[i].size):=by
 obtain⟨xs,hxl,⟨hlen,a,c,e,_,hcm,hc⟩,hb⟩:=hi;refine⟨a,c,e,hcm,fun i hl=> ?_⟩;obtain⟨b,off,ea,hcell⟩:=hc (by omega);have hxi:i<xs.length:=by omega
 obtain⟨h1,h2⟩:=hb i hxi hl;obtain⟨ak,ck,e1⟩:=bytes_shape h1;obtain⟨av,cv,e2⟩:=bytes_shape h2;have hz:i<(xs.zip l).length:=by simp;omega
 have ez:(xs.zip l)[i]=(xs[i],l[i]):=by simp
 refine⟨b,off,ak,ck,av,cv,ea,e1 ▸ h1,e2 ▸ h2,fun w hw=> ?_⟩
 have at':∀j,j<4→∀v,(itCells (xs[i],l[i]))[j]? =some v→w.cell? ⟨b,off+i*4+j,none⟩=some v:=by
  intro j hj v hv;have h3:=hcell (i*4+j) (by omega);have h4:=flat_at itCells 4 (fun _=>rfl) (xs.zip l) i j hz hj;rw [ez,hv] at h4;rw [Nat.add_assoc];exact Hp.cell_le hw (h3.trans h4)
 have k0:=at' 0 (by omega) _ rfl;have k1:=at' 1 (by omega) _ rfl;have k2:=at' 2 (by omega) _ rfl;have k3:=at' 3 (by omega) _ rfl;dsimp only at k0 k1;rw [e1] at k0;rw [e2] at k1;exact⟨k0,k1,k2,k3⟩
theorem items_mk' {h:Hp}{vi:Value}{l:List ItemV}(xs:List (Value × Value))(hxl:xs.length=l.length)(hr:RowIn h 4 vi l.length ((xs.zip l).flatMap itCells))
 (hb:∀i (hx:i<xs.length) (hl:i<l.length),Bytes h xs[i].1 l[i].key∧Bytes h xs[i].2 l[i].value):ItemsIn h vi l:=⟨xs,hxl,hr,hb⟩
end Go.Proofs.YtkfjilnmnbeokaaGreat.Z3
namespace Go.Cop
structure NumV where
 no:Int
 page:PageV
abbrev zeroP:PageV:=⟨0,0,[],[],0⟩
def rangeOk(pages refs:Int):Bool:=decide (1≤pages∧pages≤65536∧2≤refs∧refs<65536)
def cntL(cs:List Int)(n:Int):Int:=if 1≤n∧n≤cs.length then cs.getD (n.toNat-1) 0 else 0
def lay(cs:List Int):List NumV→(Int→Option PageV)→Int × (Int→Option PageV)
 | [],on=>(0,on)
 | x :: l,on=>if cntL cs x.no=0 then(15,on) else if(on x.no).isSome then(10,on) else if checkP x.page≠0 then(checkP x.page,on) else lay cs l (fun m=>if m=x.no then some x.page else on m)
def lacks(cs:List Int)(on:Int→Option PageV):Bool:=(List.range cs.length).any fun i=>decide (cs.getD i 0≠0) && (on ((i:Int)+1)).isNone
def badC(refs:Int)(cs:List Int):Bool:=cs.any fun c=>decide (c<0∨refs<c)
def loadE(refs:Int)(cs:List Int)(l:List NumV):Int × (Int→Option PageV):=
 if rangeOk cs.length refs=false then(1,fun _=>none)
 else if badC refs cs=true then(13,fun _=>none)
 else if(lay cs l fun _=>none).1≠0 then lay cs l fun _=>none
 else if lacks cs (lay cs l fun _=>none).2=true then(9,fun _=>none) else lay cs l fun _=>none
structure OnOk(cs:List Int)(on:Int→Option PageV):Prop where
 there:∀n g,on n=some g→cntL cs n≠0
 fit:∀n g,on n=some g→Fit g
theorem OnOk.none(cs:List Int):OnOk cs fun _=>none:=⟨fun _ _ e=>(by cases e),fun _ _ e=>(by cases e)⟩
theorem OnOk.put {cs:List Int}{on:Int→Option PageV}(h:OnOk cs on){x:NumV}(h1:cntL cs x.no≠0)(h2:checkP x.page=0):OnOk cs fun m=>if m=x.no then some x.page else on m:=by
 constructor
 · intro n g e
   split at e
   · rename_i hn;rw [hn];exact h1
   · exact h.there n g e
 · intro n g e
   split at e
   · cases e;exact fit_of_check h2
   · exact h.fit n g e
def lookL(cs:List Int)(on:Int→Option PageV)(n:Int):Option PageV:=if cntL cs n=0 then none else some ((on n).getD zeroP)
def chainL(look:Int→Option PageV)(size:Nat):Nat→List Int→Int→List Int × Int
 | 0,out,_=>(out,0)
 | k+1,out,n=>if size≤out.length then(out,0) else match look n with
   | none=>([],15)
   | some g=>if g.kind≠3 then([],15)
     else if(g.data.length=min (size-out.length) 480∧((g.next=0)↔(size-out.length≤480))) then chainL look size k (out++g.data) g.next else([],5)
def valueL(look:Int→Option PageV)(size child:Int)(value:List Int):List Int × Int:=
 if size<0∨3840<size∨(size≤32∧(value.length:Int)≠size) then([],8)
 else if size≤32 then(value,0) else chainL look size.toNat size.toNat [] child
end Go.Cop
