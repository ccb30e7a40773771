/- A page whose lists are owned; the program's Read tells such a page; the conditions stand as hypotheses. -/
import Derived.Test.YtbobcmimkonnoaaGreatVaultPlaysM30
import Derived.Test.YtbobcmimkonnoaaGreatVaultPlaysM10
import Derived.Test.YtbobcmimkonnoaaGreatVaultPlaysM09
import Derived.Test.YtbobcmimkonnoaaGreatVaultPlaysM11
import Derived.Test.YtbobcmimkonnoaaGreatVaultPlaysM27
import Derived.Test.YtbobcmimkonnoaaGreatVaultPlaysM01
set_option maxRecDepth 100000
set_option maxHeartbeats 16000000
namespace Go.Proofs.YtbobcmimkonnoaaGreat.N9
open ChangeShapes WideShapes ChangeAt RowKit Sl Cop D2 K3 N3 Q3 G2 M2 U3 Y3 Z3 D4 E4 F4 W5 X3 X5 Y5 M9
theorem fitK {g:PageV}(h:Fit g):∀y∈g.items,y.key.length≤65536∧y.value.length≤65536:=fun y hy=>by have:=h.k y hy;omega
theorem fitZ:Fit zeroP:=⟨by simp,by simp,fun x hx=>by cases hx⟩
theorem zeroIn:PageIn Hp.nil zeroPage zeroP:=⟨_,_,rfl,items_mk (Nat.zero_le _),RowIn.nil _ _⟩
structure ToldX where
 vi:Value
 vd:Value
 ys:List (Value × Value)
 g:PageV
def ToldX.pv(t:ToldX):Value:=pageV t.g.kind t.g.level t.vi t.vd t.g.next
abbrev TRows(t:ToldX)(T:Pr):Pr:=(ItRow t.vi t.ys t.g.items).star ((big rowsOf (t.ys.zip t.g.items)).star ((BytesRow t.vd t.g.data).star T))
def PgOwn(t:ToldX):Pr:=(Pr.pure (t.ys.length=t.g.items.length)).star (TRows t Pr.emp)
theorem pgOwn_iff {t:ToldX}{F:Pr}{w:World}:Sat ((PgOwn t).star F) w↔t.ys.length=t.g.items.length∧Sat (TRows t F) w:=by
 unfold PgOwn
 rw [Pr.star_assoc]
 constructor
 · intro h
   obtain⟨h1,h2⟩:=Sat.pure.1 h
   exact⟨h1,h2.perm (by simp only [TRows,Pr.star_assoc,Pr.emp_star])⟩
 · rintro⟨h1,h2⟩
   exact Sat.pure.2 ⟨h1,h2.perm (by simp only [TRows,Pr.star_assoc,Pr.emp_star])⟩
theorem big_rows_in {l:List ((Value × Value) × ItemV)}{h:Hp}(hb:big rowsOf l h):∀x∈l,Bytes h x.1.1 x.2.key∧Bytes h x.1.2 x.2.value:=by
 induction l generalizing h with
 | nil=>intro x hx;cases hx
 | cons y l ih=>
   obtain⟨a,b,ha,hb',s1,s2⟩:=star_sub (show ((rowsOf y).star (big rowsOf l)) h from hb)
   obtain⟨c,d,hc,hd,s3,s4⟩:=star_sub (show ((BytesRow y.1.1 y.2.key).star (BytesRow y.1.2 y.2.value)) a from ha)
   intro x hx
   rcases List.mem_cons.1 hx with rfl | hx
   · exact⟨((Row.rowIn hc).sub s3).sub s1,((Row.rowIn hd).sub s4).sub s1⟩
   · exact⟨(ih hb' x hx).1.sub s2,(ih hb' x hx).2.sub s2⟩
theorem pgOwn_in {t:ToldX}{h:Hp}(ht:PgOwn t h):PageIn h t.pv t.g:=by
 have ht:((Pr.pure (t.ys.length=t.g.items.length)).star (TRows t Pr.emp)) h:=ht
 obtain⟨a,b,ha,hb,s1,s2⟩:=star_sub ht
 have hlen:t.ys.length=t.g.items.length:=ha.1
 obtain⟨c,d,hc,hd,s3,s4⟩:=star_sub (show ((ItRow t.vi t.ys t.g.items).star ((big rowsOf (t.ys.zip t.g.items)).star ((BytesRow t.vd t.g.data).star Pr.emp))) b from hb)
 obtain⟨e,f,he,hf,s5,s6⟩:=star_sub hd
 obtain⟨i,j,hi,_,s7,_⟩:=star_sub hf
 refine⟨t.vi,t.vd,rfl,⟨t.ys,hlen,((Row.rowIn hc).sub s3).sub s2,fun k hx hl=> ?_⟩,((((Row.rowIn hi).sub s7).sub s6).sub s4).sub s2⟩
 have hm:=big_rows_in he (t.ys[k],t.g.items[k]) (by
  have hz:k<(t.ys.zip t.g.items).length:=by simp;omega
  have:=List.getElem_mem hz
  rwa [List.getElem_zip] at this)
 exact⟨((hm.1.sub s5).sub s4).sub s2,((hm.2.sub s5).sub s4).sub s2⟩
def zeroT:ToldX:=⟨.slice none 0 0,.slice none 0 0,[],zeroP⟩
theorem pgOwn_zero:PgOwn zeroT=Pr.emp:=by
 unfold PgOwn TRows zeroT ItRow BytesRow
 simp only [List.length_nil,List.zip_nil_left,List.flatMap_nil,List.map_nil,Row.nil,big_nil,Pr.star_emp]
 funext h
 exact propext ⟨fun⟨_,e⟩=>e,fun e=>⟨trivial,e⟩⟩
theorem read_rows(v:Nat)(s:VaultS)(n:Int)(hn:1≤n∧n≤65536)(g:PageV)(hfit:Fit g)(F:Pr)(w:World)(hF:Sat ((VaultA v s).star F) w)(h0:s.pool.count n≠0)(hon:s.on n=some g):
 Calls Tryz.prog 44 #[.pointer (some ⟨v,0,none⟩),.int .i64 n] w fun e w'=>
  Stays w w'∧∃t:ToldX,e= .returned (.tuple #[t.pv,.int .i64 0])∧t.g=g∧Sat ((PgOwn t).star ((VaultA v s).star F)) w':=by
 obtain⟨x,ok,hF⟩:=vaultA_iff.1 hF
 have ho:Only w (w.alloc (pageC 0 0 (.slice none 0 0) (.slice none 0 0) 0)):=(Only.refl w).alloc _
 have h1:Sat ((PoolA x.p s.pool).star ((Pr.pts v (.cells #[.pointer (some ⟨x.p,0,none⟩),.map (some x.mb),x.av,.int .i64 s.floor] 71)).star
  ((((MapA Tryz.prog 3 x.mb x.f).star ((Row 158 2 x.av s.acts.length (actCells x.axs)).star (Pr.own x.h)))).star F))) w:=hF.perm (by unfold VaultAt;ac_rfl)
 have qv:w.cell? ⟨v,0,none⟩=some (.pointer (some ⟨x.p,0,none⟩)):=by rw [cell_of_heap h1.right.pts_heap];rfl
 have qm:w.cell? ⟨v,1,none⟩=some (.map (some x.mb)):=by rw [cell_of_heap h1.right.pts_heap];rfl
 have zv:=h1.right.lt
 have C:=hQ (count_A x.p s.pool n _ _ (h1.only ho))
 have hm:=(h1.only ho).perm (B:=(MapA Tryz.prog 3 x.mb x.f).star ((PoolA x.p s.pool).star ((Pr.pts v (.cells #[.pointer (some ⟨x.p,0,none⟩),.map (some x.mb),x.av,.int .i64 s.floor] 71)).star ((Row 158 2 x.av s.acts.length (actCells x.axs)).star ((Pr.own x.h).star F))))) (by ac_rfl)
 have hO:=ok.on n
 rw [hon] at hO
 obtain⟨pv,hf,hpv⟩:=hO
 have hne:(s.pool.count n == 0)=false:=by rw [beq_eq_false_iff_ne];exact h0
 have h2:=(hF.alloc (pageC 0 0 (.slice none 0 0) (.slice none 0 0) 0)).perm (B:=(Pr.own x.h).star ((Pr.pts w.heap.size (pageC 0 0 (.slice none 0 0) (.slice none 0 0) 0)).star ((Pr.pts v (.cells #[.pointer (some ⟨x.p,0,none⟩),.map (some x.mb),x.av,.int .i64 s.floor] 71)).star ((PoolA x.p s.pool).star ((MapA Tryz.prog 3 x.mb x.f).star ((Row 158 2 x.av s.acts.length (actCells x.axs)).star F)))))) (by unfold VaultAt;ac_rfl)
 have D:=hQ (copied_rows x.h pv g hpv (by have:=hfit.n;omega) (fitK hfit) (by have:=hfit.d;omega) _ _ h2)
 have HM:=hQ hm
 have HO:=hQ ho
 have OK:=hQ ok
 have HFN:=hQ hf
 clear h1 hF ok ho hm hf hpv h2
 go_enter Tryz.func44,Tryz.ntmps44
 go_wp2_with fail
 refine C.out.mono ?_
 rintro e w1 ⟨rfl,rfl⟩
 generalize s.pool.count n=k at*
 go_wp2_with (at_lookup;refine wpList_look rfl _ _ _ false rfl Tryz.underlying3 Tryz.underlying68 zeroPage (zero_page _) n hn rfl rfl HM.out ?_;rw [HFN.out])
 refine D.out.mono ?_
 rintro e w1 ⟨vi,vd,ys,rfl,hyl,h3,hst⟩
 obtain⟨ai,ci,rfl⟩:=Row.shape h3
 obtain⟨ad,cd,rfl⟩:=Row.shape h3.right.right
 have h4:=(pgOwn_iff (t:=⟨.slice ai g.items.length ci,.slice ad g.data.length cd,ys,g⟩)).2 ⟨hyl,h3⟩
 have hs:=OwnL.in7 h4
 have c1:=hs.facts
 simp only [CellsAt,Nat.reduceAdd,and_true] at c1
 have HS:=hQ hs
 have HST:=hQ (HO.out.st.trans hst)
 have HYL:=hQ hyl
 clear h3 h4 hs hst C D HM HFN hyl
 go_wp2
 have h5:=(((((HS.out.set w.heap.size 0 (.int .i64 g.kind)).set w.heap.size 1 (.int .i64 g.level)).set w.heap.size 2 (.slice ai g.items.length ci)).set w.heap.size 3 (.slice ad g.data.length cd)).set w.heap.size 4 (.int .i64 g.next))
 refine bodyPost_ret (results_cell_row_tmp rfl _ _ w.heap.size _ rfl (run_loadVar_row _ w.heap.size _ _ _ _ _ (h5.pts w.heap.size).pts_heap Tryz.underlying31 rfl infoPage)) rfl ?_
 refine⟨((((HST.out.setCell _ _).setCell _ _).setCell _ _).setCell _ _).setCell _ _,⟨.slice ai g.items.length ci,.slice ad g.data.length cd,ys,g⟩,rfl,rfl,?_⟩
 have h6:=h5.pull8 (A1:=PgOwn ⟨.slice ai g.items.length ci,.slice ad g.data.length cd,ys,g⟩) (A2:=Pr.pts v (.cells #[.pointer (some ⟨x.p,0,none⟩),.map (some x.mb),x.av,.int .i64 s.floor] 71)) (A3:=PoolA x.p s.pool) (A4:=MapA Tryz.prog 3 x.mb x.f) (A5:=Row 158 2 x.av s.acts.length (actCells x.axs)) (A6:=Pr.own x.h) (A7:=F) (A8:=Pr.pts w.heap.size (pageC g.kind g.level (.slice ai g.items.length ci) (.slice ad g.data.length cd) g.next))
 refine Sat.perm (A:=(VaultA v s).star ((PgOwn ⟨.slice ai g.items.length ci,.slice ad g.data.length cd,ys,g⟩).star F)) ?_ (Pr.left_comm _ _ _)
 refine vaultA_iff.2 ⟨x,OK.out,?_⟩
 refine Sat.left (B:=(Pr.pts w.heap.size (pageC g.kind g.level (.slice ai g.items.length ci) (.slice ad g.data.length cd) g.next)).star (starL [])) (h6.perm ?_)
 unfold VaultAt
 simp only [starL]
 ac_rfl
end Go.Proofs.YtbobcmimkonnoaaGreat.N9
namespace Go.Proofs.YtbobcmimkonnoaaGreat.P9
open ChangeShapes WideShapes ChangeAt RowKit Sl Cop D2 K3 N3 Q3 G2 M2 U3 Y3 Z3 D4 E4 F4 X3 Y5 E7 F7 J7 J4 M7 P7 V7 N9 X5
theorem take1_any(v:Nat)(s:VaultS)(ab:Nat)(mark:Int)(VB NB:Nat)(n:Int)(h0:s.pool.count n≠0)(hcr:CR s.pool)(hfit:((s.on n).getD ⟨0,0,[],[],0⟩).items.length≤65535)(hm:s.pool.floor+s.pool.acts.length+65540<1099511627776)(F:Pr)(w:World)
 (hF:Sat ((VMA v s ab mark []).star ((Pr.pts VB (.cells #[.pointer (some ⟨v,0,none⟩)] 35)).star ((Pr.pts NB (.cells #[.int .i64 n] 3)).star F))) w):
 Calls Tryz.prog 109 #[.pointer (some ⟨ab,0,none⟩),.pointer (some ⟨VB,0,none⟩),.pointer (some ⟨NB,0,none⟩)] w fun e w'=>
  Stays w w'∧e= .returned (.int .i64 (leaveR s n).1)∧Sat ((VMA v (leaveR s n).2.1 ab mark (leaveR s n).2.2).star F) w':=by
 have hs0:=OwnL.in3 hF
 have c1:=hs0.facts
 simp only [CellsAt,and_true] at c1
 have LV:=hQ (leave_any v s ab mark [] n h0 hcr hfit (by simp) hm _ w hs0.pull1)
 obtain⟨L,hL⟩:∃L,leaveR s n=L:=⟨_,rfl⟩
 rw [hL,List.nil_append] at LV
 rw [hL]
 clear hF hs0 h0 hcr hfit hm hL
 go_enter Tryz.func109,Tryz.ntmps109
 go_wp2_with fail
 refine LV.out.mono ?_
 rintro e w1 ⟨st,rfl,hs1⟩
 have HS1:=hQ (OwnL.of1 hs1)
 have HST:=hQ st
 clear hs1 st LV c1
 go_wp2
 go_ret
 exact⟨HST.out,rfl,HS1.out.end2⟩
def TvPost(v:Nat)(s:VaultS)(n:Int)(F:Pr)(w:World)(e:Ending)(w':World):Prop:=Stays w w'∧
 ((s.pool.count n=0∧e= .returned (.tuple #[zeroPage,.int .i64 15])∧Sat ((VaultA v s).star F) w')∨
  (s.pool.count n≠0∧(leaveR s n).1≠0∧e= .returned (.tuple #[zeroPage,.int .i64 (leaveR s n).1])∧Sat ((VaultA v s).star F) w')∨
  (s.pool.count n≠0∧(leaveR s n).1=0∧Mid s (leaveR s n).2.1 (leaveR s n).2.2∧∃t:ToldX,e= .returned (.tuple #[t.pv,.int .i64 0])∧s.on n=some t.g∧Sat ((PgOwn t).star ((VaultA v ((leaveR s n).2.1.acted ⟨s.pool.mark,(leaveR s n).2.2⟩)).star F)) w'))
theorem vtake_any(v:Nat)(s:VaultS)(n:Int)(hfit:∀n g,s.on n=some g→Fit g)(hon:s.pool.count n≠0→∃g,s.on n=some g)(hcr:CR s.pool)(hm:s.pool.floor+s.pool.acts.length+65545<1099511627776)(hvm:s.floor+s.acts.length<1099511627776)(F:Pr)(w:World)
 (hF:Sat ((VaultA v s).star F) w):
 Calls Tryz.prog 37 #[.pointer (some ⟨v,0,none⟩),.int .i64 n] w fun e w'=>TvPost v s n F w e w':=by
 have hs0:=OwnL.in1 hF
 have okp:=(vault_ok hF).1
 have hs1:=((hs0.alloc (.cells #[.pointer (some ⟨v,0,none⟩)] 35)).alloc (.cells #[.int .i64 n] 3)).alloc (pageC 0 0 (.slice none 0 0) (.slice none 0 0) 0)
 have es:(w.alloc (.cells #[.pointer (some ⟨v,0,none⟩)] 35)).heap.size=w.heap.size+1:=by simp
 have es2:((w.alloc (.cells #[.pointer (some ⟨v,0,none⟩)] 35)).alloc (.cells #[.int .i64 n] 3)).heap.size=w.heap.size+1+1:=by simp
 rw [es,es2] at hs1
 have HST:=hQ ((((Stays.refl w).alloc (.cells #[.pointer (some ⟨v,0,none⟩)] 35)).alloc (.cells #[.int .i64 n] 3)).alloc (pageC 0 0 (.slice none 0 0) (.slice none 0 0) 0))
 have c1:=hs1.facts
 simp only [CellsAt,Nat.reduceAdd,and_true] at c1
 by_cases h0:s.pool.count n=0
 · have RD:=hQ (read_none v s n _ _ (hs1.pull1 (A1:=VaultA v s)) h0)
   have HS1:=hQ hs1
   have H0:=hQ h0
   clear hF hs0 hs1 es es2 okp hfit hon hcr hm hvm h0
   go_enter Tryz.func37,Tryz.ntmps37
   go_wp2_with fail
   refine RD.out.mono ?_
   rintro e w1 ⟨rfl,ho⟩
   have hs2:=(⟨HS1.out.sat.only ho⟩:OwnL _ w1).alloc (pageC 0 0 (.slice none 0 0) (.slice none 0 0) 0)
   have HS2:=hQ hs2
   have HST2:=hQ ((HST.out.trans ho.st).alloc (pageC 0 0 (.slice none 0 0) (.slice none 0 0) 0))
   clear c1
   have c1:=hs2.facts
   simp only [CellsAt,Nat.reduceAdd,and_true] at c1
   clear hs2 ho RD
   go_wp2
   have h5:=((((HS2.out.set (w.heap.size+1+1) 0 (.int .i64 0)).set (w.heap.size+1+1) 1 (.int .i64 0)).set (w.heap.size+1+1) 2 (.slice none 0 0)).set (w.heap.size+1+1) 3 (.slice none 0 0)).set (w.heap.size+1+1) 4 (.int .i64 0)
   refine bodyPost_ret (results_cell_row_tmp rfl _ _ (w.heap.size+1+1) _ rfl (run_loadVar_row _ (w.heap.size+1+1) _ _ _ _ _ (h5.pts (w.heap.size+1+1)).pts_heap Tryz.underlying31 rfl infoPage)) rfl ?_
   exact⟨((((HST2.out.setCell _ _).setCell _ _).setCell _ _).setCell _ _).setCell _ _,.inl ⟨H0.out,rfl,h5.end2⟩⟩
 · obtain⟨g,hg⟩:=hon h0
   have fit:=hfit n g hg
   have hth:=there_of_count h0
   have hnb:1≤n∧n≤65536:=⟨hth.1,by have:=hth.2;have:=okp.n2;omega⟩
   have RD:=hQ (read_rows v s n hnb g fit _ _ (hs1.pull1 (A1:=VaultA v s)) h0 hg)
   have hmid:Mid s (leaveR s n).2.1 (leaveR s n).2.2:=by
    have:=leave_mid (Mid.refl s) okp hcr h0 (by rw [hg];have:=fit.n;show g.items.length≤ _;omega) (by simp) (by omega)
    simpa using this
   have T1:=hQ (fun ab F wx hwx=>take1_any v s ab s.pool.mark w.heap.size (w.heap.size+1) n h0 hcr (by rw [hg];have:=fit.n;show g.items.length≤ _;omega) (by omega) F wx hwx)
   have H0:=hQ (And.intro h0 hg)
   have HM:=hQ hmid
   obtain⟨P,hP⟩:∃P,P=TvPost v s n F w:=⟨_,rfl⟩
   rw [← hP]
   have HP:=hQ hP
   obtain⟨L,hL⟩:∃L,leaveR s n=L:=⟨_,rfl⟩
   rw [hL] at T1 HM
   have HL:=hQ hL
   clear hF hs0 hs1 es es2 okp hfit hon hcr hm h0 hg fit hth hmid hP hL
   go_enter Tryz.func37,Tryz.ntmps37
   go_wp2_with fail
   refine RD.out.mono ?_
   rintro e w1 ⟨st1,t,rfl,htg,hs2⟩
   obtain⟨hyl,h3⟩:=pgOwn_iff.1 hs2
   obtain⟨ai,ci,e1⟩:=Row.shape h3
   obtain⟨ad,cd,e2⟩:=Row.shape h3.right.right
   obtain⟨vi,vd,ys,gg⟩:=t
   dsimp only at htg e1 e2 hyl h3
   subst htg e1 e2
   have hs3:=(OwnL.of2 hs2).alloc (pageC gg.kind gg.level (.slice ai gg.items.length ci) (.slice ad gg.data.length cd) gg.next)
   have HST3:=hQ ((HST.out.trans st1).alloc (pageC gg.kind gg.level (.slice ai gg.items.length ci) (.slice ad gg.data.length cd) gg.next))
   clear c1
   have c1:=hs3.facts
   simp only [CellsAt,Nat.reduceAdd,and_true] at c1
   have D:=hQ (do_any v s 109 #[.pointer (some ⟨w.heap.size,0,none⟩),.pointer (some ⟨w.heap.size+1,0,none⟩)] (fun _:Unit=>L.1) (fun _=>True) (fun _=>L.2.1) (fun _=>L.2.2)
    (fun _=>starL [Pr.pts w1.heap.size (pageC gg.kind gg.level (.slice ai gg.items.length ci) (.slice ad gg.data.length cd) gg.next),PgOwn ⟨.slice ai gg.items.length ci,.slice ad gg.data.length cd,ys,gg⟩,Pr.pts (w.heap.size+1+1) (pageC 0 0 (.slice none 0 0) (.slice none 0 0) 0),F]) _ _ (hs3.pull3 (A1:=VaultA v s) (A2:=Pr.pts w.heap.size (.cells #[.pointer (some ⟨v,0,none⟩)] 35)) (A3:=Pr.pts (w.heap.size+1) (.cells #[.int .i64 n] 3))) hvm (fun _ _=>rfl)
    (fun _ _=>HM.out) (fun ab wx hwx=>(T1.out ab _ wx hwx).mono (fun e w' ⟨a,b,c⟩=>⟨a,(),trivial,b,c⟩)))
   clear hs2 hs3 h3 st1 RD T1 hyl
   rw [show ToldX.pv ⟨.slice ai gg.items.length ci,.slice ad gg.data.length cd,ys,gg⟩=pageV gg.kind gg.level (.slice ai gg.items.length ci) (.slice ad gg.data.length cd) gg.next from rfl]
   go_wp2_with fail
   refine D.out.mono ?_
   rintro e w2 ⟨st2,_,_,rfl,hs4⟩
   have HST4:=hQ (HST3.out.trans st2)
   obtain⟨er,her⟩:∃er,L.1=er:=⟨_,rfl⟩
   rw [her] at hs4
   rw [her]
   by_cases he:er=0
   · rw [if_pos he] at hs4
     subst he
     have hs5:=OwnL.of1 hs4
     have HS5:=hQ hs5
     clear c1
     have c1:=hs5.facts
     simp only [CellsAt,Nat.reduceAdd,and_true] at c1
     have HER:=hQ her
     clear hs4 hs5 D her
     go_wp2
     have h5:=((((HS5.out.set (w.heap.size+1+1) 0 (.int .i64 gg.kind)).set (w.heap.size+1+1) 1 (.int .i64 gg.level)).set (w.heap.size+1+1) 2 (.slice ai gg.items.length ci)).set (w.heap.size+1+1) 3 (.slice ad gg.data.length cd)).set (w.heap.size+1+1) 4 (.int .i64 gg.next)
     refine bodyPost_ret (results_cell_row_tmp rfl _ _ (w.heap.size+1+1) _ rfl (run_loadVar_row _ (w.heap.size+1+1) _ _ _ _ _ (h5.pts (w.heap.size+1+1)).pts_heap Tryz.underlying31 rfl infoPage)) rfl ?_
     rw [HP.out]
     refine⟨((((HST4.out.setCell _ _).setCell _ _).setCell _ _).setCell _ _).setCell _ _,.inr (.inr ⟨H0.out.1,by rw [HL.out];exact HER.out,by rw [HL.out];exact HM.out,⟨.slice ai gg.items.length ci,.slice ad gg.data.length cd,ys,gg⟩,rfl,H0.out.2,?_⟩)⟩
     rw [HL.out]
     exact h5.end3
   · rw [if_neg he] at hs4
     have hb:(er != 0)=true:=by rw [bne_iff_ne];exact he
     have hs5:=OwnL.of1 hs4
     have HS5:=hQ hs5
     clear c1
     have c1:=hs5.facts
     simp only [CellsAt,Nat.reduceAdd,and_true] at c1
     have HER:=hQ her
     have HEN:=hQ he
     clear hs4 hs5 D her he
     go_wp2
     have h5:=((((HS5.out.set (w.heap.size+1+1) 0 (.int .i64 0)).set (w.heap.size+1+1) 1 (.int .i64 0)).set (w.heap.size+1+1) 2 (.slice none 0 0)).set (w.heap.size+1+1) 3 (.slice none 0 0)).set (w.heap.size+1+1) 4 (.int .i64 0)
     refine bodyPost_ret (results_cell_row_tmp rfl _ _ (w.heap.size+1+1) _ rfl (run_loadVar_row _ (w.heap.size+1+1) _ _ _ _ _ (h5.pts (w.heap.size+1+1)).pts_heap Tryz.underlying31 rfl infoPage)) rfl ?_
     rw [HP.out]
     exact⟨((((HST4.out.setCell _ _).setCell _ _).setCell _ _).setCell _ _).setCell _ _,.inr (.inl ⟨H0.out.1,by rw [HL.out,HER.out];exact HEN.out,by rw [HL.out,HER.out];rfl,h5.end2⟩)⟩
end Go.Proofs.YtbobcmimkonnoaaGreat.P9
