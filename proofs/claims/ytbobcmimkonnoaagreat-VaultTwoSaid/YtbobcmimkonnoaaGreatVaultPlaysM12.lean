/- The pool's Counts; the document's EqInts at two lists that are the same; the conditions stand as hypotheses. -/
import Derived.Test.YtbobcmimkonnoaaGreatVaultPlaysM11
import Derived.Test.YtbobcmimkonnoaaGreatVaultPlaysM09
import Derived.Test.YtbobcmimkonnoaaGreatVaultPlaysM01
set_option maxRecDepth 100000
set_option maxHeartbeats 16000000
namespace Go.Proofs.YtbobcmimkonnoaaGreat.L5
open ChangeShapes WideShapes ChangeAt RowKit Sl Cop D2 K3 N3 Q3 G2 M2 U3 Y3
abbrev Ints(h:Hp)(v:Value)(l:List Int):Prop:=RowIn h 1 v l.length (l.map (Value.int .i64))
theorem clone_ints(h:Hp)(v:Value)(l:List Int)(F:Pr)(w:World)(hF:Sat F w)(hh:h.le w)(hx:Ints h v l)(hn:l.length≤65536):
 Calls Tryz.prog 79 #[v] w fun e w'=> ∃v',e= .returned v'∧Sat ((IntsRow v' l).star F) w'∧Stays w w':=by
 obtain⟨_,ad,c,rfl,hnc,hcm,hcell⟩:=id hx
 have he:∀wx:World,(binOp .eql 40 (.slice ad l.length c) (.slice none 0 0)).run Tryz.prog wx= .ok (.bool ad.isNone) wx:=fun wx=>Lib.run_eql_slice_nil wx _ _ ad _ c 0 0 Tryz.underlying40
 cases ad with
 | none=>
   have hl:l.length=0:=by
    rcases Nat.eq_zero_or_pos l.length with h0 | h0
    · exact h0
    · obtain⟨b,off,e1,_⟩:=hcell (by omega);cases e1
   have hl2:l= []:=List.eq_nil_of_length_eq_zero hl
   have HF:=hQ hF
   have HL:=hQ hl2
   clear hF hx hcell hh hl2 hl
   go_enter Tryz.func79,Tryz.ntmps79
   go_wp2
   go_ret
   refine⟨_,rfl,?_,Stays.refl w⟩
   have h1:=HF.out
   have h2:=HL.out
   subst h2
   rw [← Sat.emp, ← Row.nil 3 1] at h1
   exact h1
 | some ad=>
   have hnew:Sat ((Row 3 1 (.slice (some ⟨w.heap.size,0,none⟩) 0 0) 0 []).star F) (w.alloc (.cells #[] 3)):=
    Row.mk' (xs:= []) (sp:= []) (by simp) (by simp) (Nat.le_refl _) (by simp) (by simpa using hF.alloc (.cells #[] 3))
   have hle:h.le (w.alloc (.cells #[] 3)):=fun k o e=>(Below.heap_alloc w _ k (Array.getElem?_eq_some_iff.1 (hh k o e)).1).trans (hh k o e)
   have HF:=hQ hnew
   have HX:=hQ hx
   have HH:=hQ hle
   clear hF hx hcell hh hnew hle
   go_enter Tryz.func79,Tryz.ntmps79
   obtain⟨i0,hi,hz0,hz1,hz2⟩:=info_parts infoInt
   go_wp2_with (at_builtin;refine wpList_append_row rfl _ _ _ rfl 3 i0 (.int .i64 0) 1 8 Tryz.underlying40 hi hz0 hz1 hz2 rfl _ _ _ rfl HF.out h HH.out _ _ _ rfl HX.out (by simp [Value.oneCell']) (by simp only [maxLen];omega) (by omega) ?_;intro v' w1 hsat hgr _;have HSAT:=hQ hsat;clear hsat)
   go_ret
   refine⟨_,rfl,?_,((Stays.refl w).alloc _).of_grown hgr⟩
   have h1:=HSAT.out
   rw [Nat.zero_add,List.nil_append] at h1
   exact h1
theorem counts_A(p:Nat)(s:PoolS)(F:Pr)(w:World)(hF:Sat ((PoolA p s).star F) w):
 Calls Tryz.prog 19 #[.pointer (some ⟨p,0,none⟩)] w fun e w'=> ∃v',e= .returned v'∧Sat ((IntsRow v' s.counts).star ((PoolA p s).star F)) w'∧Stays w w':=by
 obtain⟨ok,cv,lv,fb,av,hA⟩:=poolA_iff.1 hF
 have hA1:Sat ((Pr.pts p (.cells (poolCells s cv lv fb av) 124)).star ((IntsRow cv s.counts).star ((BoolsRow lv s.last).star ((SetOf fb fun m=>s.state m=1).star ((ActsA p av s.acts).star F))))) w:=hA.perm (by unfold PoolAt;ac_rfl)
 have q1:w.cell? ⟨p,1,none⟩=some cv:=by rw [cell_of_heap hA1.pts_heap];rfl
 obtain⟨x,⟨a,f,ha,hf,hd,rfl⟩,hl⟩:=hA1.right
 have C:=hQ (clone_ints a cv s.counts _ w hF ((Hp.le_un hd).1 hl).1 (Row.rowIn ha) ok.n2)
 clear hA hA1 hF ha hf hd hl
 go_enter Tryz.func19,Tryz.ntmps19
 go_wp2_with fail
 refine C.out.mono ?_
 rintro e w1 ⟨v',rfl,h1,hst⟩
 have H1:=hQ h1
 clear h1
 go_wp2
 go_ret
 exact⟨_,rfl,H1.out,hst⟩
theorem ints_rd {h:Hp}{v:Value}{V:List Int}(hb:Ints h v V):∃a c,v= .slice a V.length c∧∀i,i<V.length→∃b off,a=some ⟨b,off,none⟩∧∀w,h.le w→w.cell? ⟨b,off+i,none⟩=some (.int .i64 (V.getD i 0)):=by
 obtain⟨hl,a,c,e,_,_,hc⟩:=hb
 refine⟨a,c,e,fun i hi=> ?_⟩
 obtain⟨b,off,e1,e2⟩:=hc (by omega)
 refine⟨b,off,e1,fun w hw=> ?_⟩
 refine Hp.cell_le hw ((e2 i (by omega)).trans ?_)
 simp [hi]
theorem eqints_same(ha hb:Hp)(va vb:Value)(V:List Int)(h1:Ints ha va V)(h2:Ints hb vb V)(hn:V.length≤65536)(w:World)(l1:ha.le w)(l2:hb.le w):
 Calls Tryz.prog 18 #[va,vb] w fun e w'=>e= .returned (.bool true)∧Only w w':=by
 obtain⟨a,c,rfl,r1⟩:=ints_rd h1
 obtain⟨a',c',rfl,r2⟩:=ints_rd h2
 have R1:=hQ r1
 have R2:=hQ r2
 have L1:=hQ l1
 have L2:=hQ l2
 clear r1 r2 h1 h2 l1 l2
 go_enter Tryz.func18,Tryz.ntmps18
 go_wp2
 go_loopw [5] (fun i wr=> ∃k:Nat,k≤V.length∧i= .int .i64 k∧Only w wr) (fun i _=>V.length-(intOf i).toNat)
 case atStart=>exact⟨0,Nat.zero_le _,rfl,Only.refl w⟩
 case round=>
  obtain⟨k,hk,rfl,ho⟩:=hrel
  rcases Nat.lt_or_ge k V.length with hlt | hge
  · obtain⟨b,off,rfl,c1⟩:=R1.out k hlt
    obtain⟨b',off',rfl,c2⟩:=R2.out k hlt
    have q1:=c1 wr (fun k o e=>(ho.heap k (Array.getElem?_eq_some_iff.1 (L1.out k o e)).1).trans (L1.out k o e))
    have q2:=c2 wr (fun k o e=>(ho.heap k (Array.getElem?_eq_some_iff.1 (L2.out k o e)).1).trans (L2.out k o e))
    have HO:=hQ ho
    clear c1 c2 ho
    generalize V.getD k 0=x at*
    go_wp2
    go_region
    go_wp2
    go_roundw
    case rel=>exact⟨k+1,by omega,by go_num,HO.out.drew⟩
    case measure=>simp [intOf];omega
  · have hkl:k=V.length:=by omega
    subst hkl
    go_wp2
    go_ret
    exact⟨rfl,ho⟩
end Go.Proofs.YtbobcmimkonnoaaGreat.L5
namespace Go.Proofs.YtbobcmimkonnoaaGreat.M5
open ChangeShapes WideShapes ChangeAt RowKit Sl Cop D2 K3 N3 P3 Q3 G2 M2 L5
theorem right_any(n r:Int)(w:World):Calls Tryz.prog 122 #[.int .i64 n,.int .i64 r] w fun e w'=>e= .returned (.bool (rangeOk n r))∧w=w':=by
 have fin:∀(b:Bool),b=rangeOk n r→Ending.returned (Value.bool b)=Ending.returned (Value.bool (rangeOk n r)):=fun b e=>by rw [e]
 by_cases h1:1≤n
 · by_cases h2:n≤65536
   · by_cases h3:2≤r
     · go_enter Tryz.func122,Tryz.ntmps122
       go_wp2
       go_ret
       refine⟨fin _ ?_,rfl⟩
       rw [Bool.eq_iff_iff];simp [rangeOk,h1,h2,h3]
     · go_enter Tryz.func122,Tryz.ntmps122
       go_wp2
       go_ret
       refine⟨fin _ ?_,rfl⟩
       rw [Bool.eq_iff_iff];simp [rangeOk];omega
   · go_enter Tryz.func122,Tryz.ntmps122
     go_wp2
     go_ret
     refine⟨fin _ ?_,rfl⟩
     rw [Bool.eq_iff_iff];simp [rangeOk];omega
 · go_enter Tryz.func122,Tryz.ntmps122
   go_wp2
   go_ret
   refine⟨fin _ ?_,rfl⟩
   rw [Bool.eq_iff_iff];simp [rangeOk];omega
theorem rangeOk_iff {n r:Int}:rangeOk n r=true↔(1≤n∧n≤65536∧2≤r∧r<65536):=by unfold rangeOk;exact decide_eq_true_iff
end Go.Proofs.YtbobcmimkonnoaaGreat.M5
