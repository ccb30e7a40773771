/- What the law's right and stands count: plain lemmas. -/
import Derived.Test.YtpfafhklppondaaGreatVaultCountsM41
import Derived.Test.YtpfafhklppondaaGreatVaultCountsM24
import Derived.Lib.SmallJoins
import Derived.Test.YtpfafhklppondaaGreatVaultCountsM38
import Derived.Test.YtpfafhklppondaaGreatVaultCountsM01
set_option maxRecDepth 100000
set_option maxHeartbeats 16000000
namespace Go.Cop
open Go.Sl Go.RowKit Go.Proofs.YtpfafhklppondaaGreat.M2 Go.Proofs.YtpfafhklppondaaGreat.P3 Go.Proofs.YtpfafhklppondaaGreat.X3 Go.Proofs.YtpfafhklppondaaGreat.X6 Go.Proofs.YtpfafhklppondaaGreat.F7 Go.Proofs.YtpfafhklppondaaGreat.Z7 Go.Proofs.YtpfafhklppondaaGreat.Sz Go.Proofs.YtpfafhklppondaaGreat.Yy
def inL(N:Nat)(f:Int→Int):List Int:=(List.range (N+1)).map fun i:Nat=>f i
theorem inL_len(N:Nat)(f:Int→Int):(inL N f).length=N+1:=by simp [inL]
theorem inL_get {N:Nat}(f:Int→Int){j:Nat}(h:j<(inL N f).length):(inL N f)[j]=f j:=by simp [inL]
theorem inL_zero(N:Nat):List.replicate (N+1) (0:Int)=inL N fun _=>0:=by
 unfold inL;rw [List.map_const',List.length_range]
theorem inL_ext {N:Nat}{f g:Int→Int}(h:∀n:Int,0≤n→n≤N→f n=g n):inL N f=inL N g:=by
 unfold inL;refine List.map_congr_left fun i hi=> ?_
 have:=List.mem_range.1 hi
 exact h i (by omega) (by omega)
theorem inL_set(N:Nat)(f:Int→Int)(j:Nat):(inL N f).set j (f j+1)=inL N fun i=>f i+if i=j then 1 else 0:=by
 refine List.ext_getElem (by simp [inL]) fun i h1 h2=> ?_
 rw [List.getElem_set,inL_get];split
 · rename_i h
   subst h;rw [inL_get,if_pos rfl]
 · rename_i h
   rw [inL_get,if_neg (by omega),Int.add_zero]
def tallySum(p:PoolS):Nat→Int
 | 0=>0
 | q+1=>tallySum p q+p.tally ((q:Int)+1)
theorem tally_bd {p:PoolS}(ok:PoolOk p)(k:Int):0≤p.tally k∧p.tally k≤p.counts.length:=by
 unfold PoolS.tally;split
 · exact⟨Int.le_refl _,by omega⟩
 · refine⟨by omega,?_⟩
   unfold PoolS.many;have:=List.length_filter_le (fun x=>stateOf x.1 x.2 == k) (p.counts.zip p.last)
   rw [List.length_zip,ok.len,Nat.min_self] at this;omega
theorem tallySum_bd {p:PoolS}(ok:PoolOk p):∀q:Nat,0≤tallySum p q∧tallySum p q≤q*p.counts.length
 | 0=>⟨Int.le_refl _,by simp [tallySum]⟩
 | q+1=>by
   have h1:=tallySum_bd ok q;have h2:=tally_bd ok ((q:Int)+1);unfold tallySum;refine⟨by omega,?_⟩;rw [Int.natCast_add,Int.add_mul];simp only [Int.natCast_one,Int.one_mul];omega
theorem tallySum_four {p:PoolS}(ok:PoolOk p):tallySum p 4=p.counts.length:=by
 have:=many_sum ok
 unfold tallySum tallySum tallySum tallySum tallySum;simp only [Int.zero_add,Int.reduceAdd,Int.cast_ofNat_Int];omega
theorem kids_zero:kidsOf zeroP= []:=by rfl
theorem kids_part {s:VaultS}(n m:Int):((kidsOf (if s.pool.count n=0 then zeroP else s.get n)).count m)=partD s.get s.pool.counts m n:=by
 by_cases h:s.pool.count n=0
 · rw [if_pos h,partD_zero (by rw [← count_cnt];exact h),kids_zero]
   rfl
 · rw [if_neg h,partD_some (by rw [← count_cnt];exact h)]
theorem pagesTo_cnt(p:PoolS)(k:Int)(m:Nat):(pagesTo p k m).length=((List.range m).filter fun i:Nat=>p.state ((i:Int)+1) == k).length:=by simp [pagesTo]
theorem lasts_state {p:PoolS}{n:Int}(ht:p.there n):p.lasts n=(p.state n == 4 || p.state n == 2):=by
 rw [state_there ht];unfold stateOf;by_cases hc:0<p.count n
 · rw [if_pos hc];cases p.lasts n<;>simp
 · rw [if_neg hc];cases p.lasts n<;>simp
theorem lasts_two(p:PoolS):∀m:Nat,m≤p.counts.length→(lastsTo p m).length=(pagesTo p 2 m).length+(pagesTo p 4 m).length
 | 0,_=>by simp [lastsTo,pagesTo]
 | m+1,h=>by
   have ih:=lasts_two p m (by omega);rw [pagesTo_cnt,pagesTo_cnt] at ih ⊢;unfold lastsTo at ih ⊢;rw [List.length_map] at ih ⊢;rw [List.range_succ,List.filter_append,List.filter_append,List.filter_append,List.length_append,List.length_append,List.length_append,ih];have e:=lasts_state (p:=p) (n:=(m:Int)+1) ⟨by omega,by omega⟩;simp only [List.filter_cons,List.filter_nil,e]
   by_cases h4:p.state ((m:Int)+1)=4
   · rw [h4];simp;omega
   · by_cases h2:p.state ((m:Int)+1)=2
     · rw [h2];simp;omega
     · simp [h4,h2]
theorem lastsTo_yes {p:PoolS}{m:Nat}(h:p.lasts ((m:Int)+1)=true):lastsTo p (m+1)=lastsTo p m++ [(m:Int)+1]:=by
 unfold lastsTo;rw [List.range_succ,List.filter_append,List.map_append];simp [h]
theorem lastsTo_no {p:PoolS}{m:Nat}(h:p.lasts ((m:Int)+1)=false):lastsTo p (m+1)=lastsTo p m:=by
 unfold lastsTo;rw [List.range_succ,List.filter_append,List.map_append];simp [h]
theorem lastsTo_add(p:PoolS)(m:Nat):∀d:Nat,∃R,lastsTo p (m+d)=lastsTo p m++R∧∀r∈R,(m:Int)<r
 | 0=>⟨[],by simp,by simp⟩
 | d+1=>by
   obtain⟨R,h1,h2⟩:=lastsTo_add p m d;cases h:p.lasts (((m+d:Nat):Int)+1) with
   | true=>
     refine⟨R++ [((m+d:Nat):Int)+1],?_,fun r hr=> ?_⟩
     · rw [← Nat.add_assoc,lastsTo_yes h,h1,List.append_assoc]
     · rcases List.mem_append.1 hr with hr | hr
       · exact h2 r hr
       · rw [List.mem_singleton.1 hr];omega
   | false=>
     refine⟨R,?_,h2⟩;rw [← Nat.add_assoc,lastsTo_no h,h1]
theorem lasts_get {p:PoolS}{m:Nat}(hm:m<p.counts.length):if p.lasts ((m:Int)+1)=true then(lastsIn p)[(lastsTo p m).length]? =some ((m:Int)+1) else ∀z,(lastsIn p)[(lastsTo p m).length]? =some z→z≠(m:Int)+1:=by
 obtain⟨d,hd⟩:∃d,p.counts.length=m+1+d:=⟨p.counts.length-(m+1),by omega⟩;obtain⟨R,h1,h2⟩:=lastsTo_add p (m+1) d;unfold lastsIn;rw [hd,h1];split
 · rename_i h
   rw [lastsTo_yes h,List.append_assoc,List.getElem?_append_right (Nat.le_refl _)];simp
 · rename_i h
   have h':p.lasts ((m:Int)+1)=false:=by simpa using h
   rw [lastsTo_no h',List.getElem?_append_right (Nat.le_refl _),Nat.sub_self];intro z hz;have hz2:=h2 z (List.mem_of_getElem? hz);omega
theorem lasts_nodup(p:PoolS):∀m:Nat,(lastsTo p m).Nodup∧∀r∈lastsTo p m,r≤(m:Int)
 | 0=>⟨by simp [lastsTo],by simp [lastsTo]⟩
 | m+1=>by
   obtain⟨h1,h2⟩:=lasts_nodup p m;cases h:p.lasts ((m:Int)+1) with
   | true=>
     rw [lastsTo_yes h];refine⟨List.nodup_append.2 ⟨h1,by simp,fun a ha b hb=> ?_⟩,fun r hr=> ?_⟩
     · rw [List.mem_singleton.1 hb]
       have:=h2 a ha
       omega
     · rcases List.mem_append.1 hr with hr | hr
       · have:=h2 r hr;omega
       · rw [List.mem_singleton.1 hr];omega
   | false=>
     rw [lastsTo_no h];exact⟨h1,fun r hr=>by have:=h2 r hr;omega⟩
theorem lasts_once {p:PoolS}{n k:Int}(hk:k=2∨k=4)(hn:n∈pagesIn p k):(lastsIn p).count n=1:=by
 obtain⟨i,hi,rfl⟩:=List.mem_map.1 hn;obtain⟨h1,h2⟩:=List.mem_filter.1 hi;have hr:=List.mem_range.1 h1
 have hl:p.lasts ((i:Int)+1)=true:=by
  rw [lasts_state ⟨by omega,by omega⟩,eq_of_beq h2];rcases hk with rfl | rfl<;>rfl
 have hm:((i:Int)+1)∈lastsIn p:=List.mem_map.2 ⟨i,List.mem_filter.2 ⟨h1,hl⟩,rfl⟩;exact Nat.le_antisymm (List.nodup_iff_count.1 (lasts_nodup p _).1 _) (List.count_pos_iff.2 hm)
end Go.Cop
namespace Go.Proofs.YtpfafhklppondaaGreat.Yz
open ChangeShapes WideShapes ChangeAt RowKit Sl Cop M2 P3 X3 G4 Q2 X2 J4 L4 P4 Q6 X6 G5 F7 Sy K4 E5 Bz Vy Wy Zy Yy F6 Z6 Go.Shelf Sz E7 G7 K7
attribute [local go_sem] Oper.semAt_some
theorem marks_ret2 {F:Fence}{n:Nat}{P:Program}{fn:Func}{R:Ending→World→Prop}{a:Act}{w:World}{D E:Nat}(hd:a.defers= [{ target:= .collected D,args:= #[] },{ target:= .collected E,args:= #[] }])
 (hD:w.heap[D]? =some (.deferred (some []))) (hE:(w.putObj D (.deferred none)).heap[E]? =some (.deferred (some []))) (h:∃v,(results fn a.tmps).run P ((w.putObj D (.deferred none)).putObj E (.deferred none))= .ok v ((w.putObj D (.deferred none)).putObj E (.deferred none))∧R (.returned v) ((w.putObj D (.deferred none)).putObj E (.deferred none))):
 bodyPostM F n P fn R .ret a w:=by
 show LeavesInM F n P fn a.tmps R a.defers .returning w
 rw [hd];exact⟨by simp,.inl ⟨_,_,rfl,run_takeDeferred hD,by simp,.inl ⟨_,_,rfl,run_takeDeferred hE,h⟩⟩⟩
theorem nums_get {s:VaultS}{l:List Int}{i:Nat}(h:i<(numsOf s l).length)(h2:i<l.length):(numsOf s l)[i]=⟨l[i],(s.on l[i]).getD zeroP⟩:=by
 simp only [numsOf,List.getElem_map]
theorem stands_any(x v k:Nat)(rv lv:Value)(s:VaultS)(roots:List Int)(ls:List NumV)(ok:PlOK s roots ls k)(F:Pr)(w:World)(hF:OwnL (plL x v rv lv s roots ls [F]) w):
 Calls Tryz.prog 47 #[.pointer (some ⟨x,0,none⟩)] w fun e w'=>e= .returned (.bool true)∧Stays w w'∧OwnL (plL x v rv lv s roots ls [F]) w':=by
 have okp:=(vault_ok (hF.pull1 (A1:=VaultA v s))).1;obtain⟨N,hN⟩:∃N:Nat,s.pool.counts.length=N:=⟨_,rfl⟩;have hN2:N≤200:=by rw [← hN];exact ok.inv.n2
 have hls:=ok.inv.ls;obtain⟨hn,hna,hs1⟩:=hF.arena (NumsRow lv ls);have hni:=numsRow_in hna;obtain⟨wa,wc,rfl,rd⟩:=nums_rd hni;obtain⟨hs2,_⟩:=hs1.fresh [.pointer (some ⟨x,0,none⟩)] 28 w.heap.size rfl;obtain⟨hs3,_⟩:=hs2.fresh [.bool false] 4 (w.heap.size+1) (by simp)
 have hs4:=hs3.to (M:= [Pr.pts w.heap.size (.cells #[.pointer (some ⟨x,0,none⟩)] 28),Pr.pts (w.heap.size+1) (.cells #[.bool false] 4),Pr.pts x (placesC v rv (.slice wa ls.length wc)),VaultA v s,IntsRow rv roots,Pr.own hn,F]);have HS4:=hQ hs4;have HST:=hQ (((Stays.refl w).alloc (.cells [Value.pointer (some ⟨x,0,none⟩)].toArray 28)).alloc (.cells [Value.bool false].toArray 4))
 have HOK:=hQ (And.intro ok (And.intro okp (And.intro hN hls)));have RD:=hQ rd;have HNA:=hQ hna
 have hll:ls.length≤200:=by
  rw [hls];unfold numsOf lastsIn lastsTo;have:=List.length_filter_le (fun i:Nat=>s.pool.lasts ((i:Int)+1)) (List.range s.pool.counts.length)
  rw [List.length_map,List.length_map];rw [List.length_range] at this;omega
 have hll3:(ls.length:Int)≤200:=by omega
 clear hF ok okp hs1 hs2 hs3 hs4 hN rd hni hna hls;refine calls_of_wp_marks (n:=9) Tryz.func47 rfl ?_;simp only [Tryz.ntmps47,List.size_toArray,List.length_cons,List.length_nil,Nat.reduceAdd,Nat.reduceSub,Array.replicate_succ,Array.replicate_zero,List.push_toArray,List.append_toArray,List.nil_append,List.cons_append];go_wp2
 generalize (w.alloc (.cells #[.pointer (some ⟨x,0,none⟩)] 28)).alloc (.cells #[.bool false] 4)=w0 at*;generalize w.heap.size+1=BB at*;generalize w.heap.size=BP at*;obtain⟨xx,okx,hs5⟩:=vault_open (v:=v) (s:=s) HS4.out;have SA:=fun q:Nat=>hQ (pool_state xx.p s.pool ((q:Int)+1) _ _ (hs5.pull1 (A1:=PoolA xx.p s.pool)))
 have LN:=hQ (len_A xx.p s.pool _ _ (hs5.pull1 (A1:=PoolA xx.p s.pool)));rw [HOK.out.2.2.1] at LN;have hle:=hs5.le (a:=hn);have c1:=hs5.facts;simp only [CellsAt,Nat.reduceAdd,and_true] at c1;clear hs5 okx;go_loopw [3,4] (fun t i wr=> ∃q:Nat,q≤N∧t= .int .i64 ((lastsTo s.pool q).length:Nat)∧i= .int .i64 ((q:Int)+1)∧wr=w0) (fun _ i _=>N+1-(intOf i).toNat)
 case atStart=>exact⟨0,Nat.zero_le _,rfl,rfl,rfl⟩
 case round=>
  obtain⟨q,hq,rfl,rfl,hwr⟩:=hrel;have hwr2:=hwr.symm;clear hwr;subst hwr2;rcases Nat.lt_or_ge q N with hlt | hge
  · have S1:=SA q
    have HG:=hQ (lasts_get (p:=s.pool) (m:=q) (by rw [HOK.out.2.2.1];exact hlt));have HT:=hQ (lasts_state (p:=s.pool) (n:=(q:Int)+1) ⟨by omega,by rw [HOK.out.2.2.1];omega⟩);have HY:=hQ (fun h=>lastsTo_yes (p:=s.pool) (m:=q) h);have HNO:=hQ (fun h=>lastsTo_no (p:=s.pool) (m:=q) h)
    have haL:(lastsTo s.pool q).length≤q:=by
     unfold lastsTo;have:=List.length_filter_le (fun i:Nat=>s.pool.lasts ((i:Int)+1)) (List.range q)
     rw [List.length_map];rw [List.length_range] at this;exact this
    clear SA;obtain⟨a0,ha0⟩:∃a0,(lastsTo s.pool q).length=a0:=⟨_,rfl⟩;have HA0:=hQ ha0;rw [ha0] at HG haL ⊢;clear ha0;by_cases hl:s.pool.lasts ((q:Int)+1)=true
    · have hg:=HG.out
      rw [if_pos hl] at hg;have hgl:a0<(lastsIn s.pool).length:=(List.getElem?_eq_some_iff.1 hg).1;have hge2:(lastsIn s.pool)[a0]=(q:Int)+1:=(List.getElem?_eq_some_iff.1 hg).2;have hal:a0<ls.length:=by rw [HOK.out.2.2.2];simpa [numsOf] using hgl
      have hno:ls[a0].no=(q:Int)+1:=by
       have:ls[a0]=(numsOf s (lastsIn s.pool))[a0]'(by simpa [numsOf] using hgl):=by simp only [HOK.out.2.2.2]
       rw [this,nums_get _ hgl];exact hge2
      obtain⟨wb2,off,bi,di,bd,dd,rfl,hpl0,hc⟩:=RD.out a0 hal;have d0:=(hc _ hle).1;rw [hno] at d0;have zb:=World.block_lt_of_cell? _ _ d0;have ha3:(a0:Int)<(ls.length:Int):=by omega
      have hl2:s.pool.state ((q:Int)+1)=4∨s.pool.state ((q:Int)+1)=2:=by
       have:=HT.out
       rw [hl] at this;simpa using this.symm
      have HY2:=hQ (HY.out hl);clear HG HT HY HNO hg hgl hge2 hpl0 hal hno hc hl;generalize s.pool.state ((q:Int)+1)=st at*;rcases hl2 with rfl | rfl
      · go_wp2_with fail
        refine LN.out.mono ?_;rintro e w1 ⟨rfl,rfl⟩;go_wp2_with fail
        refine S1.out.mono ?_;rintro e w1 ⟨rfl,rfl⟩;go_wp2;go_roundw
        case rel=>exact⟨q+1,by omega,congrArg (Value.int .i64) (by rw [HY2.out,List.length_append,HA0.out];simp),congrArg (Value.int .i64) (by omega),trivial⟩
        case measure=>simp [intOf];omega
      · go_wp2_with fail
        refine LN.out.mono ?_;rintro e w1 ⟨rfl,rfl⟩;go_wp2_with fail
        refine S1.out.mono ?_;rintro e w1 ⟨rfl,rfl⟩;go_wp2;go_roundw
        case rel=>exact⟨q+1,by omega,congrArg (Value.int .i64) (by rw [HY2.out,List.length_append,HA0.out];simp),congrArg (Value.int .i64) (by omega),trivial⟩
        case measure=>simp [intOf];omega
    · have hl':s.pool.lasts ((q:Int)+1)=false:=by simpa using hl
      have hl2:s.pool.state ((q:Int)+1)≠4∧s.pool.state ((q:Int)+1)≠2:=by
       have:=HT.out
       rw [hl'] at this;simpa using this.symm
      have hg:=HG.out;rw [if_neg hl] at hg;have HY2:=hQ (HNO.out hl');have e4:(s.pool.state ((q:Int)+1) == 4)=false:=beq_eq_false_iff_ne.2 hl2.1;have e2:(s.pool.state ((q:Int)+1) == 2)=false:=beq_eq_false_iff_ne.2 hl2.2;clear HG HT HY HNO hl hl' hl2;generalize s.pool.state ((q:Int)+1)=st at*;rcases Nat.lt_or_ge a0 ls.length with hal | hal
      · have hgl:a0<(lastsIn s.pool).length:=by rw [HOK.out.2.2.2] at hal;simpa [numsOf] using hal
        have hno:ls[a0].no≠(q:Int)+1:=by
         have:ls[a0]=(numsOf s (lastsIn s.pool))[a0]'(by simpa [numsOf] using hgl):=by simp only [HOK.out.2.2.2]
         rw [this,nums_get _ hgl];exact hg _ (List.getElem?_eq_getElem hgl)
        obtain⟨wb2,off,bi,di,bd,dd,rfl,hpl0,hc⟩:=RD.out a0 hal;have d0:=(hc _ hle).1;have zb:=World.block_lt_of_cell? _ _ d0;have hbn:(ls[a0].no == (q:Int)+1)=false:=beq_eq_false_iff_ne.2 hno;have ha3:(a0:Int)<(ls.length:Int):=by omega
        clear hg hgl hno hc hpl0;generalize ls[a0].no=na at*;clear hal;go_wp2_with fail
        refine LN.out.mono ?_;rintro e w1 ⟨rfl,rfl⟩;go_wp2_with fail
        refine S1.out.mono ?_;rintro e w1 ⟨rfl,rfl⟩;go_wp2;go_roundw
        case rel=>exact⟨q+1,by omega,congrArg (Value.int .i64) (by rw [HY2.out,HA0.out]),congrArg (Value.int .i64) (by omega),trivial⟩
        case measure=>simp [intOf];omega
      · have ha3:¬(a0:Int)<(ls.length:Int):=by omega
        clear hg;go_wp2_with fail
        refine LN.out.mono ?_;rintro e w1 ⟨rfl,rfl⟩;go_wp2_with fail
        refine S1.out.mono ?_;rintro e w1 ⟨rfl,rfl⟩;go_wp2;go_roundw
        case rel=>exact⟨q+1,by omega,congrArg (Value.int .i64) (by rw [HY2.out,HA0.out]),congrArg (Value.int .i64) (by omega),trivial⟩
        case measure=>simp [intOf];omega
  · have hqe:q=N:=by omega
    subst hqe;clear SA hq hge hle;have hs6:=HS4.out.alloc (.cells #[.int .i64 0] 3);have HST6:=hQ (HST.out.alloc (.cells #[.int .i64 0] 3));have HS6:=hQ hs6;clear hs6;go_wp2_with fail
    refine LN.out.mono ?_;rintro e w1 ⟨rfl,rfl⟩;go_wp2;clear c1 LN HS4 HST;have U6:=HS6.out;have V6:=HST6.out;clear HS6 HST6;generalize w0.alloc (.cells #[.int .i64 0] 3)=wA at*;generalize w0.heap.size=BG at*;obtain⟨G0,hG0⟩:∃G0:Int,0=G0:=⟨0,rfl⟩;rw [hG0] at U6
    have HS6:=hQ (U6.to (M:= [Pr.pts BG (.cells #[.int .i64 (G0)] 3),Pr.pts BB (.cells #[.bool false] 4),Pr.pts BP (.cells #[.pointer (some ⟨x,0,none⟩)] 28),Pr.pts x (placesC v rv (.slice wa ls.length wc)),VaultA v s,IntsRow rv roots,Pr.own hn,F]));have HST6:=hQ V6;clear U6 V6;refine wp_loop_rounds 3 ?_;rw [rounds_succ];have HG0:=hQ (show (0:Int)≤G0∧G0≤200 from by omega);have HGZ:=hQ hG0;clear hG0
    have PG:=hQ (vpages_any v s 2 HOK.out.1.inv.fit _ _ (HS6.out.pull1 (A1:=VaultA v s)));have c1:=HS6.out.facts;simp only [CellsAt,Nat.reduceAdd,and_true] at c1;go_wp2_with fail
    refine PG.out.mono ?_;rintro e wB ⟨st7,hw,fv,rfl,hwk,hs7⟩;obtain⟨lb,lv1,rfl,hlb,hn1⟩:=hwk
    have hnl2:(numsOf s (pagesIn s.pool 2)).length≤200:=by
     have h1:(pagesIn s.pool 2).length≤s.pool.counts.length:=pagesTo_len _ _ _;have:=HOK.out.1.inv.n2
     unfold numsOf;rw [List.length_map];omega
    have W2:=hQ (walk1 hw lb lv1 (numsOf s (pagesIn s.pool 2)) hlb hn1 (nums_fit HOK.out.1.inv.fit _) (by omega));have HS7:=hQ (OwnL.of2 hs7);have HST7:=hQ (HST6.out.trans st7);clear hs7 st7 PG HS6 HST6 c1 hlb hn1;go_wp2
    refine wp_rangeFunc_v 9 (gf:=106) rfl (enters_of Tryz.func106 (by kernel_rfl) rfl) W2.out (fun _=>rfl)
     (fun pre=>(Pr.pts BG (.cells #[.int .i64 (G0+(pre.length:Nat))] 3)).star (starL [Pr.pts BB (.cells #[.bool false] 4),Pr.pts BP (.cells #[.pointer (some ⟨x,0,none⟩)] 28),Pr.pts x (placesC v rv (.slice wa ls.length wc)),VaultA v s,IntsRow rv roots,Pr.own hn,F])) (fun _ _=>Pr.pure False) ?start2 ?round2 ?done2 ?stop2
    case start2=>
     have h1:=HS7.out.to (M:= [Pr.pts BG (.cells #[.int .i64 (G0)] 3),Pr.pts BB (.cells #[.bool false] 4),Pr.pts BP (.cells #[.pointer (some ⟨x,0,none⟩)] 28),Pr.pts x (placesC v rv (.slice wa ls.length wc)),VaultA v s,IntsRow rv roots,Pr.own hn,F,Pr.own hw]);refine h1.sat.perm ?_;simp only [starL,Pr.star_emp,List.length_nil];rw [show (G0:Int)+((0:Nat):Int)=G0 by omega];ac_rfl
    case round2=>
     intro l' pre y W1' F1 hok hs;obtain⟨hlt,hno,hg⟩:=hok;obtain⟨no,t⟩:=y;dsimp only at hno hg
     have hsa:Sat ((PgOwn t).star (((Pr.pts BG (.cells #[.int .i64 (G0+(pre.length:Nat))] 3)).star (starL [Pr.pts BB (.cells #[.bool false] 4),Pr.pts BP (.cells #[.pointer (some ⟨x,0,none⟩)] 28),Pr.pts x (placesC v rv (.slice wa ls.length wc)),VaultA v s,IntsRow rv roots,Pr.own hn,F])).star ((Pr.own hw).star F1))) W1':=hs.perm (by ac_rfl);obtain⟨_,h3⟩:=pgOwn_iff.1 hsa
     obtain⟨ai2,ci2,q1⟩:=Row.shape h3;obtain⟨ad2,cd2,q2⟩:=Row.shape h3.right.right;obtain⟨vi,vd,ys,g⟩:=t;dsimp only at hg q1 q2;subst q1 q2;have HSA:=hQ hsa
     have HG:=hQ (show no∈pagesIn s.pool 2∧g=(s.on no).getD zeroP from by
      have hl2:pre.length<(pagesIn s.pool 2).length:=by simpa [numsOf] using hlt
      rw [nums_get hlt hl2] at hno hg
      rw [hno,hg]
      exact⟨List.getElem_mem hl2,rfl⟩)
     clear hno hg;simp only [encT];rw [pv_eq];clear hs hsa h3;gi_wp2
     refine⟨(Stays.refl W1').alloc _,(Pr.pts W1'.heap.size (pageC g.kind g.level (.slice ai2 g.items.length ci2) (.slice ad2 g.data.length cd2) g.next)).star ((PgOwn ⟨.slice ai2 g.items.length ci2,.slice ad2 g.data.length cd2,ys,g⟩).star (((Pr.pts BG (.cells #[.int .i64 (G0+(pre.length:Nat))] 3)).star (starL [Pr.pts BB (.cells #[.bool false] 4),Pr.pts BP (.cells #[.pointer (some ⟨x,0,none⟩)] 28),Pr.pts x (placesC v rv (.slice wa ls.length wc)),VaultA v s,IntsRow rv roots,Pr.own hn,F])).star (Pr.own hw))),?_,?_⟩
     · exact(HSA.out.alloc (pageC g.kind g.level (.slice ai2 g.items.length ci2) (.slice ad2 g.data.length cd2) g.next)).perm (by ac_rfl)
     intro F2 W2 _ hs2;generalize W1'.heap.size=J at*;obtain⟨np,hnp⟩:∃np,pre.length=np:=⟨_,rfl⟩;rw [hnp] at hs2
     have hs4:OwnL [Pr.pts BG (.cells #[.int .i64 (G0+(np:Nat))] 3),Pr.pts BB (.cells #[.bool false] 4),Pr.pts BP (.cells #[.pointer (some ⟨x,0,none⟩)] 28),Pr.pts x (placesC v rv (.slice wa ls.length wc)),VaultA v s,IntsRow rv roots,Pr.own hn,F,Pr.pts J (pageC g.kind g.level (.slice ai2 g.items.length ci2) (.slice ad2 g.data.length cd2) g.next),PgOwn ⟨.slice ai2 g.items.length ci2,.slice ad2 g.data.length cd2,ys,g⟩,Pr.own hw,F2] W2:=⟨hs2.perm (by simp only [starL,Pr.star_emp];ac_rfl)⟩
     obtain⟨ht,hta,hs4b⟩:=hs4.arena (PgOwn ⟨.slice ai2 g.items.length ci2,.slice ad2 g.data.length cd2,ys,g⟩);have hpt:=pgOwn_in hta;rw [pv_eq] at hpt;have hnp2:np≤200:=by omega
     have HPT:=hQ hpt;have HS4:=hQ hs4b;have HNP:=hQ hnp;have HONE:=hQ (lasts_once (p:=s.pool) (n:=no) (k:=2) (by omega) HG.out.1)
     have HFIT:=hQ (show Fit g from by
      rw [HG.out.2]
      cases hy:s.on no with
      | none=>exact fitZ
      | some g0=>exact HOK.out.1.inv.fit no g0 hy)
     have HLAS:=hQ (show (lastsIn s.pool).length=ls.length from by rw [HOK.out.2.2.2];simp [numsOf]);clear hs2 hs4 hs4b hpt hnp hta HSA hlt;gi_wp2
     gi_loopw [11] (fun i wz=> ∃m:Nat,m≤ls.length∧i= .int .i64 m∧Stays W2 wz∧OwnL [Pr.own ht,Pr.pts BG (.cells #[.int .i64 (G0+(np:Nat)+((((lastsIn s.pool).take m).count no:Nat):Int))] 3),Pr.pts BB (.cells #[.bool false] 4),Pr.pts BP (.cells #[.pointer (some ⟨x,0,none⟩)] 28),Pr.pts x (placesC v rv (.slice wa ls.length wc)),VaultA v s,IntsRow rv roots,Pr.own hn,F,Pr.pts J (pageC g.kind g.level (.slice ai2 g.items.length ci2) (.slice ad2 g.data.length cd2) g.next),Pr.own hw,F2] wz) (fun i _=>ls.length-(intOf i).toNat)
     case atStart=>exact⟨0,Nat.zero_le _,rfl,Stays.refl W2,by
      rw [List.take_zero,List.count_nil,show (G0:Int)+((np:Nat):Int)+((0:Nat):Int)=G0+(np:Nat) by omega]
      exact HS4.out⟩
     case round=>
      obtain⟨m,hm,rfl,hst,hs⟩:=hrel;rename World=>wz
      have HSI:=hQ hs;have HSTI:=hQ hst;have c1:=hs.facts;simp only [CellsAt,Nat.reduceAdd,and_true] at c1;rcases Nat.lt_or_ge m ls.length with hlm | hgm
      · have hlm2:m<(lastsIn s.pool).length:=by rw [HLAS.out];exact hlm
        obtain⟨wb2,off,bi,di,bd,dd,rfl,hpl,hc⟩:=RD.out m hlm;have hle:=hs.le (a:=hn)
        have hLm:ls[m].no=(lastsIn s.pool)[m]∧ls[m].page=(s.on (lastsIn s.pool)[m]).getD zeroP:=by
         have e0:ls[m]=(numsOf s (lastsIn s.pool))[m]'(by simpa [numsOf] using hlm2):=by simp only [HOK.out.2.2.2]
         rw [e0,nums_get _ hlm2];exact⟨rfl,rfl⟩
        have htk:=List.take_succ_eq_append_getElem hlm2
        have hcb:((lastsIn s.pool).take m).count no≤m:=by
         have h1:=List.count_le_length (a:=no) (l:=(lastsIn s.pool).take m);rw [List.length_take] at h1;omega
        have HTK:=hQ htk;have hg0:=HG0.out;clear htk hst;by_cases hno:(lastsIn s.pool)[m]=no
        · rw [hLm.1,hLm.2,hno, ← HG.out.2] at hc
          rw [hLm.2,hno, ← HG.out.2] at hpl;obtain⟨d0,d1,d2,d3,d4,d5⟩:=hc _ hle;have zb:=World.block_lt_of_cell? _ _ d0;have HC:=hQ hc;clear hc;have EQ:=hQ (eqpage_same ht hn _ _ g HPT.out hpl HFIT.out wz.drew hs.drew.le hs.drew.le);have hbn:(no == no)=true:=beq_self_eq_true no;rw [hno] at HTK;clear hLm hpl hs hle hno;generalize hcq:((lastsIn s.pool).take m).count no=cq at*;have HCQ:=hQ hcq
          clear hcq;gi_wp2_with fail
          refine wpIn_region_staged (sz:=114) (by kernel_rfl) [0,1,2,3,4,5,6,7,8] [(9,[10],[1,2,3,4,5,6,7])] rfl (by kernel_rfl) (by kernel_rfl) (by kernel_rfl) (by kernel_rfl) ?_;refine wpQ_all _ rfl rfl ?_;simp only [pick,pQ];iterate 9 (go_big_quiet_step (fail))
          refine wpQuiet_nil ?_;refine wpRest_act rfl ?_;go_wp2_with fail
          refine EQ.out.mono ?_;rintro e wy ⟨rfl,hoy⟩;have HSY:=hQ (HSI.out.drew.ext hoy.heap);have HSTY:=hQ (HSTI.out.drew.trans hoy.st);clear c1 d0 d1 d2 d3 d4 d5 zb;have c1:=HSY.out.facts;simp only [CellsAt,Nat.reduceAdd,and_true] at c1;obtain⟨d0,d1,d2,d3,d4,d5⟩:=HC.out wy HSY.out.le;have zb:=World.block_lt_of_cell? _ _ d0;clear hoy EQ HSI HSTI HC;go_wp2;refine onN_mk ?_
          refine wpQ_all _ rfl rfl ?_;simp only [pick,pQ];iterate 1 (go_big_quiet_step (fail))
          refine wpQuiet_nil ⟨?_,?_⟩
          · exact cQ
          refine wpRest_nil ?_;gi_wp2
          go_roundw
          case rel=>
           refine⟨m+1,by omega,congrArg (Value.int .i64) (by omega),HSTY.out.setCell _ _,?_⟩;rw [HTK.out,List.count_append,count_one,if_pos rfl,HCQ.out];have h9:=HSY.out.set BG 0 (.int .i64 (G0+(np:Nat)+(cq:Nat)+1));rw [show (G0+(np:Nat)+((cq+1:Nat):Int))=G0+(np:Nat)+(cq:Nat)+1 by omega];exact h9.to
          case measure=>simp [intOf];omega
        · have d0:=(hc _ hle).1
          have zb:=World.block_lt_of_cell? _ _ d0;clear hc;have hbn:(ls[m].no == no)=false:=by rw [hLm.1];exact beq_eq_false_iff_ne.2 hno
          have HNO:=hQ hno;clear hLm hpl hs hle hno;generalize ls[m].no=nm at*;gi_wp2
          go_roundw
          case rel=>
           refine⟨m+1,by omega,congrArg (Value.int .i64) (by omega),HSTI.out,?_⟩;rw [HTK.out,List.count_append,count_one,if_neg (fun h=>HNO.out h.symm)];exact HSI.out
          case measure=>simp [intOf];omega
      · have hme:m=ls.length:=by omega
        subst hme;clear hs hst hm hgm;gi_wp2
        refine⟨HSTI.out,?_⟩;have h9:=HSI.out;have e8:(lastsIn s.pool).take ls.length=lastsIn s.pool:=by rw [← HLAS.out,List.take_length]
        rw [e8,HONE.out] at h9;have e9:((pre++ [(no,(⟨.slice ai2 g.items.length ci2,.slice ad2 g.data.length cd2,ys,g⟩:ToldX))]).length:Nat)=np+1:=by rw [List.length_append,HNP.out];rfl
        show Sat ((((Pr.pts BG (.cells #[.int .i64 (G0+((pre++ [(no,(⟨.slice ai2 g.items.length ci2,.slice ad2 g.data.length cd2,ys,g⟩:ToldX))]).length:Nat))] 3)).star (starL [Pr.pts BB (.cells #[.bool false] 4),Pr.pts BP (.cells #[.pointer (some ⟨x,0,none⟩)] 28),Pr.pts x (placesC v rv (.slice wa ls.length wc)),VaultA v s,IntsRow rv roots,Pr.own hn,F])).star (Pr.own hw)).star F2) _
        rw [e9,show ((G0:Int)+((np+1:Nat):Int))=G0+(np:Nat)+((1:Nat):Int) by omega];have h10:=h9.to (M:= [Pr.pts BG (.cells #[.int .i64 (G0+(np:Nat)+((1:Nat):Int))] 3),Pr.pts BB (.cells #[.bool false] 4),Pr.pts BP (.cells #[.pointer (some ⟨x,0,none⟩)] 28),Pr.pts x (placesC v rv (.slice wa ls.length wc)),VaultA v s,IntsRow rv roots,Pr.own hn,F,Pr.own hw,F2]);refine h10.sat.perm ?_
        simp only [starL,Pr.star_emp];ac_rfl
    case stop2=>
     intro D c pre W2 _ hst hs;exact(Sat.pure.1 (hs.perm (Pr.star_assoc _ _ _))).1.elim
    case done2=>
     intro D2 xs W2 hxs hst hs;have hs3:OwnL [Pr.pts BG (.cells #[.int .i64 (G0+(xs.length:Nat))] 3),Pr.pts BB (.cells #[.bool false] 4),Pr.pts BP (.cells #[.pointer (some ⟨x,0,none⟩)] 28),Pr.pts x (placesC v rv (.slice wa ls.length wc)),VaultA v s,IntsRow rv roots,Pr.own hn,F,Pr.own hw,Pr.pts D2 (.deferred (some []))] W2:=⟨hs.perm (by simp only [starL,Pr.star_emp];ac_rfl)⟩
     rw [hxs,show G0+(((numsOf s (pagesIn s.pool 2)).length:Nat):Int)=(((numsOf s (pagesIn s.pool 2)).length:Nat):Int) by have:=HGZ.out;omega] at hs3;have HG2:=hQ (show (0:Int)≤(((numsOf s (pagesIn s.pool 2)).length:Nat):Int)∧(((numsOf s (pagesIn s.pool 2)).length:Nat):Int)≤200 from by omega)
     have HLEN:=hQ (show (((numsOf s (pagesIn s.pool 2)).length:Nat):Int)+(((numsOf s (pagesIn s.pool 4)).length:Nat):Int)=(ls.length:Int) from by
      have:(lastsIn s.pool).length=(pagesIn s.pool 2).length+(pagesIn s.pool 4).length:=lasts_two s.pool _ (Nat.le_refl _)
      rw [HOK.out.2.2.2]
      simp only [numsOf,List.length_map]
      omega)
     have HSD:=hQ hs3;have HSTD:=hQ (HST7.out.trans hst);clear hs hs3 hst hxs HS7 HST7 HG0 HGZ;generalize (((numsOf s (pagesIn s.pool 2)).length:Nat):Int)=G2 at*;have HG0:=HG2;clear HG2;go_wp2;rw [rounds_succ];have PG:=hQ (vpages_any v s 4 HOK.out.1.inv.fit _ _ (HSD.out.pull1 (A1:=VaultA v s)));have c1:=HSD.out.facts;simp only [CellsAt,Nat.reduceAdd,and_true] at c1;go_wp2_with fail
     refine PG.out.mono ?_;rintro e wB ⟨st7,hw,fv,rfl,hwk,hs7⟩;obtain⟨lb,lv1,rfl,hlb,hn1⟩:=hwk
     have hnl4:(numsOf s (pagesIn s.pool 4)).length≤200:=by
      have h1:(pagesIn s.pool 4).length≤s.pool.counts.length:=pagesTo_len _ _ _;have:=HOK.out.1.inv.n2
      unfold numsOf;rw [List.length_map];omega
     have W4:=hQ (walk1 hw lb lv1 (numsOf s (pagesIn s.pool 4)) hlb hn1 (nums_fit HOK.out.1.inv.fit _) (by omega));have HS7:=hQ (OwnL.of2 hs7);have HST7:=hQ (HSTD.out.trans st7);clear hs7 st7 PG HSD HSTD c1 hlb hn1;go_wp2
     refine wp_rangeFunc_v 9 (gf:=106) rfl (enters_of Tryz.func106 (by kernel_rfl) rfl) W4.out (fun _=>rfl)
      (fun pre=>(Pr.pts BG (.cells #[.int .i64 (G2+(pre.length:Nat))] 3)).star (starL [Pr.pts BB (.cells #[.bool false] 4),Pr.pts BP (.cells #[.pointer (some ⟨x,0,none⟩)] 28),Pr.pts D2 (.deferred (some [])),Pr.pts x (placesC v rv (.slice wa ls.length wc)),VaultA v s,IntsRow rv roots,Pr.own hn,F])) (fun _ _=>Pr.pure False) ?start4 ?round4 ?done4 ?stop4
     case start4=>
      have h1:=HS7.out.to (M:= [Pr.pts BG (.cells #[.int .i64 (G2)] 3),Pr.pts BB (.cells #[.bool false] 4),Pr.pts BP (.cells #[.pointer (some ⟨x,0,none⟩)] 28),Pr.pts D2 (.deferred (some [])),Pr.pts x (placesC v rv (.slice wa ls.length wc)),VaultA v s,IntsRow rv roots,Pr.own hn,F,Pr.own hw]);refine h1.sat.perm ?_;simp only [starL,Pr.star_emp,List.length_nil]
      rw [show (G2:Int)+((0:Nat):Int)=G2 by omega];ac_rfl
     case round4=>
      intro l' pre y W1' F1 hok hs;obtain⟨hlt,hno,hg⟩:=hok;obtain⟨no,t⟩:=y;dsimp only at hno hg
      have hsa:Sat ((PgOwn t).star (((Pr.pts BG (.cells #[.int .i64 (G2+(pre.length:Nat))] 3)).star (starL [Pr.pts BB (.cells #[.bool false] 4),Pr.pts BP (.cells #[.pointer (some ⟨x,0,none⟩)] 28),Pr.pts D2 (.deferred (some [])),Pr.pts x (placesC v rv (.slice wa ls.length wc)),VaultA v s,IntsRow rv roots,Pr.own hn,F])).star ((Pr.own hw).star F1))) W1':=hs.perm (by ac_rfl)
      obtain⟨_,h3⟩:=pgOwn_iff.1 hsa;obtain⟨ai2,ci2,q1⟩:=Row.shape h3;obtain⟨ad2,cd2,q2⟩:=Row.shape h3.right.right;obtain⟨vi,vd,ys,g⟩:=t;dsimp only at hg q1 q2;subst q1 q2;have HSA:=hQ hsa
      have HG:=hQ (show no∈pagesIn s.pool 4∧g=(s.on no).getD zeroP from by
       have hl2:pre.length<(pagesIn s.pool 4).length:=by simpa [numsOf] using hlt
       rw [nums_get hlt hl2] at hno hg
       rw [hno,hg]
       exact⟨List.getElem_mem hl2,rfl⟩)
      clear hno hg;simp only [encT];rw [pv_eq];clear hs hsa h3;gi_wp2
      refine⟨(Stays.refl W1').alloc _,(Pr.pts W1'.heap.size (pageC g.kind g.level (.slice ai2 g.items.length ci2) (.slice ad2 g.data.length cd2) g.next)).star ((PgOwn ⟨.slice ai2 g.items.length ci2,.slice ad2 g.data.length cd2,ys,g⟩).star (((Pr.pts BG (.cells #[.int .i64 (G2+(pre.length:Nat))] 3)).star (starL [Pr.pts BB (.cells #[.bool false] 4),Pr.pts BP (.cells #[.pointer (some ⟨x,0,none⟩)] 28),Pr.pts D2 (.deferred (some [])),Pr.pts x (placesC v rv (.slice wa ls.length wc)),VaultA v s,IntsRow rv roots,Pr.own hn,F])).star (Pr.own hw))),?_,?_⟩
      · exact(HSA.out.alloc (pageC g.kind g.level (.slice ai2 g.items.length ci2) (.slice ad2 g.data.length cd2) g.next)).perm (by ac_rfl)
      intro F2 W2 _ hs2;generalize W1'.heap.size=J at*;obtain⟨np,hnp⟩:∃np,pre.length=np:=⟨_,rfl⟩;rw [hnp] at hs2
      have hs4:OwnL [Pr.pts BG (.cells #[.int .i64 (G2+(np:Nat))] 3),Pr.pts BB (.cells #[.bool false] 4),Pr.pts BP (.cells #[.pointer (some ⟨x,0,none⟩)] 28),Pr.pts D2 (.deferred (some [])),Pr.pts x (placesC v rv (.slice wa ls.length wc)),VaultA v s,IntsRow rv roots,Pr.own hn,F,Pr.pts J (pageC g.kind g.level (.slice ai2 g.items.length ci2) (.slice ad2 g.data.length cd2) g.next),PgOwn ⟨.slice ai2 g.items.length ci2,.slice ad2 g.data.length cd2,ys,g⟩,Pr.own hw,F2] W2:=⟨hs2.perm (by simp only [starL,Pr.star_emp];ac_rfl)⟩
      obtain⟨ht,hta,hs4b⟩:=hs4.arena (PgOwn ⟨.slice ai2 g.items.length ci2,.slice ad2 g.data.length cd2,ys,g⟩);have hpt:=pgOwn_in hta;rw [pv_eq] at hpt;have hnp2:np≤200:=by omega
      have HPT:=hQ hpt;have HS4:=hQ hs4b;have HNP:=hQ hnp;have HONE:=hQ (lasts_once (p:=s.pool) (n:=no) (k:=4) (by omega) HG.out.1)
      have HFIT:=hQ (show Fit g from by
       rw [HG.out.2]
       cases hy:s.on no with
       | none=>exact fitZ
       | some g0=>exact HOK.out.1.inv.fit no g0 hy)
      have HLAS:=hQ (show (lastsIn s.pool).length=ls.length from by rw [HOK.out.2.2.2];simp [numsOf]);clear hs2 hs4 hs4b hpt hnp hta HSA hlt;gi_wp2
      gi_loopw [11] (fun i wz=> ∃m:Nat,m≤ls.length∧i= .int .i64 m∧Stays W2 wz∧OwnL [Pr.own ht,Pr.pts BG (.cells #[.int .i64 (G2+(np:Nat)+((((lastsIn s.pool).take m).count no:Nat):Int))] 3),Pr.pts BB (.cells #[.bool false] 4),Pr.pts BP (.cells #[.pointer (some ⟨x,0,none⟩)] 28),Pr.pts D2 (.deferred (some [])),Pr.pts x (placesC v rv (.slice wa ls.length wc)),VaultA v s,IntsRow rv roots,Pr.own hn,F,Pr.pts J (pageC g.kind g.level (.slice ai2 g.items.length ci2) (.slice ad2 g.data.length cd2) g.next),Pr.own hw,F2] wz) (fun i _=>ls.length-(intOf i).toNat)
      case atStart=>exact⟨0,Nat.zero_le _,rfl,Stays.refl W2,by
       rw [List.take_zero,List.count_nil,show (G2:Int)+((np:Nat):Int)+((0:Nat):Int)=G2+(np:Nat) by omega]
       exact HS4.out⟩
      case round=>
       obtain⟨m,hm,rfl,hst,hs⟩:=hrel;rename World=>wz
       have HSI:=hQ hs;have HSTI:=hQ hst;have c1:=hs.facts;simp only [CellsAt,Nat.reduceAdd,and_true] at c1;rcases Nat.lt_or_ge m ls.length with hlm | hgm
       · have hlm2:m<(lastsIn s.pool).length:=by rw [HLAS.out];exact hlm
         obtain⟨wb2,off,bi,di,bd,dd,rfl,hpl,hc⟩:=RD.out m hlm;have hle:=hs.le (a:=hn)
         have hLm:ls[m].no=(lastsIn s.pool)[m]∧ls[m].page=(s.on (lastsIn s.pool)[m]).getD zeroP:=by
          have e0:ls[m]=(numsOf s (lastsIn s.pool))[m]'(by simpa [numsOf] using hlm2):=by simp only [HOK.out.2.2.2]
          rw [e0,nums_get _ hlm2];exact⟨rfl,rfl⟩
         have htk:=List.take_succ_eq_append_getElem hlm2
         have hcb:((lastsIn s.pool).take m).count no≤m:=by
          have h1:=List.count_le_length (a:=no) (l:=(lastsIn s.pool).take m);rw [List.length_take] at h1;omega
         have HTK:=hQ htk;have hg0:=HG0.out;clear htk hst;by_cases hno:(lastsIn s.pool)[m]=no
         · rw [hLm.1,hLm.2,hno, ← HG.out.2] at hc
           rw [hLm.2,hno, ← HG.out.2] at hpl;obtain⟨d0,d1,d2,d3,d4,d5⟩:=hc _ hle;have zb:=World.block_lt_of_cell? _ _ d0;have HC:=hQ hc;clear hc;have EQ:=hQ (eqpage_same ht hn _ _ g HPT.out hpl HFIT.out wz.drew hs.drew.le hs.drew.le);have hbn:(no == no)=true:=beq_self_eq_true no;rw [hno] at HTK;clear hLm hpl hs hle hno;generalize hcq:((lastsIn s.pool).take m).count no=cq at*;have HCQ:=hQ hcq
           clear hcq;gi_wp2_with fail
           refine wpIn_region_staged (sz:=114) (by kernel_rfl) [0,1,2,3,4,5,6,7,8] [(9,[10],[1,2,3,4,5,6,7])] rfl (by kernel_rfl) (by kernel_rfl) (by kernel_rfl) (by kernel_rfl) ?_;refine wpQ_all _ rfl rfl ?_;simp only [pick,pQ];iterate 9 (go_big_quiet_step (fail))
           refine wpQuiet_nil ?_;refine wpRest_act rfl ?_;go_wp2_with fail
           refine EQ.out.mono ?_;rintro e wy ⟨rfl,hoy⟩;have HSY:=hQ (HSI.out.drew.ext hoy.heap);have HSTY:=hQ (HSTI.out.drew.trans hoy.st);clear c1 d0 d1 d2 d3 d4 d5 zb;have c1:=HSY.out.facts;simp only [CellsAt,Nat.reduceAdd,and_true] at c1;obtain⟨d0,d1,d2,d3,d4,d5⟩:=HC.out wy HSY.out.le;have zb:=World.block_lt_of_cell? _ _ d0;clear hoy EQ HSI HSTI HC;go_wp2;refine onN_mk ?_
           refine wpQ_all _ rfl rfl ?_;simp only [pick,pQ];iterate 1 (go_big_quiet_step (fail))
           refine wpQuiet_nil ⟨?_,?_⟩
           · exact cQ
           refine wpRest_nil ?_;gi_wp2
           go_roundw
           case rel=>
            refine⟨m+1,by omega,congrArg (Value.int .i64) (by omega),HSTY.out.setCell _ _,?_⟩;rw [HTK.out,List.count_append,count_one,if_pos rfl,HCQ.out];have h9:=HSY.out.set BG 0 (.int .i64 (G2+(np:Nat)+(cq:Nat)+1));rw [show (G2+(np:Nat)+((cq+1:Nat):Int))=G2+(np:Nat)+(cq:Nat)+1 by omega];exact h9.to
           case measure=>simp [intOf];omega
         · have d0:=(hc _ hle).1
           have zb:=World.block_lt_of_cell? _ _ d0;clear hc;have hbn:(ls[m].no == no)=false:=by rw [hLm.1];exact beq_eq_false_iff_ne.2 hno
           have HNO:=hQ hno;clear hLm hpl hs hle hno;generalize ls[m].no=nm at*;gi_wp2
           go_roundw
           case rel=>
            refine⟨m+1,by omega,congrArg (Value.int .i64) (by omega),HSTI.out,?_⟩;rw [HTK.out,List.count_append,count_one,if_neg (fun h=>HNO.out h.symm)];exact HSI.out
           case measure=>simp [intOf];omega
       · have hme:m=ls.length:=by omega
         subst hme;clear hs hst hm hgm;gi_wp2
         refine⟨HSTI.out,?_⟩;have h9:=HSI.out;have e8:(lastsIn s.pool).take ls.length=lastsIn s.pool:=by rw [← HLAS.out,List.take_length]
         rw [e8,HONE.out] at h9;have e9:((pre++ [(no,(⟨.slice ai2 g.items.length ci2,.slice ad2 g.data.length cd2,ys,g⟩:ToldX))]).length:Nat)=np+1:=by rw [List.length_append,HNP.out];rfl
         show Sat ((((Pr.pts BG (.cells #[.int .i64 (G2+((pre++ [(no,(⟨.slice ai2 g.items.length ci2,.slice ad2 g.data.length cd2,ys,g⟩:ToldX))]).length:Nat))] 3)).star (starL [Pr.pts BB (.cells #[.bool false] 4),Pr.pts BP (.cells #[.pointer (some ⟨x,0,none⟩)] 28),Pr.pts D2 (.deferred (some [])),Pr.pts x (placesC v rv (.slice wa ls.length wc)),VaultA v s,IntsRow rv roots,Pr.own hn,F])).star (Pr.own hw)).star F2) _
         rw [e9,show ((G2:Int)+((np+1:Nat):Int))=G2+(np:Nat)+((1:Nat):Int) by omega];have h10:=h9.to (M:= [Pr.pts BG (.cells #[.int .i64 (G2+(np:Nat)+((1:Nat):Int))] 3),Pr.pts BB (.cells #[.bool false] 4),Pr.pts BP (.cells #[.pointer (some ⟨x,0,none⟩)] 28),Pr.pts D2 (.deferred (some [])),Pr.pts x (placesC v rv (.slice wa ls.length wc)),VaultA v s,IntsRow rv roots,Pr.own hn,F,Pr.own hw,F2])
         refine h10.sat.perm ?_;simp only [starL,Pr.star_emp];ac_rfl
     case stop4=>
      intro D c pre W2 _ hst hs;exact(Sat.pure.1 (hs.perm (Pr.star_assoc _ _ _))).1.elim
     case done4=>
      intro D4 xs W4 hxs hst hs
      have hs3:OwnL [Pr.pts BG (.cells #[.int .i64 (G2+(xs.length:Nat))] 3),Pr.pts BB (.cells #[.bool false] 4),Pr.pts BP (.cells #[.pointer (some ⟨x,0,none⟩)] 28),Pr.pts D2 (.deferred (some [])),Pr.pts x (placesC v rv (.slice wa ls.length wc)),VaultA v s,IntsRow rv roots,Pr.own hn,F,Pr.own hw,Pr.pts D4 (.deferred (some []))] W4:=⟨hs.perm (by simp only [starL,Pr.star_emp];ac_rfl)⟩
      rw [hxs,HLEN.out] at hs3;have c1:=hs3.facts;simp only [CellsAt,Nat.reduceAdd,and_true] at c1;have HSD:=hQ hs3;have HSTD:=hQ (HST7.out.trans hst);clear hs hs3 hst hxs HS7 HST7;go_wp2;rw [rounds_succ];go_wp2_with fail
      refine wS 114 [0,1,2,3,4,5,6] [(7,[],[])] ?_;refine wpQ_cut [0,1,2,3,4] [5,6] ?_;refine wpQ_all _ rfl rfl ?_;simp only [pick,pQ];iterate 5 (go_big_quiet_step (fail))
      refine wpQuiet_nil ?_;refine wpQ_step rfl rfl (fun K hK=> ?_);go_simp;refine hK _ ?_;clear hK K;refine wpQ_all _ rfl rfl ?_;simp only [pick,pQ];iterate 1 (go_big_quiet_step (fail))
      refine wpQuiet_nil ?_;refine wpRest_act rfl ?_;go_wp2;refine onN_mk ?_;refine wpQ_nil ⟨?_,?_⟩
      · exact chk_nil
      refine wpRest_nil ?_;go_wp2;have h6:=(HSD.out.set BB 0 (.bool true)).drew;have h7:=h6.back (NumsRow (.slice wa ls.length wc) ls) HNA.out;have q1:=h7.pull1 (A1:=Pr.pts D4 (.deferred (some [])));have q2:=OwnL.of1 (q1.putObj (.deferred none));have q3:=q2.pull1 (A1:=Pr.pts D2 (.deferred (some [])));have q4:=OwnL.of1 (q3.putObj (.deferred none))
      refine marks_ret2 (D:=D4) (E:=D2) rfl q1.pts_heap q3.pts_heap ⟨_,results_cell1 rfl Tryz.underlying4 _ _ BB (.bool true) rfl (by rw [cell_of_heap (q4.pts BB).pts_heap];rfl),rfl,((HSTD.out.setCell _ _).drew.putObj _ _).putObj _ _,q4.to⟩
end Go.Proofs.YtpfafhklppondaaGreat.Yz
namespace Go.Cop
open Go.Sl Go.RowKit Go.Proofs.YtpfafhklppondaaGreat.M2 Go.Proofs.YtpfafhklppondaaGreat.P3 Go.Proofs.YtpfafhklppondaaGreat.X3 Go.Proofs.YtpfafhklppondaaGreat.X6 Go.Proofs.YtpfafhklppondaaGreat.F7 Go.Proofs.YtpfafhklppondaaGreat.Z7 Go.Proofs.YtpfafhklppondaaGreat.D5 Go.Proofs.YtpfafhklppondaaGreat.W6 Go.Proofs.YtpfafhklppondaaGreat.M6 Go.Proofs.YtpfafhklppondaaGreat.G4 Go.Proofs.YtpfafhklppondaaGreat.Vy
theorem inSum_none {get:Int→PageV}{cs:List Int}(h:∀n,cntL cs n=0)(m:Int):∀k,inSum get cs m k=0
 | 0=>rfl
 | k+1=>by
   unfold inSum;rw [inSum_none h m k,partD_zero (h _)]
theorem cnt_new(n:Nat)(m:Int):cntL (List.replicate n (0:Int)) m=0:=by
 unfold cntL;split
 · rw [List.getD_eq_getElem?_getD,List.getElem?_replicate]
   split<;>rfl
 · rfl
theorem lasts_new(refs:Int)(n:Nat)(m:Int):(newV refs n).pool.lasts m=false:=by
 unfold PoolS.lasts;show (lastsOf (List.replicate n (0:Int))).getD _ _=false
 rw [lasts_zeroJ,List.getD_eq_getElem?_getD,List.getElem?_replicate];split<;>rfl
theorem pl_new {n:Nat}(h:1≤n∧n≤200):PlOK (newV 65535 n) [] [] 120:=by
 have hr:rangeOk n 65535=true:=rangeOk_iff.2 ⟨by omega,by omega,by omega,by omega⟩;have ok:=poolOk_new n 65535 (by omega);rw [Int.toNat_natCast] at ok
 have hc:∀m,(newV 65535 n).pool.count m=0:=fun m=>by
  rw [count_cnt];exact cnt_new n m
 refine⟨⟨⟨_,_,(join_new hr ok 120 (by omega)).now⟩,rfl,?_,fun m=>⟨by simp,by simp⟩,fun m hm=>absurd (by simp) hm,fun m _ _=> ?_,fun m hm=>absurd (hc m) hm,?_⟩,Nat.le_refl _⟩
 · show (List.replicate n (0:Int)).length≤200
   rw [List.length_replicate];exact h.2
 · rw [hc]
   unfold indeg;rw [inSum_none (fun k=>cnt_new n k)];simp
 · unfold numsOf lastsIn lastsTo
   rw [List.filter_eq_nil_iff.2 (fun i _=>by rw [lasts_new];simp)];rfl
end Go.Cop
