/- The pool's Load; the conditions stand as hypotheses. -/
import Derived.Test.YtiegeadmgpanoaaGreatDoorWalkChecksM10
import Derived.Test.YtiegeadmgpanoaaGreatDoorWalkChecksM13
import Derived.Test.YtiegeadmgpanoaaGreatDoorWalkChecksM05
import Derived.SizedLaws
import Derived.Test.YtiegeadmgpanoaaGreatDoorWalkChecksM01
set_option maxRecDepth 100000
set_option maxHeartbeats 16000000
namespace Go.Proofs.YtiegeadmgpanoaaGreatDoor.J5
open ChangeShapes WideShapes ChangeAt RowKit Sl Cop D2 F3 K3 L3 P3 G2 J2 G5
theorem min_any(h:Hp)(v:Value)(cs:List Int)(hx:Ints h v cs)(hn:1≤cs.length)(hn2:cs.length≤65536)(w:World)(hh:h.le w):
 Calls Tryz.prog 119 #[v] w fun e w'=>(∃m,e= .returned (.int .i64 m)∧∀t,m<t↔∃c∈cs,c<t)∧w=w':=by
 obtain⟨a,c,rfl,rd⟩:=ints_rd hx;obtain⟨b,off,rfl,c0⟩:=rd 0 (by omega);have q0:=c0 w hh;rw [Nat.add_zero] at q0;have hl:((cs.length:Int)<1)=False:=eq_false (by omega);have RD:=hQ rd;have HH:=hQ hh;have HN:=hQ hn;clear rd hx c0 hh;go_enter Tryz.func119,Tryz.ntmps119
 go_wp2;go_loopw [3,4] (fun m i wr=> ∃(k:Nat) (mm:Int),1≤k∧k≤cs.length∧m= .int .i64 mm∧i= .int .i64 k∧wr=w∧Hid (∀t,mm<t↔∃c∈cs.take k,c<t)) (fun _ i _=>cs.length-(intOf i).toNat)
 case atStart=>
  refine⟨1,cs.getD 0 0,Nat.le_refl _,HN.out,rfl,rfl,rfl,hQ fun t=> ?_⟩;have hn:=HN.out;cases cs with
  | nil=>simp at hn
  | cons x l=>simp
 case round=>
  obtain⟨k,mm,hk1,hk,rfl,rfl,rfl,hc⟩:=hrel;rcases Nat.lt_or_ge k cs.length with hlt | hge
  · obtain⟨b',off',e',c1⟩:=RD.out k hlt
    cases e';have q1:=c1 wr HH.out;have hget:cs.getD k 0=cs[k]:=by simp [hlt]
    have HT:=hQ (show ∀t,(∃c∈cs.take (k+1),c<t)↔(∃c∈cs.take k,c<t)∨cs.getD k 0<t by
     intro t
     rw [List.take_succ_eq_append_getElem hlt,hget]
     constructor
     · rintro⟨c,hc,h⟩
       rcases List.mem_append.1 hc with h1 | h1
       · exact .inl ⟨c,h1,h⟩
       · rw [List.mem_singleton.1 h1] at h;exact .inr h
     · rintro(⟨c,h1,h⟩ | h)
       · exact⟨c,List.mem_append_left _ h1,h⟩
       · exact⟨_,List.mem_append_right _ (List.mem_singleton.2 rfl),h⟩)
    clear c1 hget;generalize cs.getD k 0=x at*;go_wp2;go_roundw
    case rel=>
     refine⟨k+1,_,by omega,by omega,rfl,congrArg (Value.int .i64) (by omega),trivial,hQ fun t=> ?_⟩;rw [HT.out, ← hc.out];omega
    case measure=>simp [intOf];omega
  · have hkl:k=cs.length:=by omega
    subst hkl;have HC:=hQ hc.out;clear hc;go_wp2;go_ret;refine⟨⟨mm,rfl,?_⟩,rfl⟩;have:=HC.out
    rw [List.take_length] at this;exact this
theorem max_any(h:Hp)(v:Value)(cs:List Int)(hx:Ints h v cs)(hn:1≤cs.length)(hn2:cs.length≤65536)(w:World)(hh:h.le w):
 Calls Tryz.prog 120 #[v] w fun e w'=>(∃m,e= .returned (.int .i64 m)∧∀t,t<m↔∃c∈cs,t<c)∧w=w':=by
 obtain⟨a,c,rfl,rd⟩:=ints_rd hx;obtain⟨b,off,rfl,c0⟩:=rd 0 (by omega);have q0:=c0 w hh;rw [Nat.add_zero] at q0;have hl:((cs.length:Int)<1)=False:=eq_false (by omega);have RD:=hQ rd;have HH:=hQ hh;have HN:=hQ hn;clear rd hx c0 hh;go_enter Tryz.func120,Tryz.ntmps120
 go_wp2;go_loopw [3,4] (fun m i wr=> ∃(k:Nat) (mm:Int),1≤k∧k≤cs.length∧m= .int .i64 mm∧i= .int .i64 k∧wr=w∧Hid (∀t,t<mm↔∃c∈cs.take k,t<c)) (fun _ i _=>cs.length-(intOf i).toNat)
 case atStart=>
  refine⟨1,cs.getD 0 0,Nat.le_refl _,HN.out,rfl,rfl,rfl,hQ fun t=> ?_⟩;have hn:=HN.out;cases cs with
  | nil=>simp at hn
  | cons x l=>simp
 case round=>
  obtain⟨k,mm,hk1,hk,rfl,rfl,rfl,hc⟩:=hrel;rcases Nat.lt_or_ge k cs.length with hlt | hge
  · obtain⟨b',off',e',c1⟩:=RD.out k hlt
    cases e';have q1:=c1 wr HH.out;have hget:cs.getD k 0=cs[k]:=by simp [hlt]
    have HT:=hQ (show ∀t,(∃c∈cs.take (k+1),t<c)↔(∃c∈cs.take k,t<c)∨t<cs.getD k 0 by
     intro t
     rw [List.take_succ_eq_append_getElem hlt,hget]
     constructor
     · rintro⟨c,hc,h⟩
       rcases List.mem_append.1 hc with h1 | h1
       · exact .inl ⟨c,h1,h⟩
       · rw [List.mem_singleton.1 h1] at h;exact .inr h
     · rintro(⟨c,h1,h⟩ | h)
       · exact⟨c,List.mem_append_left _ h1,h⟩
       · exact⟨_,List.mem_append_right _ (List.mem_singleton.2 rfl),h⟩)
    clear c1 hget;generalize cs.getD k 0=x at*;go_wp2;go_roundw
    case rel=>
     refine⟨k+1,_,by omega,by omega,rfl,congrArg (Value.int .i64) (by omega),trivial,hQ fun t=> ?_⟩;rw [HT.out, ← hc.out];omega
    case measure=>simp [intOf];omega
  · have hkl:k=cs.length:=by omega
    subst hkl;have HC:=hQ hc.out;clear hc;go_wp2;go_ret;refine⟨⟨mm,rfl,?_⟩,rfl⟩;have:=HC.out
    rw [List.take_length] at this;exact this
theorem right_any(n r:Int)(w:World):Calls Tryz.prog 118 #[.int .i64 n,.int .i64 r] w fun e w'=>e= .returned (.bool (rangeOk n r))∧w=w':=by
 have fin:∀(b:Bool),b=rangeOk n r→Ending.returned (Value.bool b)=Ending.returned (Value.bool (rangeOk n r)):=fun b e=>by rw [e]
 by_cases h1:1≤n
 · by_cases h2:n≤65536
   · by_cases h3:2≤r
     · go_enter Tryz.func118,Tryz.ntmps118
       go_wp2;go_ret;refine⟨fin _ ?_,rfl⟩;rw [Bool.eq_iff_iff];simp [rangeOk,h1,h2,h3]
     · go_enter Tryz.func118,Tryz.ntmps118
       go_wp2;go_ret;refine⟨fin _ ?_,rfl⟩;rw [Bool.eq_iff_iff];simp [rangeOk];omega
   · go_enter Tryz.func118,Tryz.ntmps118
     go_wp2;go_ret;refine⟨fin _ ?_,rfl⟩;rw [Bool.eq_iff_iff];simp [rangeOk];omega
 · go_enter Tryz.func118,Tryz.ntmps118
   go_wp2;go_ret;refine⟨fin _ ?_,rfl⟩;rw [Bool.eq_iff_iff];simp [rangeOk];omega
theorem badC_false {refs:Int}{cs:List Int}(h:badC refs cs=false):∀c∈cs,0≤c∧c≤refs:=by
 intro c hc;have:=List.any_eq_false.1 h c hc
 simp only [decide_eq_true_eq] at this;omega
theorem badC_min {refs:Int}{cs:List Int}(h:∃c∈cs,c<0):badC refs cs=true:=by
 obtain⟨c,hc,h⟩:=h;exact List.any_eq_true.2 ⟨c,hc,by simp only [decide_eq_true_eq];exact .inl h⟩
theorem badC_max {refs:Int}{cs:List Int}(h:∃c∈cs,refs<c):badC refs cs=true:=by
 obtain⟨c,hc,h⟩:=h;exact List.any_eq_true.2 ⟨c,hc,by simp only [decide_eq_true_eq];exact .inr h⟩
theorem badC_not {refs:Int}{cs:List Int}(h1:¬∃c∈cs,c<0)(h2:¬∃c∈cs,refs<c):badC refs cs=false:=by
 refine List.any_eq_false.2 fun c hc=> ?_
 simp only [decide_eq_true_eq];rintro(h | h)
 · exact h1 ⟨c,hc,h⟩
 · exact h2 ⟨c,hc,h⟩
theorem rangeOk_iff {n r:Int}:rangeOk n r=true↔(1≤n∧n≤65536∧2≤r∧r<65536):=by unfold rangeOk;exact decide_eq_true_iff
theorem poolOk_load {refs:Int}{cs:List Int}(h:rangeOk cs.length refs=true)(hb:badC refs cs=false):PoolOk (poolOf refs cs 0):=by
 obtain⟨h1,h2,h3,h4⟩:=rangeOk_iff.1 h;refine⟨?_,?_,?_,h3,h4,fun c hc=> ?_,Int.le_refl _,by simp⟩
 · show 1≤cs.length;omega
 · show cs.length≤65536;omega
 · simp [lastsOf]
 · have:=badC_false hb c hc;omega
theorem pload_any(refs:Int)(h:Hp)(v:Value)(cs:List Int)(hx:Ints h v cs)(F:Pr)(w:World)(hF:Sat ((Pr.own h).star F) w):
 Calls Tryz.prog 75 #[.int .i64 refs,v] w fun e w'=>Stays w w'∧
  ((rangeOk cs.length refs=false∧e= .returned (.tuple #[.pointer none,.int .i64 1])∧Sat ((Pr.own h).star F) w')∨
   (rangeOk cs.length refs=true∧badC refs cs=true∧e= .returned (.tuple #[.pointer none,.int .i64 13])∧Sat ((Pr.own h).star F) w')∨
   (rangeOk cs.length refs=true∧badC refs cs=false∧∃p,e= .returned (.tuple #[.pointer (some ⟨p,0,none⟩),.int .i64 0])∧Sat ((PoolA p (poolOf refs cs 0)).star ((Pr.own h).star F)) w')):=by
 have hx0:=hx;obtain⟨_,a,c,rfl,_⟩:=hx0;cases hr:rangeOk cs.length refs with
 | false=>
   have R:=fun wx=>hQ (right_any cs.length refs wx)
   rw [hr] at R;go_enter Tryz.func75,Tryz.ntmps75
   go_wp2_with fail
   refine(R _).out.mono ?_;rintro e w1 ⟨rfl,rfl⟩;go_wp2;go_ret2;exact⟨Stays.refl _,.inl ⟨trivial,rfl,hF⟩⟩
 | true=>
   obtain⟨n1,n2,n3,n4⟩:=rangeOk_iff.1 hr;have R:=fun wx=>hQ (right_any cs.length refs wx)
   rw [hr] at R;have MI:=hQ (min_any h _ cs hx (by omega) (by omega) w hF.own);have MA:=hQ (max_any h _ cs hx (by omega) (by omega) w hF.own);have OK:=fun hb=>hQ (poolOk_load hr hb)
   have CL:=hQ (clone_ints h _ cs _ w hF hF.own hx (by omega));have HF:=hQ hF;clear hF hx hr n1 n2 n3 n4;go_enter Tryz.func75,Tryz.ntmps75
   go_wp2_with fail
   refine(R _).out.mono ?_;rintro e w1 ⟨rfl,rfl⟩;go_wp2_with fail
   refine MI.out.mono ?_;rintro e w1 ⟨⟨mi,rfl,hmi⟩,rfl⟩;have HMI:=hQ hmi;clear hmi;by_cases h0:mi<0
   · go_wp2
     go_ret2;exact⟨Stays.refl _,.inr (.inl ⟨trivial,badC_min ((HMI.out 0).1 h0),rfl,HF.out⟩)⟩
   · go_wp2_with fail
     refine MA.out.mono ?_;rintro e w1 ⟨⟨ma,rfl,hma⟩,rfl⟩;have HMA:=hQ hma;clear hma;by_cases h1:refs<ma
     · go_wp2
       go_ret2;exact⟨Stays.refl _,.inr (.inl ⟨trivial,badC_max ((HMA.out refs).1 h1),rfl,HF.out⟩)⟩
     · have hb:badC refs cs=false:=badC_not (fun h=>absurd ((HMI.out 0).2 h) (by omega)) (fun h=>absurd ((HMA.out refs).2 h) (by omega))
       have HB:=hQ hb;have hok:=hQ (OK hb).out;clear hb;go_wp2_with fail
       refine CL.out.mono ?_;rintro e w1 ⟨v',rfl,hs1,hst1⟩;obtain⟨a',c',ev,_,_⟩:=Row.read hs1;subst ev;have OV:=hQ (over_any refs _ cs _ w1 hs1 hok.out);go_wp2_with fail
       refine OV.out.mono ?_;rintro e w2 ⟨p,rfl,hs2,hst2⟩;have H2:=hQ hs2;clear hs1 hs2;go_wp2;go_ret2;exact⟨hst1.trans hst2,.inr (.inr ⟨trivial,HB.out,p,rfl,H2.out⟩)⟩
end Go.Proofs.YtiegeadmgpanoaaGreatDoor.J5
namespace Go.Proofs.YtiegeadmgpanoaaGreatDoor.L5
open ChangeShapes WideShapes ChangeAt RowKit Sl Cop Deep G2 Q4 S4 Q3 G5 X3 J4
theorem cells_int:Tryz.prog.cellsOf 3=1:=by kernel_rfl
theorem cells_item:Tryz.prog.cellsOf 89=4:=by kernel_rfl
theorem cells_page:Tryz.prog.cellsOf 83=5:=by kernel_rfl
theorem cells_num:Tryz.prog.cellsOf 91=6:=by kernel_rfl
theorem bytes_u8:Tryz.prog.bytesOf 5=1:=by kernel_rfl
theorem bytes_int:Tryz.prog.bytesOf 3=8:=by kernel_rfl
theorem bytes_item:Tryz.prog.bytesOf 89=64:=by kernel_rfl
theorem bytes_num:Tryz.prog.bytesOf 91=80:=by kernel_rfl
section
variable {H:Type}{enc:TypeId × Value→H}
def Small(d:DataW H)(t:TypeId):Prop:= ∀m∈d.weights Tryz.prog t,m≤reachBytes
theorem weights_all {e:TypeId}:∀ {l:List (DataW H)} {i:Nat} {d:DataW H},l[i]? =some d→∀m∈d.weights Tryz.prog e,m∈DataW.weightsAll Tryz.prog e l
 | [],_,_,h,_,_=>by simp at h
 | x :: l,0,d,h,m,hm=>by
   simp only [List.getElem?_cons_zero,Option.some.injEq] at h;subst h;simp only [DataW.weightsAll,List.mem_append];exact .inl hm
 | x :: l,i+1,d,h,m,hm=>by
   simp only [List.getElem?_cons_succ] at h;simp only [DataW.weightsAll,List.mem_append];exact .inr (weights_all h m hm)
theorem int_of {W:World}{base n:Nat}{v:Value}{x:DataW H × List MemPlace}(h:DataW.trod enc Tryz.prog W base (fun _=>true) true n 3 [v]=some x):∃z,v= .int .i64 z∧ -9223372036854775808≤z∧z≤9223372036854775807:=by
 cases n with
 | zero=>simp [DataW.trod] at h
 | succ n=>
   unfold DataW.trod at h;rw [Tryz.underlying3] at h;cases v with
   | int k z=>
     simp only at h;split at h
     · rename_i hk
       have e1:IntKind.i64.min= -9223372036854775808:=by decide
       have e2:IntKind.i64.max=9223372036854775807:=by decide
       simp_all [Lit.wf]
     · simp at h
   | _=>simp at h
theorem bytes_sz {W:World}{base n:Nat}{v:Value}{x:DataW H × List MemPlace}(h:DataW.trod enc Tryz.prog W base (fun _=>true) true n 42 [v]=some x):
 ∃l:List Int,Bytes (heapOf W) v l∧U8 l∧(Small x.1 42→l.length≤reachBytes):=by
 rcases open_ints Tryz.underlying42 Tryz.underlying5 cells_u8 h with⟨e,_⟩ | ⟨a,len,cap,zs,e,_,hl,hm,hz,hx,hcell,hwf⟩
 · simp at e
   subst e;exact⟨[],RowIn.nil _ _,fun z hz=>(by cases hz),fun _=>Nat.zero_le _⟩
 · simp at e
   subst e;simp only [if_true] at hz;have hlen:(zs.take len).length=len:=by simp;omega
   refine⟨zs.take len,⟨by simp,some a,cap,by rw [hlen],by omega,hm,fun h0=> ?_⟩,fun z hz'=> ?_,fun hs=> ?_⟩
   · obtain⟨ab,ao,spot⟩:=a
     have hspot:spot=none:=by simpa [Addr.add] using World.cell?_spot (hcell 0 (by omega))
     subst hspot;refine⟨ab,ao,rfl,fun i hi=> ?_⟩;have hc:=hcell i (by omega);rw [Addr.add_lit] at hc;rw [heap_cell hc];have h1:i<zs.length:=by omega
     have h2:i<len:=by omega
     simp [h1,h2]
   · have:=hwf z (List.mem_of_mem_take hz')
     simp only [Lit.wf,Bool.and_eq_true,decide_eq_true_eq] at this;have e1:IntKind.u8.min=0:=by decide
     have e2:IntKind.u8.max=255:=by decide
     rw [e1,e2] at this;exact this
   · subst hx
     have h2:=hs (((lits .u8 (zs.take len)).length+(lits .u8 (zs.drop len)).length)*Tryz.prog.bytesOf 5:Nat) (by
      simp only [DataW.weights,Tryz.underlying42]
      exact List.mem_cons_self)
     rw [bytes_u8] at h2;simp [lits] at h2
     rw [hlen];omega
theorem ints_sz {W:World}{base n:Nat}{v:Value}{x:DataW H × List MemPlace}(h:DataW.trod enc Tryz.prog W base (fun _=>true) true n 22 [v]=some x):
 ∃l:List Int,Ints (heapOf W) v l∧(∀z∈l, -9223372036854775808≤z∧z≤9223372036854775807)∧(Small x.1 22→l.length*8≤reachBytes):=by
 rcases open_ints Tryz.underlying22 Tryz.underlying3 cells_int h with⟨e,_⟩ | ⟨a,len,cap,zs,e,_,hl,hm,hz,hx,hcell,hwf⟩
 · simp at e
   subst e;exact⟨[],RowIn.nil _ _,fun z hz=>(by cases hz),fun _=>Nat.zero_le _⟩
 · simp at e
   subst e;simp only [if_true] at hz;have hlen:(zs.take len).length=len:=by simp;omega
   refine⟨zs.take len,⟨by simp,some a,cap,by rw [hlen],by omega,hm,fun h0=> ?_⟩,fun z hz'=> ?_,fun hs=> ?_⟩
   · obtain⟨ab,ao,spot⟩:=a
     have hspot:spot=none:=by simpa [Addr.add] using World.cell?_spot (hcell 0 (by omega))
     subst hspot;refine⟨ab,ao,rfl,fun i hi=> ?_⟩;have hc:=hcell i (by omega);rw [Addr.add_lit] at hc;rw [heap_cell hc];have h1:i<zs.length:=by omega
     have h2:i<len:=by omega
     simp [h1,h2]
   · have:=hwf z (List.mem_of_mem_take hz')
     simp only [Lit.wf,Bool.and_eq_true,decide_eq_true_eq] at this;have e1:IntKind.i64.min= -9223372036854775808:=by decide
     have e2:IntKind.i64.max=9223372036854775807:=by decide
     rw [e1,e2] at this;exact this
   · subst hx
     have h2:=hs (((lits .i64 (zs.take len)).length+(lits .i64 (zs.drop len)).length)*Tryz.prog.bytesOf 3:Nat) (by
      simp only [DataW.weights,Tryz.underlying22]
      exact List.mem_cons_self)
     rw [bytes_int] at h2;simp [lits] at h2
     rw [hlen];omega
def ItemCells(h:Hp)(cs:List Value)(y:ItemV):Prop:= ∃kv vv,cs= [kv,vv,.int .i64 y.child,.int .i64 y.size]∧Bytes h kv y.key∧Bytes h vv y.value
def ItemFits(y:ItemV):Prop:=U8 y.key∧U8 y.value∧(-9223372036854775808≤y.child∧y.child≤9223372036854775807)∧(-9223372036854775808≤y.size∧y.size≤9223372036854775807)
def ItemSized(y:ItemV):Prop:=y.key.length≤reachBytes∧y.value.length≤reachBytes
theorem item_of {W:World}{base n:Nat}{cs:List Value}{x:DataW H × List MemPlace}(h:DataW.trod enc Tryz.prog W base (fun _=>true) true n 89 cs=some x):
 ∃y:ItemV,ItemCells (heapOf W) cs y∧ItemFits y∧(Small x.1 89→ItemSized y):=by
 obtain⟨xs,m,rfl,rfl,hl,hlen,hf⟩:=DataW.trod_struct Tryz.underlying89 h;rw [cells_item] at hl;match cs,hl with
 | [c0,c1,c2,c3],_=>
   match xs,hlen with
   | [x0,x1,x2,x3],_=>
     have f0:=hf 0 _ rfl;have f1:=hf 1 _ rfl;have f2:=hf 2 _ rfl;have f3:=hf 3 _ rfl;simp only [List.getElem?_cons_zero,List.getElem?_cons_succ] at f0 f1 f2 f3;obtain⟨K,hk,uk,sk⟩:=bytes_sz f0;obtain⟨V,hv,uv,sv⟩:=bytes_sz f1;obtain⟨c,rfl,hc⟩:=int_of f2;obtain⟨s,rfl,hs⟩:=int_of f3;refine⟨⟨K,V,c,s⟩,⟨c0,c1,rfl,hk,hv⟩,⟨uk,uv,hc,hs⟩,fun hw=>⟨sk fun m hm=>hw m ?_,sv fun m hm=>hw m ?_⟩⟩
     · simp only [DataW.weights,Tryz.underlying89,List.map_cons,List.map_nil,DataW.weightsEach,List.mem_append]
       exact .inl hm
     · simp only [DataW.weights,Tryz.underlying89,List.map_cons,List.map_nil,DataW.weightsEach,List.mem_append]
       exact .inr (.inl hm)
theorem zip_range {α β:Type}(f:Nat→α)(g:Nat→β)(n:Nat):((List.range n).map f).zip ((List.range n).map g)=(List.range n).map fun i=>(f i,g i):=by
 rw [List.zip_map']
theorem rows_of {W:World}{base n:Nat}{t e:TypeId}{k:Nat}(ht:Tryz.prog.underlying t=some (.slice e))(hk:Tryz.prog.cellsOf e=k)(hk0:0<k){v:Value}{x:DataW H × List MemPlace}(h:DataW.trod enc Tryz.prog W base (fun _=>true) true n t [v]=some x):
 ∃(len n':Nat) (C:Nat→List Value) (D:Nat→DataW H) (Pl:Nat→List MemPlace),(∀i,i<len→(C i).length=k∧DataW.trod enc Tryz.prog W base (fun _=>true) true n' e (C i)=some (D i,Pl i))∧
  RowIn (heapOf W) k v len ((List.range len).flatMap C)∧(Small x.1 t→len*Tryz.prog.bytesOf e≤reachBytes∧∀i,i<len→Small (D i) e):=by
 rcases open_slice ht h with⟨e1,e2⟩ | ⟨a,len,cap,m,n',D,Pl,e1,_,hl,hm,hmm,hx,hc⟩
 · simp at e1
   subst e1;exact⟨0,0,fun _=> [],fun _=> .nil,fun _=> [],fun i hi=>absurd hi (by omega),RowIn.nil _ _,fun _=>⟨by simp,fun i hi=>absurd hi (by omega)⟩⟩
 · simp at e1
   subst e1;simp only [if_true] at hmm;subst hmm;rw [hk] at hc;obtain⟨C,hC⟩:=choose_lt (α:=List Value) (n:=m) (p:=fun i cs'=>W.cells? base (a.add (i*k)) k=some cs'∧DataW.trod enc Tryz.prog W base (fun _=>true) true n' e cs'=some (D i,Pl i)) hc
   have hC2:∀i,i<m→(C i).length=k∧∀j,j<k→W.cell? ((a.add (i*k)).add j)=(C i)[j]? :=fun i hi=>by
    obtain⟨_,h2,h3⟩:=World.cells?_some (hC i hi).1;exact⟨h2,h3⟩
   refine⟨len,n',C,D,Pl,fun i hi=>⟨(hC2 i (by omega)).1,(hC i (by omega)).2⟩,⟨?_,some a,m,rfl,hl,hm,fun h0=> ?_⟩,fun hs=>⟨?_,fun i hi w hw=>hs w ?_⟩⟩
   · have e2:∀q,q≤m→((List.range q).flatMap C).length=q*k:=by
      intro q;induction q with
      | zero=>intro _;simp
      | succ q ih=>
        intro hq;rw [List.range_succ,List.flatMap_append,List.length_append,ih (by omega)];simp only [List.flatMap_cons,List.flatMap_nil,List.append_nil,(hC2 q (by omega)).1];rw [Nat.succ_mul]
     exact e2 len hl
   · obtain⟨ab,ao,spot⟩:=a
     have hspot:spot=none:=by
      have h1:=(hC2 0 (by omega)).2 0 hk0;rw [List.getElem?_eq_getElem (by rw [(hC2 0 (by omega)).1];exact hk0)] at h1;have:=World.cell?_spot h1
      simpa [Addr.add] using this
     subst hspot;refine⟨ab,ao,rfl,fun i hi=> ?_⟩
     have e2:∀q,q≤m→∀i,i<q*k→((List.range q).flatMap C)[i]? =(C (i / k))[i % k]? :=by
      intro q;induction q with
      | zero=>intro _ i hi;omega
      | succ q ih=>
        intro hq i hi
        have hlen:((List.range q).flatMap C).length=q*k:=by
         have e3:∀r,r≤m→((List.range r).flatMap C).length=r*k:=by
          intro r;induction r with
          | zero=>intro _;simp
          | succ r ihr=>
            intro hr;rw [List.range_succ,List.flatMap_append,List.length_append,ihr (by omega)];simp only [List.flatMap_cons,List.flatMap_nil,List.append_nil,(hC2 r (by omega)).1];rw [Nat.succ_mul]
         exact e3 q (by omega)
        rw [List.range_succ,List.flatMap_append];rcases Nat.lt_or_ge i (q*k) with h1 | h1
        · rw [List.getElem?_append_left (by rw [hlen];exact h1)]
          exact ih (by omega) i h1
        · rw [List.getElem?_append_right (by rw [hlen];exact h1),hlen]
          have h2:i<q*k+k:=by rw [Nat.succ_mul] at hi;exact hi
          have h3:i / k=q:=by
           have:q≤i / k:=(Nat.le_div_iff_mul_le hk0).2 h1
           have:i / k<q+1:=(Nat.div_lt_iff_lt_mul hk0).2 (by rw [Nat.succ_mul];exact h2)
           omega
          have h4:i % k=i-q*k:=by
           have:=Nat.div_add_mod i k
           rw [h3,Nat.mul_comm] at this;omega
          rw [h3,h4];simp
     rw [e2 len hl i hi];have hik:i / k<len:=(Nat.div_lt_iff_lt_mul hk0).2 hi;have h5:=(hC2 (i / k) (by omega)).2 (i % k) (Nat.mod_lt _ hk0);rw [List.getElem?_eq_getElem (by rw [(hC2 (i / k) (by omega)).1];exact Nat.mod_lt _ hk0)] at h5 ⊢;rw [add_add,Addr.add_lit,show i / k*k+i % k=i by rw [Nat.mul_comm];exact Nat.div_add_mod i k] at h5;exact heap_cell h5
   · subst hx
     have h2:=hs ((((List.range len).map D).length+((List.range (m-len)).map fun j=>D (len+j)).length)*Tryz.prog.bytesOf e:Nat) (by
      simp only [DataW.weights,ht]
      exact List.mem_cons_self)
     simp only [List.length_map,List.length_range] at h2;exact Nat.le_trans (Nat.mul_le_mul_right _ (by omega)) h2
   · subst hx
     simp only [DataW.weights,ht,List.mem_cons,List.mem_append];exact .inr (.inl (weights_all (l:=(List.range len).map D) (i:=i) (by simp [hi]) w hw))
instance:Inhabited ItemV:=⟨⟨[],[],0,0⟩⟩
instance:Inhabited PageV:=⟨⟨0,0,[],[],0⟩⟩
instance:Inhabited NumV:=⟨⟨0,default⟩⟩
theorem items_of {W:World}{base n:Nat}{v:Value}{x:DataW H × List MemPlace}(h:DataW.trod enc Tryz.prog W base (fun _=>true) true n 81 [v]=some x):
 ∃l:List ItemV,ItemsIn (heapOf W) v l∧(∀y∈l,ItemFits y)∧(Small x.1 81→l.length*64≤reachBytes∧∀y∈l,ItemSized y):=by
 obtain⟨len,n',C,D,Pl,hC,hr,hs⟩:=rows_of Tryz.underlying81 cells_item (by omega) h
 obtain⟨Y,hY⟩:=choose_lt (α:=ItemV × Value × Value) (n:=len) (p:=fun i y=>C i= [y.2.1,y.2.2,.int .i64 y.1.child,.int .i64 y.1.size]∧(Bytes (heapOf W) y.2.1 y.1.key∧Bytes (heapOf W) y.2.2 y.1.value)∧ItemFits y.1∧(Small (D i) 89→ItemSized y.1)) (fun i hi=>by
  obtain⟨y,⟨kv,vv,e,h1,h2⟩,h3,h4⟩:=item_of (hC i hi).2
  exact⟨(y,kv,vv),e,⟨h1,h2⟩,h3,h4⟩)
 refine⟨(List.range len).map fun i=>(Y i).1,⟨(List.range len).map fun i=>(Y i).2,by simp,?_,?_⟩,?_,fun hw=>⟨?_,?_⟩⟩
 · rw [zip_range]
   have e1:(List.range len).flatMap C=((List.range len).map fun i=>((Y i).2,(Y i).1)).flatMap fun x=> [x.1.1,x.1.2,.int .i64 x.2.child,.int .i64 x.2.size]:=by
    rw [List.flatMap_map];exact flatMap_congr_range fun i hi=>(hY i hi).1
   rw [← e1];simpa using hr
 · intro i hx hl
   simp at hl
   simp only [List.getElem_map,List.getElem_range];exact(hY i hl).2.1
 · intro y hy
   obtain⟨i,hi,rfl⟩:=List.mem_map.1 hy;exact(hY i (List.mem_range.1 hi)).2.2.1
 · have:=(hs hw).1
   rw [bytes_item] at this;simpa using this
 · intro y hy
   obtain⟨i,hi,rfl⟩:=List.mem_map.1 hy;exact(hY i (List.mem_range.1 hi)).2.2.2 ((hs hw).2 i (List.mem_range.1 hi))
def PageFits(g:PageV):Prop:=(∀y∈g.items,ItemFits y)∧U8 g.data∧(-9223372036854775808≤g.kind∧g.kind≤9223372036854775807)∧(-9223372036854775808≤g.level∧g.level≤9223372036854775807)∧(-9223372036854775808≤g.next∧g.next≤9223372036854775807)
def PageSized(g:PageV):Prop:=g.items.length*64≤reachBytes∧(∀y∈g.items,ItemSized y)∧g.data.length≤reachBytes
def PageCells(h:Hp)(cs:List Value)(g:PageV):Prop:= ∃vi vd,cs= [.int .i64 g.kind,.int .i64 g.level,vi,vd,.int .i64 g.next]∧ItemsIn h vi g.items∧Bytes h vd g.data
theorem page_of {W:World}{base n:Nat}{cs:List Value}{x:DataW H × List MemPlace}(h:DataW.trod enc Tryz.prog W base (fun _=>true) true n 83 cs=some x):
 ∃g:PageV,PageCells (heapOf W) cs g∧PageFits g∧(Small x.1 83→PageSized g):=by
 obtain⟨xs,m,rfl,rfl,hl,hlen,hf⟩:=DataW.trod_struct Tryz.underlying83 h;rw [cells_page] at hl;match cs,hl with
 | [c0,c1,c2,c3,c4],_=>
   match xs,hlen with
   | [x0,x1,x2,x3,x4],_=>
     have f0:=hf 0 _ rfl;have f1:=hf 1 _ rfl;have f2:=hf 2 _ rfl;have f3:=hf 3 _ rfl;have f4:=hf 4 _ rfl;simp only [List.getElem?_cons_zero,List.getElem?_cons_succ] at f0 f1 f2 f3 f4;obtain⟨k,rfl,hk⟩:=int_of f0;obtain⟨l,rfl,hl⟩:=int_of f1;obtain⟨I,hI,fI,sI⟩:=items_of f2;obtain⟨B,hB,uB,sB⟩:=bytes_sz f3;obtain⟨nx,rfl,hn⟩:=int_of f4;refine⟨⟨k,l,I,B,nx⟩,⟨c2,c3,rfl,hI,hB⟩,⟨fI,uB,hk,hl,hn⟩,fun hw=> ?_⟩
     have w2:=sI fun m hm=>hw m (by
      simp only [DataW.weights,Tryz.underlying83,List.map_cons,List.map_nil,DataW.weightsEach,List.mem_append]
      exact .inr (.inr (.inl hm)))
     have w3:=sB fun m hm=>hw m (by
      simp only [DataW.weights,Tryz.underlying83,List.map_cons,List.map_nil,DataW.weightsEach,List.mem_append]
      exact .inr (.inr (.inr (.inl hm))))
     exact⟨w2.1,w2.2,w3⟩
theorem num_of {W:World}{base n:Nat}{cs:List Value}{x:DataW H × List MemPlace}(h:DataW.trod enc Tryz.prog W base (fun _=>true) true n 91 cs=some x):
 ∃(y:NumV) (vi vd:Value),cs= [.int .i64 y.no,.int .i64 y.page.kind,.int .i64 y.page.level,vi,vd,.int .i64 y.page.next]∧(ItemsIn (heapOf W) vi y.page.items∧Bytes (heapOf W) vd y.page.data)∧
  ((-9223372036854775808≤y.no∧y.no≤9223372036854775807)∧PageFits y.page)∧(Small x.1 91→PageSized y.page):=by
 obtain⟨xs,m,rfl,rfl,hl,hlen,hf⟩:=DataW.trod_struct Tryz.underlying91 h;rw [cells_num] at hl;match cs,hl with
 | [c0,c1,c2,c3,c4,c5],_=>
   match xs,hlen with
   | [x0,x1],_=>
     have f0:=hf 0 _ rfl;have f1:=hf 1 _ rfl;simp only [List.getElem?_cons_zero,List.getElem?_cons_succ] at f0 f1;obtain⟨k,rfl,hk⟩:=int_of f0;obtain⟨g,⟨vi,vd,e,h1,h2⟩,hfit,hsz⟩:=page_of f1;cases e;refine⟨⟨k,g⟩,c3,c4,rfl,⟨h1,h2⟩,⟨hk,hfit⟩,fun hw=>hsz fun m hm=>hw m ?_⟩;simp only [DataW.weights,Tryz.underlying91,List.map_cons,List.map_nil,DataW.weightsEach,List.mem_append];exact .inr (.inl hm)
theorem nums_of {W:World}{base n:Nat}{v:Value}{x:DataW H × List MemPlace}(h:DataW.trod enc Tryz.prog W base (fun _=>true) true n 23 [v]=some x):
 ∃l:List NumV,NumsIn (heapOf W) v l∧(∀y∈l,PageFits y.page)∧(Small x.1 23→l.length*80≤reachBytes∧∀y∈l,PageSized y.page):=by
 obtain⟨len,n',C,D,Pl,hC,hr,hs⟩:=rows_of Tryz.underlying23 cells_num (by omega) h
 obtain⟨Y,hY⟩:=choose_lt (α:=NumV × Value × Value) (n:=len) (p:=fun i y=>C i= [.int .i64 y.1.no,.int .i64 y.1.page.kind,.int .i64 y.1.page.level,y.2.1,y.2.2,.int .i64 y.1.page.next]∧(ItemsIn (heapOf W) y.2.1 y.1.page.items∧Bytes (heapOf W) y.2.2 y.1.page.data)∧PageFits y.1.page∧(Small (D i) 91→PageSized y.1.page)) (fun i hi=>by
  obtain⟨y,vi,vd,e,h1,h3,h4⟩:=num_of (hC i hi).2
  exact⟨(y,vi,vd),e,h1,h3.2,h4⟩)
 refine⟨(List.range len).map fun i=>(Y i).1,⟨(List.range len).map fun i=>(Y i).2,by simp,?_,?_⟩,?_,fun hw=>⟨?_,?_⟩⟩
 · rw [zip_range]
   have e1:(List.range len).flatMap C=((List.range len).map fun i=>((Y i).2,(Y i).1)).flatMap numCells:=by
    rw [List.flatMap_map];exact flatMap_congr_range fun i hi=>(hY i hi).1
   rw [← e1];simpa using hr
 · intro i hx hl
   simp at hl
   simp only [List.getElem_map,List.getElem_range];exact(hY i hl).2.1
 · intro y hy
   obtain⟨i,hi,rfl⟩:=List.mem_map.1 hy;exact(hY i (List.mem_range.1 hi)).2.2.1
 · have:=(hs hw).1
   rw [bytes_num] at this;simpa using this
 · intro y hy
   obtain⟨i,hi,rfl⟩:=List.mem_map.1 hy;exact(hY i (List.mem_range.1 hi)).2.2.2 ((hs hw).2 i (List.mem_range.1 hi))
end
end Go.Proofs.YtiegeadmgpanoaaGreatDoor.L5
