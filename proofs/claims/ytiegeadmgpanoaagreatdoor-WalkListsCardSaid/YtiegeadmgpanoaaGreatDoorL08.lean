/- The library's Grow and Concat at rows of runs. By walks; the conditions stand as hypotheses. -/
import Derived.Test.YtiegeadmgpanoaaGreatDoorL06
import Derived.Test.YtiegeadmgpanoaaGreatDoorL04
set_option maxRecDepth 100000
set_option maxHeartbeats 16000000
namespace Go.Proofs.YtiegeadmgpanoaaGreatDoor.D3
open ChangeShapes WideShapes ChangeAt RowKit Sl D2
theorem wK:(Tryz.prog.info? 199).map (fun i=>(i.zero,i.size,i.bytes))=some (some (.agg #[.int .i64 0,.int .i64 0]),2,16):=by kernel_rfl
theorem Iq(n:Nat)(h0:0<n)(hn:n≤4294967296)(wx:World):∃(cap:Nat) (cells:List Value),n≤cap∧cap≤maxLen∧cells.length=cap*2∧
 (Builtin.append_ #[195,3] 195 #[.slice none 0 0,.int .i64 n]).run Tryz.prog wx= .ok (.slice (some ⟨wx.heap.size,0,none⟩) n cap) (wx.drew.alloc (.cells cells.toArray 199)):=by
 obtain⟨i0,hi,hz0,hz1,jg⟩:=info_parts wK;have hr:=Lib.run_append_nil_zeros (P:=Tryz.prog) wx 195 3 195 199 i0 (.agg #[.int .i64 0,.int .i64 0]) .i64 .i64 Tryz.underlying195 Tryz.underlying3 hi hz0 n h0 (by omega) (by omega) (by rw [jg];omega);have hg:=grownCap_ge wx n 0 199
 refine⟨grownCap wx n 0 199,(Builtin.zeroCells #[.int .i64 0,.int .i64 0] n++Builtin.zeroCells #[.int .i64 0,.int .i64 0] (grownCap wx n 0 199-n)).toList,hg,grownCap_le_maxLen wx n 0 _ (by simp only [maxLen];omega),?_,hr⟩;rw [Array.length_toList,Array.size_append,su,su];show n*2+ _*2=_
 omega
theorem EU {cap:Nat}{cells:List Value}{F:Pr}{w:World}(hF:Sat F w)(h1:cap≤maxLen)(h2:cells.length=cap*2):
 Sat ((Row 199 2 (.slice (some ⟨w.heap.size,0,none⟩) 0 cap) 0 []).star F) (w.drew.alloc (.cells cells.toArray 199)):=
 Row.mk' (sp:=cells) (by simp) (by simpa using h2) (aG _) h1 (by simpa using (hF.drew).alloc (.cells cells.toArray 199))
theorem KL(n:Nat)(hn:n≤4294967296)(F:Pr)(w:World)(hF:Sat F w):
 Calls Tryz.prog 154 #[.slice none 0 0,.int .i64 n] w fun e w'=>
  ∃v,e= .returned v∧Sat ((Row 199 2 v 0 []).star F) w'∧dN w w':=by
 by_cases h0:0<n
 · obtain⟨cap,cells,h1,h2,h3,h4⟩:=Iq n h0 hn w
   have HR:=hQ h4;have HF:=hQ (EU hF h2 h3);clear h4 hF h3;go_enter Tryz.func154,Tryz.ntmps154
   go_wp2_with (at_builtin;refine Lib.wpList_append_run _ rfl _ _ _ _ rfl _ _ rfl rfl _ _ HR.af ?_)
   go_ret;exact⟨_,rfl,HF.af,((dN.refl w).drew).alloc _⟩
 · have:n=0:=by omega
   subst this;go_enter Tryz.func154,Tryz.ntmps154
   go_wp2;go_ret;exact⟨.slice none 0 0,rfl,by rw [Row.nil,Pr.fK];exact hF,dN.refl w⟩
def total(ps:List (Value × Nat × List Value)):Nat:=(ps.map fun x=>x.2.1).sum
def flat(ps:List (Value × Nat × List Value)):List Value:=ps.flatMap fun x=>x.2.2
theorem xw(ps:List (Value × Nat × List Value))(k:Nat)(h:k<ps.length):total (ps.take (k+1))=total (ps.take k)+ps[k].2.1:=by
 unfold total;rw [aF h,aI,List.sum_append];simp
theorem Ir(ps:List (Value × Nat × List Value))(k:Nat)(h:k<ps.length):flat (ps.take (k+1))=flat (ps.take k)++ps[k].2.2:=by
 unfold flat;rw [aF h,aN];simp
theorem xx(ps:List (Value × Nat × List Value))(k:Nat):total (ps.take k)≤total ps:=by
 unfold total;have:=dc k ps
 have h2:(ps.map fun x=>x.2.1).sum=((ps.take k).map fun x=>x.2.1).sum+((ps.drop k).map fun x=>x.2.1).sum:=by
  rw [← List.sum_append, ← aI,this]
 omega
theorem EV(h:Hp)(sv:Value)(ps:List (Value × Nat × List Value))(hs:gj h 1 sv ps.length (ps.map fun x=>x.1))
 (hps:∀x∈ps,gj h 2 x.1 x.2.1 x.2.2∧∀u∈x.2.2,u.oneCell'=true) (hb:total ps≤4294967296) (hlen:ps.length≤65536) (F:Pr) (w:World) (hF:Sat ((Pr.own h).star F) w):
 Calls Tryz.prog 137 #[sv] w fun e w'=>
  ∃v,e= .returned v∧Sat ((Row 199 2 v (total ps) (flat ps)).star ((Pr.own h).star F)) w'∧dN w w':=by
 obtain⟨_,a,c,rfl,_,_,hcell⟩:=hs
 have cells:∀(k:Nat) (hk:k<ps.length) (wx:World),h.le wx→∃b off a' n' c',a=some ⟨b,off,none⟩∧ps[k].1= .slice a' n' c'∧n'=ps[k].2.1∧wx.cell? ⟨b,off+k,none⟩=some (.slice a' n' c'):=by
  intro k hk wx hle;obtain⟨b,off,e1,hc⟩:=hcell (by omega);obtain⟨_,a',c',e2,_⟩:=(hps _ (aE hk)).1;refine⟨b,off,a',_,c',e1,e2,rfl,?_⟩;refine Hp.kG hle ((hc k (by omega)).trans ?_);simp [hk,e2]
 have HC:=hQ cells;have HL:=hQ hF;have HPS:=hQ hps;have hle:=hF.own;clear cells hF hcell hps;go_enter Tryz.func137,Tryz.ntmps137
 go_wp2;go_loop [3,11] (fun s i=> ∃k:Nat,k≤ps.length∧i= .int .i64 k∧s= .int .i64 (total (ps.take k):Nat)) (fun _ i=>ps.length-(intOf i).toNat)
 case atStart=>exact⟨0,aG _,rfl,rfl⟩
 case round=>
  obtain⟨k,hk,rfl,rfl⟩:=hrel;have ht:=xx ps k;by_cases hlt:k<ps.length
  · obtain⟨b,off,a',n',c',rfl,e2,e3,e4⟩:=HC.af k hlt w hle
    have hs1:=xw ps k hlt;have Xg:=xx ps (k+1);rw [← e3] at hs1;have ig:=hQ hs1;have hn':total (ps.take k)+n'≤4294967296:=by omega
    clear hs1 Xg e2 e3;generalize total (ps.take k)=tk at*;go_wp2;go_round
    case rel=>exact⟨k+1,by omega,by go_num,by rw [ig.af];go_num⟩
    case measure=>simp [intOf];omega
  · have hkl:k=ps.length:=by omega
    subst hkl;rw [bE] at*;go_wp2_with (go_at_call 154;refine(KL _ hb _ _ HL.af).mono ?_;rintro e w' ⟨v0,rfl,hg,hst⟩)
    have HG:=hQ hg;clear hg;go_loopw [6,27] (fun v i wr=> ∃k:Nat,k≤ps.length∧i= .int .i64 k∧dN w wr∧Sat ((Row 199 2 v (total (ps.take k)) (flat (ps.take k))).star ((Pr.own h).star F)) wr) (fun _ i _=>ps.length-(intOf i).toNat)
    case atStart=>exact⟨0,aG _,rfl,hst,HG.af⟩
    case round=>
     obtain⟨k,hk,rfl,jq,hrow⟩:=hrel;by_cases hlt:k<ps.length
     · have A0:=hrow.right.own
       obtain⟨b,off,a',n',c',rfl,e2,e3,e4⟩:=HC.af k hlt _ A0;have hx:=HPS.af _ (aE hlt);rw [e2, ← e3] at hx;have hs1:=xw ps k hlt;have hs2:=Ir ps k hlt;have Xg:=xx ps (k+1);rw [← e3] at hs1;have ig:=hQ hs1;have lK:=hQ hs2;have hn':total (ps.take k)+n'≤4294967296:=by omega
       have HX:=hQ hx;have EW:=hQ hrow;have vC:=hQ A0;have HI:=hQ (info_parts wK);clear hs1 hs2 Xg e2 e3 hx hrow A0 hst hle;generalize total (ps.take k)=tk at*;generalize ps[k].2.2=news at*;obtain⟨i0,hi,hz0,hz1,jg⟩:=HI.af
       go_wp2_with (at_builtin;refine gB rfl _ _ _ rfl 199 i0 (.agg #[.int .i64 0,.int .i64 0]) 2 16 Tryz.underlying195 hi hz0 hz1 jg rfl _ _ _ rfl EW.af h vC.af _ _ _ rfl HX.af.1 HX.af.2 (by simp only [maxLen];omega) (by omega) ?_;intro v' w1 hJ hgr _;have ja:=hQ hJ;clear hJ)
       go_roundw
       case rel=>exact⟨k+1,by omega,by go_num,jq.eH hgr,by rw [ig.af,lK.af];exact ja.af⟩
       case measure=>simp [intOf];omega
     · have hkl:k=ps.length:=by omega
       subst hkl;rw [bE] at hrow;have EW:=hQ hrow;clear hrow;go_wp2;go_ret;exact⟨_,rfl,EW.af,jq⟩
end Go.Proofs.YtiegeadmgpanoaaGreatDoor.D3
namespace Go.Proofs.YtiegeadmgpanoaaGreatDoor.E3
open ChangeShapes WideShapes ChangeAt RowKit Sl Go.Shelf D2 D3
attribute [local go_sem] Oper.semAt_some
abbrev xy:=List (Int × Int) × (Int × Int) × List (Int × Int)
def iD(s:xy)(x:Int × Int):xy:=
 if x.2+1<s.2.1.1 then(s.1++ [x],s.2.1,s.2.2)
 else if s.2.1.2<x.1-1 then(s.1,s.2.1,s.2.2++ [x])
 else(s.1,(min s.2.1.1 x.1,max s.2.1.2 x.2),s.2.2)
def i6(rs:List (Int × Int))(lo hi:Int):xy:=rs.foldl iD ([],(lo,hi),[])
def mC(rs:List (Int × Int))(lo hi:Int):List (Int × Int):=(i6 rs lo hi).1++ [(i6 rs lo hi).2.1]++(i6 rs lo hi).2.2
def Small(x:Int × Int):Prop:=0≤x.1∧x.1≤x.2∧x.2≤4294967296
theorem vD(rs:List (Int × Int))(lo hi:Int):(i6 rs lo hi).1.length+(i6 rs lo hi).2.2.length≤rs.length:=by
 unfold i6;suffices h:∀(s:xy),(rs.foldl iD s).1.length+(rs.foldl iD s).2.2.length≤rs.length+(s.1.length+s.2.2.length) by simpa using h ([],(lo,hi),[])
 induction rs with
 | nil=>intro s;simp
 | cons x rs ih=>
   intro s;have:=ih (iD s x)
   simp only [List.foldl_cons,List.length_cons]
   have h2:(iD s x).1.length+(iD s x).2.2.length≤1+(s.1.length+s.2.2.length):=by
    unfold iD;split
    · simp;omega
    · split<;>simp<;>omega
   omega
theorem A_(rs:List (Int × Int))(lo hi:Int)(k:Nat)(h:k<rs.length):i6 (rs.take (k+1)) lo hi=iD (i6 (rs.take k) lo hi) rs[k]:=by
 unfold i6;rw [aF h,List.foldl_append];rfl
theorem NN {R:Nat}{lo hi m1 m2 n1 n2:Int}{F:Pr}{w:World}{o:Obj}(h:Sat ((fR R lo hi).star F) w)(e1:m1=n1)(e2:m2=n2):
 Sat ((fR R n1 n2).star F) ((((w.setCell ⟨R,0,none⟩ (.int .i64 m1)).setCell ⟨R,1,none⟩ (.int .i64 m2)).alloc o).drew):=by
 subst e1;subst e2;have h1:Sat ((fR R m1 hi).star F) (w.setCell ⟨R,0,none⟩ (.int .i64 m1)):=h.setCell (i:=0) _;have h2:Sat ((fR R m1 m2).star F) _:=h1.setCell (i:=1) (.int .i64 m2);exact(h2.alloc o).right.drew
abbrev kL(b:Nat)(n:Int):Pr:=Pr.pts b (.cells #[.int .u64 n] 201)
abbrev oR(b:Nat):Pr:=Pr.ex fun n:Int=>kL b n
theorem NP(p:Nat)(v:Value)(rs:List (Int × Int))(lo hi:Int)(hs:∀x∈rs,Small x)(Xh:Small (lo,hi))(hl:rs.length≤65536)(F:Pr)(w:World)(hF:Sat ((iu p v rs).star F) w):
 Calls Tryz.prog 108 #[.pointer (some ⟨p,0,none⟩),.int .i64 lo,.int .i64 hi] w fun e w'=>
  ∃(n:Int) (v':Value),e= .returned (.int .i64 n)∧Sat ((iu p v' (mC rs lo hi)).star F) w'∧dN w w':=by
 obtain⟨s1,s2,s3⟩:=Xh;dsimp only at s1 s2 s3;have HL:=hQ hF;clear hF;refine iC (n:=9) Tryz.func108 rfl ?_;simp only [Tryz.ntmps108,bu,List.length_cons,List.length_nil,Nat.reduceAdd,Nat.reduceSub,Array.replicate_succ,Array.replicate_zero,bB,a_,List.nil_append,List.cons_append]
 go_wp2_with (go_at_call 135;refine(KA _ _ _ _).mono ?_;rintro e w' ⟨rfl,rfl⟩)
 have HS:Sat ((((oR (w.heap.size+1)).star ((fR w.heap.size lo hi).star F))).star (jG p (w.heap.size+1+1) (w.heap.size+1+1+1) v rs))
  ((((w.alloc (.cells #[.int .i64 lo,.int .i64 hi] 199)).alloc (.cells #[.int .u64 0] 201)).alloc (.cells #[.pointer (some ⟨p,0,none⟩)] 155)).alloc (.cells #[.int .i64 lo,.int .i64 hi] 199)):=by
  have h0:=(((HL.af.alloc (.cells #[.int .i64 lo,.int .i64 hi] 199)).alloc (.cells #[.int .u64 0] 201)).alloc (.cells #[.pointer (some ⟨p,0,none⟩)] 155)).alloc (.cells #[.int .i64 lo,.int .i64 hi] 199);simp only [World.size_alloc] at h0
  have h1:Sat ((fR (w.heap.size+1+1+1) lo hi).star ((jj (w.heap.size+1+1) p).star ((kL (w.heap.size+1) 0).star ((fR w.heap.size lo hi).star ((iu p v rs).star F))))) _:=h0;unfold jG;simp only [Pr.fC,Pr.jR,Sat.qk];exact⟨(lo,hi),0,h1.perm (by dsimp only;ac_rfl)⟩
 have HR:dN w ((((w.alloc (.cells #[.int .i64 lo,.int .i64 hi] 199)).alloc (.cells #[.int .u64 0] 201)).alloc (.cells #[.pointer (some ⟨p,0,none⟩)] 155)).alloc (.cells #[.int .i64 lo,.int .i64 hi] 199)):=((((dN.refl w).alloc _).alloc _).alloc _).alloc _
 obtain⟨W0,Pw⟩:∃W0,((((w.alloc (.cells #[.int .i64 lo,.int .i64 hi] 199)).alloc (.cells #[.int .u64 0] 201)).alloc (.cells #[.pointer (some ⟨p,0,none⟩)] 155)).alloc (.cells #[.int .i64 lo,.int .i64 hi] 199))=W0:=⟨_,rfl⟩;rw [Pw] at HS HR ⊢;clear Pw HL;obtain⟨R,hR⟩:∃R,w.heap.size=R:=⟨_,rfl⟩;rw [hR] at HS ⊢;clear hR;have Xi:=hQ hs;clear hs;have HS:=hQ HS;have HR:=hQ HR
 refine jM 9 (gf:=152) rfl (enters_of Tryz.func152 (by kernel_rfl) rfl) (SH p (R+1+1) (R+1+1+1) v rs (by omega)) (fun _=>rfl)
  (fun _=>(oR (R+1)).star ((fR R lo hi).star F)) (fun _ _=>Pr.pure False) HS.af ?round ?done ?stop
 case round=>
  intro l' pre x W1 F1 _ hs;obtain⟨x1,x2⟩:=x;have ig:=hQ hs;clear hs;simp only [xf];gi_wp2
  have ny:Sat ((fR W1.heap.size x1 x2).star ((((oR (R+1)).star ((fR R lo hi).star F)).star (jG p (R+1+1) (R+1+1+1) v rs)).star F1)) _:=ig.af.alloc (.cells #[.int .i64 x1,.int .i64 x2] 199);refine⟨(fR W1.heap.size x1 x2).star (((oR (R+1)).star ((fR R lo hi).star F)).star (jG p (R+1+1) (R+1+1+1) v rs)),(dN.refl _).alloc _,ny.perm (by ac_rfl),?_⟩;clear ny ig
  generalize W1.heap.size=B;intro F2 W2 _ hs2;simp only [Pr.fC,Pr.jR,Sat.qk] at hs2;obtain⟨n,hs2⟩:=hs2;have h1:Sat ((kL (R+1) n).star ((fR B x1 x2).star (((fR R lo hi).star F).star ((jG p (R+1+1) (R+1+1+1) v rs).star F2)))) W2:=hs2.perm (by ac_rfl);have r1:W2.cell? ⟨R+1,0,none⟩=some (.int .u64 n):=by rw [cell_of_heap h1.dL];rfl
  have r2:W2.cell? ⟨B,0,none⟩=some (.int .i64 x1):=by rw [cell_of_heap h1.right.dL];rfl
  have r3:W2.cell? ⟨B,1,none⟩=some (.int .i64 x2):=by rw [cell_of_heap h1.right.dL];rfl
  have r4:=frozen_of_heap h1.dL 0;have z1:=h1.lt;have H1:=hQ h1;clear h1 hs2;gi_wp2_with (refine⟨trivial,?_⟩;gi_at_call 136;refine(CallsIn.inRound _ (callsIn_wide.2 (Ck _ _ _ _))).mono ?_;rintro e w' ⟨⟨m,rfl⟩,rfl⟩)
  have h2:Sat ((kL (R+1) m).star _) (W2.setCell ⟨R+1,0,none⟩ (.int .u64 m)):=H1.af.setCell (i:=0) (.int .u64 m);have h3:=(h2.alloc (.cells #[.int .i64 x1,.int .i64 x2] 199)).right;refine⟨((dN.refl _).setCell _ _).alloc _,?_⟩;simp only [Pr.fC,Sat.qk];exact⟨m,(h3.perm (Pr.eD _ _ _)).right.perm (by ac_rfl)⟩
 case done=>
  intro D xs W2 _ hst hs;unfold jG at hs;simp only [Pr.fC,Pr.jR,Sat.qk] at hs;obtain⟨⟨a,b⟩,n,hs⟩:=hs;have h1:Sat ((fR (R+1+1+1) a b).star ((jj (R+1+1) p).star ((iu p v rs).star ((fR R lo hi).star ((Pr.pts D (.deferred (some []))).star ((kL (R+1) n).star F)))))) W2:=hs.perm (by dsimp only;ac_rfl);have h2:=h1.right.right;clear hs h1
  have h3:Sat ((Pr.pts p (.cells #[v] 197)).star ((Row 199 2 v rs.length (eS rs)).star ((fR R lo hi).star ((Pr.pts D (.deferred (some []))).star ((kL (R+1) n).star F))))) W2:=h2.perm (by unfold iu;ac_rfl);have r1:W2.cell? ⟨p,0,none⟩=some v:=by rw [cell_of_heap h3.dL];rfl
  obtain⟨a0,c0,rfl,_,_⟩:=Row.read h3.right;have HI:=hQ (info_parts wK);have H3:=hQ h3;have eR:=hQ (HR.af.trans hst);clear h2 h3 hst HS HR;go_wp2
  go_loopw [10,11,32] (fun vb va i wr=> ∃(k:Nat),k≤rs.length∧i= .int .i64 k∧dN w wr∧Small (i6 (rs.take k) lo hi).2.1∧
   Sat ((Row 199 2 vb (i6 (rs.take k) lo hi).1.length (eS (i6 (rs.take k) lo hi).1)).star ((Row 199 2 va (i6 (rs.take k) lo hi).2.2.length (eS (i6 (rs.take k) lo hi).2.2)).star
    ((fR R (i6 (rs.take k) lo hi).2.1.1 (i6 (rs.take k) lo hi).2.1.2).star ((iu p (.slice a0 rs.length c0) rs).star ((Pr.pts D (.deferred (some []))).star ((kL (R+1) n).star F)))))) wr) (fun _ _ i _=>rs.length-(intOf i).toNat)
  case atStart=>
   refine⟨0,aG _,rfl,eR.af,⟨s1,s2,s3⟩,?_⟩;show Sat ((Row _ 2 (.slice none 0 0) 0 []).star ((Row _ 2 (.slice none 0 0) 0 []).star _)) _
   rw [Row.nil,Pr.fK,Pr.fK];exact H3.af.perm (by unfold iu;ac_rfl)
  case round=>
   obtain⟨k,hk,rfl,jq,Qh,hinv⟩:=hrel;by_cases hlt:k<rs.length
   · have hx:=Xi.af _ (aE hlt)
     have SV:=A_ rs lo hi k hlt;have hlen:=vD (rs.take k) lo hi;have hlk:(rs.take k).length≤k:=List.length_take_le _ _;have hk1:=(lY rs k hlt).1;have hk2:=(lY rs k hlt).2;generalize i6 (rs.take k) lo hi=st at*;generalize rs[k]=x at*;obtain⟨B,⟨lo',hi'⟩,A⟩:=st;obtain⟨x1,x2⟩:=x;obtain⟨hx1,hx2,GV⟩:=hx;obtain⟨hm1,hm2,Xj⟩:=Qh
     dsimp only at hx1 hx2 GV hm1 hm2 Xj hlen hk1 hk2 hinv
     have hr:Sat ((fR R lo' hi').star ((Row 199 2 (.slice a0 rs.length c0) rs.length (eS rs)).star ((Pr.pts p (.cells #[.slice a0 rs.length c0] 197)).star ((Row 199 2 u10 B.length (eS B)).star ((Row 199 2 u11 A.length (eS A)).star ((Pr.pts D (.deferred (some []))).star ((kL (R+1) n).star F))))))) wr:=hinv.perm (by unfold iu;ac_rfl)
     obtain⟨a1,c1,e1,_,hrow⟩:=Row.read hr.right;cases e1;obtain⟨b,rfl,hc⟩:=hrow (by omega);have q1:=(hc (k*2) (by omega)).1.trans hk1;have q2:=(hc (k*2+1) (by omega)).1.trans hk2;have r1:wr.cell? ⟨R,0,none⟩=some (.int .i64 lo'):=by rw [cell_of_heap hr.dL];rfl
     have r2:wr.cell? ⟨R,1,none⟩=some (.int .i64 hi'):=by rw [cell_of_heap hr.dL];rfl
     have r3:=frozen_of_heap hr.dL 0;have r4:=frozen_of_heap hr.dL 1;have z1:=hr.lt;have Kc:=hQ SV;have HV:=hQ hinv;have HVR:=hQ hr;clear SV hinv hr hc hrow hk1 hk2;obtain⟨i0,hi,hz0,hz1,jg⟩:=HI.af
     have HN:Hid (∀j u,[Value.int .i64 x1,.int .i64 x2][j]? =some u→((wr.alloc (.cells #[.int .i64 x1,.int .i64 x2] 199)).alloc (.cells #[.int .i64 x1,.int .i64 x2] 199)).cell? ((⟨wr.heap.size+1,0,none⟩:Addr).add j)=some u):=by
      have:=cell_two_new (wr.alloc (.cells #[.int .i64 x1,.int .i64 x2] 199)) (.int .i64 x1) (.int .i64 x2) 199
      rwa [World.size_alloc] at this
     have HO:Hid (∀u∈ [Value.int .i64 x1,.int .i64 x2],u.oneCell'=true):=fun u hu=>by
      simp only [aR,dr,or_false] at hu;rcases hu with rfl | rfl<;>rfl
     by_cases c1:x2+1<lo'
     · have e:iD (B,(lo',hi'),A) (x1,x2)=(B++ [(x1,x2)],(lo',hi'),A):=by simp only [iD];rw [if_pos c1]
       rw [e] at Kc;have Xk:=hQ ((HV.af.alloc (.cells #[.int .i64 x1,.int .i64 x2] 199)).right.alloc (.cells #[.int .i64 x1,.int .i64 x2] 199)).right;clear e
       go_wp2_with (at_builtin;refine eu rfl _ _ _ rfl 199 i0 (.agg #[.int .i64 0,.int .i64 0]) 2 16 Tryz.underlying195 hi hz0 hz1 jg rfl _ _ _ rfl Xk.af ⟨wr.heap.size+1,0,none⟩ 1 1 [.int .i64 x1,.int .i64 x2] rfl rfl HN.af HO.af (by simp only [maxLen];omega) (by omega) ?_;intro v' w1 hJ hgr _;have ja:=hQ hJ;clear hJ)
       go_roundw
       case rel=>
        refine⟨k+1,by omega,by go_num,(((jq.alloc _).alloc _).eH hgr),?_,?_⟩
        · rw [Kc.af];exact⟨hm1,hm2,Xj⟩
        · rw [Kc.af]
          dsimp only;rw [au,jN];exact ja.af
       case measure=>simp [intOf];omega
     · by_cases c2:hi'<x1-1
       · have e:iD (B,(lo',hi'),A) (x1,x2)=(B,(lo',hi'),A++ [(x1,x2)]):=by simp only [iD];rw [if_neg c1,if_pos c2]
         rw [e] at Kc;have Xk:=hQ (((HV.af.alloc (.cells #[.int .i64 x1,.int .i64 x2] 199)).right.alloc (.cells #[.int .i64 x1,.int .i64 x2] 199)).right.perm (Pr.eD _ _ _));have d1:¬x2<lo':=by omega
         clear e;go_wp2_with (at_builtin;refine eu rfl _ _ _ rfl 199 i0 (.agg #[.int .i64 0,.int .i64 0]) 2 16 Tryz.underlying195 hi hz0 hz1 jg rfl _ _ _ rfl Xk.af ⟨wr.heap.size+1,0,none⟩ 1 1 [.int .i64 x1,.int .i64 x2] rfl rfl HN.af HO.af (by simp only [maxLen];omega) (by omega) ?_;intro v' w1 hJ hgr _;have ja:=hQ hJ;clear hJ)
         go_roundw
         case rel=>
          refine⟨k+1,by omega,by go_num,(((jq.alloc _).alloc _).eH hgr),?_,?_⟩
          · rw [Kc.af];exact⟨hm1,hm2,Xj⟩
          · rw [Kc.af]
            dsimp only;rw [au,jN];exact ja.af.perm (Pr.eD _ _ _)
         case measure=>simp [intOf];omega
       · have e:iD (B,(lo',hi'),A) (x1,x2)=(B,(min lo' x1,max hi' x2),A):=by simp only [iD];rw [if_neg c1,if_neg c2]
         rw [e] at Kc;clear e HN HO;by_cases d1:x2<lo'<;>by_cases d2:hi'<x1<;>by_cases m1:lo'≤x1<;>by_cases m2:x2≤hi'
         all_goals first
          | (exfalso;omega)
          | (go_wp2
             refine wS 96 [0,1,2,3,4,5,6,7,8,9,10] [(11,[12],[7,8,9]),(13,[],[])] ?_
             iterate 11 (refine fH rfl rfl (fun K hK=> ?_);go_simp;refine hK _ ?_;clear hK K)
             refine dU ?_
             refine dK rfl ?_
             go_wp2
             refine dQ ?_
             iterate 1 (refine fH rfl rfl (fun K hK=> ?_);go_simp;refine hK _ ?_;clear hK K)
             refine dU ⟨?_,?_⟩
             · refine d6 ?_ (d6 ?_ (d6 ?_ eM))<;>(refine fj rfl rfl rfl rfl ?_;go_simp;try omega)
             refine dK rfl ?_
             go_wp2
             refine dQ (dU ⟨eM,dW ?_⟩)
             go_wp2
             go_roundw
             case rel=>
              refine⟨k+1,by omega,by go_num,((((jq.setCell _ _).setCell _ _).alloc _).drew),?_,?_⟩
              · rw [Kc.af];refine⟨?_,?_,?_⟩<;>dsimp only<;>omega
              · rw [Kc.af]
                dsimp only
                refine(NN HVR.af (n1:=min lo' x1) (n2:=max hi' x2) ?_ ?_).perm (by unfold iu;ac_rfl)
                all_goals first | omega | (split<;>omega)
             case measure=>simp [intOf];omega)
   · have hkl:k=rs.length:=by omega
     subst hkl;rw [bE] at hinv Qh;have hadd:mC rs lo hi=(i6 rs lo hi).1++ [(i6 rs lo hi).2.1]++(i6 rs lo hi).2.2:=rfl;have hlen:=vD rs lo hi;generalize i6 rs lo hi=st at*;obtain⟨B,⟨lo',hi'⟩,A⟩:=st;dsimp only at hadd hinv hlen
     have hr:Sat ((fR R lo' hi').star ((kL (R+1) n).star ((Row 199 2 u10 B.length (eS B)).star ((Row 199 2 u11 A.length (eS A)).star ((iu p (.slice a0 rs.length c0) rs).star ((Pr.pts D (.deferred (some []))).star F)))))) wr:=hinv.perm (by ac_rfl);have r1:wr.cell? ⟨R,0,none⟩=some (.int .i64 lo'):=by rw [cell_of_heap hr.dL];rfl
     have r2:wr.cell? ⟨R,1,none⟩=some (.int .i64 hi'):=by rw [cell_of_heap hr.dL];rfl
     have z1:=hr.lt;have hz:=hr.right.right;obtain⟨av,cv,e1,_,_⟩:=Row.read hz;obtain⟨aw,cw,e2,_,_⟩:=Row.read (hz.perm (Pr.eD _ _ _));have HH:=hQ hr;have HA:=hQ hadd;clear hr hinv hz hadd;subst e1;subst e2
     have hcall:∃h0,Sat ((Pr.own h0).star ((fR R lo' hi').star ((kL (R+1) n).star ((iu p (.slice a0 rs.length c0) rs).star ((Pr.pts D (.deferred (some []))).star F)))))
      ((wr.alloc (.cells #[.int .i64 lo',.int .i64 hi'] 199)).alloc (.cells #[.slice av B.length cv,.slice (some ⟨wr.heap.size,0,none⟩) 1 1,.slice aw A.length cw] 195))∧
      gj h0 1 (.slice (some ⟨wr.heap.size+1,0,none⟩) 3 3) 3 [.slice av B.length cv,.slice (some ⟨wr.heap.size,0,none⟩) 1 1,.slice aw A.length cw]∧
      gj h0 2 (.slice (some ⟨wr.heap.size,0,none⟩) 1 1) 1 [.int .i64 lo',.int .i64 hi']∧gj h0 2 (.slice av B.length cv) B.length (eS B)∧gj h0 2 (.slice aw A.length cw) A.length (eS A):=by
      have h2:=(HH.af.alloc (.cells #[.int .i64 lo',.int .i64 hi'] 199)).alloc (.cells #[.slice av B.length cv,.slice (some ⟨wr.heap.size,0,none⟩) 1 1,.slice aw A.length cw] 195);rw [World.size_alloc] at h2
      have h3:=h2.perm (show _=((Pr.pts (wr.heap.size+1) (.cells #[.slice av B.length cv,.slice (some ⟨wr.heap.size,0,none⟩) 1 1,.slice aw A.length cw] 195)).star ((Pr.pts wr.heap.size (.cells #[.int .i64 lo',.int .i64 hi'] 199)).star ((Row 199 2 (.slice av B.length cv) B.length (eS B)).star (Row 199 2 (.slice aw A.length cw) A.length (eS A))))).star
       ((fR R lo' hi').star ((kL (R+1) n).star ((iu p (.slice a0 rs.length c0) rs).star ((Pr.pts D (.deferred (some []))).star F)))) from by ac_rfl)
      obtain⟨h0,hA,hS⟩:=Sat.sf h3;obtain⟨x2,y2,p2,q2,s2,t2⟩:=fF hA;obtain⟨x3,y3,p3,q3,s3,t3⟩:=fF q2;obtain⟨x4,y4,p4,q4,s4,t4⟩:=fF q3;refine⟨h0,hS,(pd p2 rfl rfl (by simp only [maxLen];omega)).sub s2,(pd p3 rfl rfl (by simp only [maxLen];omega)).sub (s3.trans t2),(Row.jh p4).sub (s4.trans (t3.trans t2)),(Row.jh q4).sub (t4.trans (t3.trans t2))⟩
     obtain⟨h0,hS,g1,g2,g3,g4⟩:=hcall
     have one:∀(l:List (Int × Int)),∀u∈eS l,u.oneCell'=true:=fun l u hu=>by
      unfold eS at hu;obtain⟨x,_,hx⟩:=List.mem_flatMap.1 hu;simp only [aR,dr,or_false] at hx;rcases hx with rfl | rfl<;>rfl
     have tj:=EV h0 (.slice (some ⟨wr.heap.size+1,0,none⟩) 3 3) [(.slice av B.length cv,B.length,eS B),(.slice (some ⟨wr.heap.size,0,none⟩) 1 1,1,eS [(lo',hi')]),(.slice aw A.length cw,A.length,eS A)] g1
      (by
        intro x hx
        simp only [aR,dr,or_false] at hx
        rcases hx with rfl | rfl | rfl
        · exact⟨g3,one _⟩
        · exact⟨g2,one _⟩
        · exact⟨g4,one _⟩) (by simp [total];omega) (by simp) _ _ hS
     have Is:=hQ tj;clear tj hS g1 g2 g3 g4 one;go_wp2_with fail
     refine Is.af.mono ?_;rintro e w' ⟨v',rfl,hs',Xl⟩;obtain⟨ax,cx,rfl,_,_⟩:=Row.read hs'
     have hq:Sat ((Pr.pts p (.cells #[.slice a0 rs.length c0] 197)).star ((kL (R+1) n).star ((Pr.pts D (.deferred (some []))).star ((Row 199 2 (.slice ax (total [(.slice av B.length cv,B.length,eS B),(.slice (some ⟨wr.heap.size,0,none⟩) 1 1,1,eS [(lo',hi')]),(.slice aw A.length cw,A.length,eS A)]) cx)
      (total [(.slice av B.length cv,B.length,eS B),(.slice (some ⟨wr.heap.size,0,none⟩) 1 1,1,eS [(lo',hi')]),(.slice aw A.length cw,A.length,eS A)])
      (flat [(.slice av B.length cv,B.length,eS B),(.slice (some ⟨wr.heap.size,0,none⟩) 1 1,1,eS [(lo',hi')]),(.slice aw A.length cw,A.length,eS A)])).star (F.star ((Row 199 2 (.slice a0 rs.length c0) rs.length (eS rs)).star ((Pr.own h0).star (fR R lo' hi')))))))) w':=hs'.perm (by unfold iu;ac_rfl)
     have Qn:total [(.slice av B.length cv,B.length,eS B),(.slice (some ⟨wr.heap.size,0,none⟩) 1 1,1,eS [(lo',hi')]),(.slice aw A.length cw,A.length,eS A)]=(mC rs lo hi).length:=by rw [HA.af];simp [total];omega
     have PD:flat [(.slice av B.length cv,B.length,eS B),(.slice (some ⟨wr.heap.size,0,none⟩) 1 1,1,eS [(lo',hi')]),(.slice aw A.length cw,A.length,eS A)]=eS (mC rs lo hi):=by rw [HA.af,jN,jN];simp [flat]
     rw [Qn,PD] at hq;rw [Qn];have r3:w'.cell? ⟨p,0,none⟩=some (.slice a0 rs.length c0):=by rw [cell_of_heap hq.dL];rfl
     have r4:=frozen_of_heap hq.dL 0;have r5:w'.cell? ⟨R+1,0,none⟩=some (.int .u64 n):=by rw [cell_of_heap hq.right.dL];rfl
     have NQ:p≠R+1:=hq.uL;have HQ:Hid (Sat ((Pr.pts p (.cells #[.slice ax (mC rs lo hi).length cx] 197)).star _) _):=hq.setCell (i:=0) (.slice ax (mC rs lo hi).length cx);clear hs' hq Qn PD Is r1 r2;generalize hnn:(mC rs lo hi).length=nn at*;have PE:=hQ hnn;clear hnn;go_wp2
     have q1:Sat ((Pr.pts D (.deferred (some []))).star (((iu p (.slice ax nn cx) (mC rs lo hi)).star F).star ((kL (R+1) n).star ((Row 199 2 (.slice a0 rs.length c0) rs.length (eS rs)).star ((Pr.own h0).star (fR R lo' hi')))))) (w'.setCell ⟨p,0,none⟩ (.slice ax nn cx)):=HQ.af.perm (by unfold iu;rw [PE.af];ac_rfl)
     refine j7 (D:=D) rfl q1.dL ⟨_,results_tmp rfl _ _ _,_,.slice ax nn cx,rfl,(q1.putObj (.deferred none)).right.left,?_⟩;exact((((jq.alloc _).alloc _).trans Xl).setCell _ _).putObj _ _
 case stop=>
  intro D c pre W2 _ hst hs;exact(Sat.pure.1 (hs.perm (Pr.dP _ _ _))).1.elim
end Go.Proofs.YtiegeadmgpanoaaGreatDoor.E3
namespace Go.Proofs.YtiegeadmgpanoaaGreatDoor.D2
open ChangeShapes WideShapes ChangeAt RowKit Sl Go.Shelf D3 E3
attribute [local go_sem] Oper.semAt_some
def jL(lo hi:Int)(x:Int × Int):List (Int × Int):=
 if x.2<lo∨hi<x.1 then [x] else(if x.1<lo then [(x.1,lo-1)] else [])++(if hi<x.2 then [(hi+1,x.2)] else [])
def iO(rs:List (Int × Int))(lo hi:Int):List (Int × Int):=rs.flatMap (jL lo hi)
theorem EX(lo hi:Int)(x:Int × Int):(jL lo hi x).length≤2:=by
 unfold jL;split
 · simp
 · split<;>split<;>simp
theorem Ba(rs:List (Int × Int))(lo hi:Int)(k:Nat)(h:k<rs.length):iO (rs.take (k+1)) lo hi=iO (rs.take k) lo hi++jL lo hi rs[k]:=by
 unfold iO;rw [aF h,aN];simp
theorem Cx(rs:List (Int × Int))(lo hi:Int):(iO rs lo hi).length≤rs.length*2:=by
 unfold iO;induction rs with
 | nil=>simp
 | cons x rs ih=>have:=EX lo hi x;simp only [aX,au,List.length_cons];omega
theorem Iu(a b:Int):∀u∈ [Value.int .i64 a,.int .i64 b],u.oneCell'=true:=fun u hu=>by
 simp only [aR,dr,or_false] at hu;rcases hu with rfl | rfl<;>rfl
theorem EY(p:Nat)(v:Value)(rs:List (Int × Int))(lo hi:Int)(hs:∀x∈rs,Small x)(Xh:Small (lo,hi))(hl:rs.length≤65536)(F:Pr)(w:World)(hF:Sat ((iu p v rs).star F) w):
 Calls Tryz.prog 155 #[.pointer (some ⟨p,0,none⟩),.int .i64 lo,.int .i64 hi] w fun e w'=>
  ∃(n:Int) (v':Value),e= .returned (.int .i64 n)∧Sat ((iu p v' (iO rs lo hi)).star F) w'∧dN w w':=by
 obtain⟨s1,s2,s3⟩:=Xh;dsimp only at s1 s2 s3;have HL:=hQ hF;clear hF;refine iC (n:=9) Tryz.func155 rfl ?_;simp only [Tryz.ntmps155,bu,List.length_cons,List.length_nil,Nat.reduceAdd,Nat.reduceSub,Array.replicate_succ,Array.replicate_zero,bB,a_,List.nil_append,List.cons_append]
 go_wp2_with (go_at_call 153;refine(pU _ _ _ _).mono ?_;rintro e w' ⟨rfl,rfl⟩)
 have HS:Sat (((oR w.heap.size).star F).star (fJ p (w.heap.size+1) (w.heap.size+1+1) v rs lo hi))
  (((w.alloc (.cells #[.int .u64 0] 201)).alloc (.cells #[.pointer (some ⟨p,0,none⟩)] 155)).alloc (.cells #[.int .i64 lo,.int .i64 hi] 199)):=by
  have h0:=((HL.af.alloc (.cells #[.int .u64 0] 201)).alloc (.cells #[.pointer (some ⟨p,0,none⟩)] 155)).alloc (.cells #[.int .i64 lo,.int .i64 hi] 199);simp only [World.size_alloc] at h0;have h1:Sat ((fR (w.heap.size+1+1) lo hi).star ((jj (w.heap.size+1) p).star ((kL w.heap.size 0).star ((iu p v rs).star F)))) _:=h0;unfold fJ;simp only [Pr.fC,Sat.qk]
  exact⟨0,h1.perm (by ac_rfl)⟩
 have HR:dN w (((w.alloc (.cells #[.int .u64 0] 201)).alloc (.cells #[.pointer (some ⟨p,0,none⟩)] 155)).alloc (.cells #[.int .i64 lo,.int .i64 hi] 199)):=(((dN.refl w).alloc _).alloc _).alloc _;obtain⟨W0,Pw⟩:∃W0,(((w.alloc (.cells #[.int .u64 0] 201)).alloc (.cells #[.pointer (some ⟨p,0,none⟩)] 155)).alloc (.cells #[.int .i64 lo,.int .i64 hi] 199))=W0:=⟨_,rfl⟩;rw [Pw] at HS HR ⊢
 clear Pw HL;obtain⟨R,hR⟩:∃R,w.heap.size=R:=⟨_,rfl⟩;rw [hR] at HS ⊢;clear hR;have Xi:=hQ hs;clear hs;have HS:=hQ HS;have HR:=hQ HR
 refine jM 9 (gf:=157) rfl (enters_of Tryz.func157 (by kernel_rfl) rfl) (GM p (R+1) (R+1+1) v rs lo hi (by omega)) (fun _=>rfl)
  (fun _=>(oR R).star F) (fun _ _=>Pr.pure False) HS.af ?round ?done ?stop
 case round=>
  intro l' pre x W1 F1 _ hs;obtain⟨x1,x2⟩:=x;have ig:=hQ hs;clear hs;simp only [xf];gi_wp2
  have ny:Sat ((fR W1.heap.size x1 x2).star ((((oR R).star F).star (fJ p (R+1) (R+1+1) v rs lo hi)).star F1)) _:=ig.af.alloc (.cells #[.int .i64 x1,.int .i64 x2] 199);refine⟨(fR W1.heap.size x1 x2).star (((oR R).star F).star (fJ p (R+1) (R+1+1) v rs lo hi)),(dN.refl _).alloc _,ny.perm (by ac_rfl),?_⟩;clear ny ig;generalize W1.heap.size=B;intro F2 W2 _ hs2
  simp only [Pr.fC,Pr.jR,Sat.qk] at hs2;obtain⟨n,hs2⟩:=hs2;have h1:Sat ((kL R n).star ((fR B x1 x2).star (F.star ((fJ p (R+1) (R+1+1) v rs lo hi).star F2)))) W2:=hs2.perm (by ac_rfl);have r1:W2.cell? ⟨R,0,none⟩=some (.int .u64 n):=by rw [cell_of_heap h1.dL];rfl
  have r2:W2.cell? ⟨B,0,none⟩=some (.int .i64 x1):=by rw [cell_of_heap h1.right.dL];rfl
  have r3:W2.cell? ⟨B,1,none⟩=some (.int .i64 x2):=by rw [cell_of_heap h1.right.dL];rfl
  have r4:=frozen_of_heap h1.dL 0;have z1:=h1.lt;have H1:=hQ h1;clear h1 hs2;gi_wp2_with (refine⟨trivial,?_⟩;gi_at_call 136;refine(CallsIn.inRound _ (callsIn_wide.2 (Ck _ _ _ _))).mono ?_;rintro e w' ⟨⟨m,rfl⟩,rfl⟩)
  have h2:Sat ((kL R m).star _) (W2.setCell ⟨R,0,none⟩ (.int .u64 m)):=H1.af.setCell (i:=0) (.int .u64 m);have h3:=(h2.alloc (.cells #[.int .i64 x1,.int .i64 x2] 199)).right;refine⟨((dN.refl _).setCell _ _).alloc _,?_⟩;simp only [Pr.fC,Sat.qk];exact⟨m,(h3.perm (Pr.eD _ _ _)).right.perm (by ac_rfl)⟩
 case stop=>
  intro D c pre W2 _ hst hs;exact(Sat.pure.1 (hs.perm (Pr.dP _ _ _))).1.elim
 case done=>
  intro D xs W2 _ hst hs;simp only [Pr.fC,Sat.qk] at hs;obtain⟨n,hs⟩:=hs;have h1:Sat ((fR (R+1+1) lo hi).star ((jj (R+1) p).star ((iu p v rs).star ((Pr.pts D (.deferred (some []))).star ((kL R n).star F))))) W2:=hs.perm (by unfold fJ;ac_rfl);have h2:=h1.right.right;clear hs h1
  have h3:Sat ((Pr.pts p (.cells #[v] 197)).star ((Row 199 2 v rs.length (eS rs)).star ((Pr.pts D (.deferred (some []))).star ((kL R n).star F)))) W2:=h2.perm (by unfold iu;ac_rfl);have r1:W2.cell? ⟨p,0,none⟩=some v:=by rw [cell_of_heap h3.dL];rfl
  obtain⟨a0,c0,rfl,_,_⟩:=Row.read h3.right;have HI:=hQ (info_parts wK);have H3:=hQ h3;have eR:=hQ (HR.af.trans hst);clear h2 h3 hst HS HR;go_wp2
  go_loopw [9,29] (fun vb i wr=> ∃(k:Nat),k≤rs.length∧i= .int .i64 k∧dN w wr∧
   Sat ((Row 199 2 vb (iO (rs.take k) lo hi).length (eS (iO (rs.take k) lo hi))).star ((iu p (.slice a0 rs.length c0) rs).star ((Pr.pts D (.deferred (some []))).star ((kL R n).star F)))) wr) (fun _ i _=>rs.length-(intOf i).toNat)
  case atStart=>
   refine⟨0,aG _,rfl,eR.af,?_⟩;show Sat ((Row _ 2 (.slice none 0 0) 0 []).star _) _
   rw [Row.nil,Pr.fK];exact H3.af.perm (by unfold iu;ac_rfl)
  case round=>
   obtain⟨k,hk,rfl,jq,hinv⟩:=hrel;by_cases hlt:k<rs.length
   · have hx:=Xi.af _ (aE hlt)
     have SV:=Ba rs lo hi k hlt;have hlen:=Cx (rs.take k) lo hi;have hlk:(rs.take k).length≤k:=List.length_take_le _ _;have hk1:=(lY rs k hlt).1;have hk2:=(lY rs k hlt).2;generalize iO (rs.take k) lo hi=L at*;generalize rs[k]=x at*;obtain⟨x1,x2⟩:=x;obtain⟨hx1,hx2,GV⟩:=hx;dsimp only at hx1 hx2 GV hk1 hk2
     have hr:Sat ((Row 199 2 (.slice a0 rs.length c0) rs.length (eS rs)).star ((Pr.pts p (.cells #[.slice a0 rs.length c0] 197)).star ((Row 199 2 u9 L.length (eS L)).star ((Pr.pts D (.deferred (some []))).star ((kL R n).star F))))) wr:=hinv.perm (by unfold iu;ac_rfl);obtain⟨a1,c1,e1,_,hrow⟩:=Row.read hr;cases e1;obtain⟨b,rfl,hc⟩:=hrow (by omega)
     have q1:=(hc (k*2) (by omega)).1.trans hk1;have q2:=(hc (k*2+1) (by omega)).1.trans hk2;have Kc:=hQ SV;have HV:=hQ hinv;clear SV hinv hr hc hrow hk1 hk2;obtain⟨i0,hi',hz0,hz1,jg⟩:=HI.af
     have mk:∀(y1 y2:Int),Sat ((Row 199 2 u9 L.length (eS L)).star ((Pr.pts wr.heap.size (.cells #[.int .i64 x1,.int .i64 x2] 199)).star ((iu p (.slice (some ⟨b,0,none⟩) rs.length c0) rs).star ((Pr.pts D (.deferred (some []))).star ((kL R n).star F)))))
      ((wr.alloc (.cells #[.int .i64 x1,.int .i64 x2] 199)).alloc (.cells #[.int .i64 y1,.int .i64 y2] 199))∧
      ∀j u,[Value.int .i64 y1,.int .i64 y2][j]? =some u→((wr.alloc (.cells #[.int .i64 x1,.int .i64 x2] 199)).alloc (.cells #[.int .i64 y1,.int .i64 y2] 199)).cell? ((⟨wr.heap.size+1,0,none⟩:Addr).add j)=some u:=by
      intro y1 y2;refine⟨((HV.af.alloc (.cells #[.int .i64 x1,.int .i64 x2] 199)).alloc (.cells #[.int .i64 y1,.int .i64 y2] 199)).right.perm (Pr.eD _ _ _),?_⟩;have:=cell_two_new (wr.alloc (.cells #[.int .i64 x1,.int .i64 x2] 199)) (.int .i64 y1) (.int .i64 y2) 199
      rwa [World.size_alloc] at this
     have MK:=hQ mk;have NR:L.length≤131072:=by omega
     clear mk HI
     have out:∀(vv:Value) (ys:List (Int × Int)) (ws:World) (m:Nat) (cs:List Value),jL lo hi (x1,x2)=ys→L.length+ys.length=m→eS L++eS ys=cs→
      Sat ((Row 199 2 vv m cs).star ((Pr.pts wr.heap.size (.cells #[.int .i64 x1,.int .i64 x2] 199)).star ((iu p (.slice (some ⟨b,0,none⟩) rs.length c0) rs).star ((Pr.pts D (.deferred (some []))).star ((kL R n).star F))))) ws→
      Sat ((Row 199 2 vv (iO (rs.take (k+1)) lo hi).length (eS (iO (rs.take (k+1)) lo hi))).star ((iu p (.slice (some ⟨b,0,none⟩) rs.length c0) rs).star ((Pr.pts D (.deferred (some []))).star ((kL R n).star F)))) ws:=by
      intro vv ys ws m cs e1 e2 e3 h;rw [Kc.af,e1,jN,au,e2,e3];exact(h.perm (Pr.eD _ _ _)).right
     have OUT:=hQ out;clear out Kc;by_cases c1:x2<lo
     · have e:jL lo hi (x1,x2)= [(x1,x2)]:=by unfold jL;rw [if_pos (Or.inl c1)]
       have HE:=hQ e;clear e
       go_wp2_with (at_builtin;refine eu rfl _ _ _ rfl 199 i0 (.agg #[.int .i64 0,.int .i64 0]) 2 16 Tryz.underlying195 hi' hz0 hz1 jg rfl _ _ _ rfl (MK.af (x1) (x2)).1 ⟨wr.heap.size+1,0,none⟩ 1 1 [.int .i64 (x1),.int .i64 (x2)] rfl rfl (MK.af (x1) (x2)).2 (Iu _ _) (by simp only [maxLen];omega) (by omega) ?_;intro v' w1 hJ hgr _;have ja:=hQ hJ;have Wc:w1.cell? ⟨wr.heap.size,0,none⟩=some (.int .i64 x1):=(by rw [cell_of_heap (ja.af.right.dL)];rfl);have Wd:w1.cell? ⟨wr.heap.size,1,none⟩=some (.int .i64 x2):=(by rw [cell_of_heap (ja.af.right.dL)];rfl);clear hJ MK)
       go_roundw
       case rel=>exact⟨k+1,by omega,by go_num,(((jq.alloc _).alloc _).eH hgr),OUT.af _ _ _ _ _ HE.af rfl rfl ja.af⟩
       case measure=>simp [intOf];omega
     · by_cases c2:hi<x1
       · have e:jL lo hi (x1,x2)= [(x1,x2)]:=by unfold jL;rw [if_pos (Or.inr c2)]
         have HE:=hQ e;clear e
         go_wp2_with (at_builtin;refine eu rfl _ _ _ rfl 199 i0 (.agg #[.int .i64 0,.int .i64 0]) 2 16 Tryz.underlying195 hi' hz0 hz1 jg rfl _ _ _ rfl (MK.af (x1) (x2)).1 ⟨wr.heap.size+1,0,none⟩ 1 1 [.int .i64 (x1),.int .i64 (x2)] rfl rfl (MK.af (x1) (x2)).2 (Iu _ _) (by simp only [maxLen];omega) (by omega) ?_;intro v' w1 hJ hgr _;have ja:=hQ hJ;have Wc:w1.cell? ⟨wr.heap.size,0,none⟩=some (.int .i64 x1):=(by rw [cell_of_heap (ja.af.right.dL)];rfl);have Wd:w1.cell? ⟨wr.heap.size,1,none⟩=some (.int .i64 x2):=(by rw [cell_of_heap (ja.af.right.dL)];rfl);clear hJ MK)
         go_roundw
         case rel=>exact⟨k+1,by omega,by go_num,(((jq.alloc _).alloc _).eH hgr),OUT.af _ _ _ _ _ HE.af rfl rfl ja.af⟩
         case measure=>simp [intOf];omega
       · have e0:jL lo hi (x1,x2)=(if x1<lo then [(x1,lo-1)] else [])++(if hi<x2 then [(hi+1,x2)] else []):=by unfold jL;rw [if_neg (by dsimp only;omega)]
         by_cases c3:x1<lo
         · by_cases c4:hi<x2
           · have e:jL lo hi (x1,x2)= [(x1,lo-1),(hi+1,x2)]:=by rw [e0,if_pos c3,if_pos c4];rfl
             have HE:=hQ e;clear e e0
             go_wp2_with (first | (at_builtin;refine eu rfl _ _ _ rfl 199 i0 (.agg #[.int .i64 0,.int .i64 0]) 2 16 Tryz.underlying195 hi' hz0 hz1 jg rfl _ _ _ rfl (MK.af (x1) (lo-1)).1 ⟨wr.heap.size+1,0,none⟩ 1 1 [.int .i64 (x1),.int .i64 (lo-1)] rfl rfl (MK.af (x1) (lo-1)).2 (Iu _ _) (by simp only [maxLen];omega) (by omega) ?_;intro v' w1 hJ hgr _;have ja:=hQ hJ;have Wc:w1.cell? ⟨wr.heap.size,0,none⟩=some (.int .i64 x1):=(by rw [cell_of_heap (ja.af.right.dL)];rfl);have Wd:w1.cell? ⟨wr.heap.size,1,none⟩=some (.int .i64 x2):=(by rw [cell_of_heap (ja.af.right.dL)];rfl);clear hJ MK) | (at_builtin;refine eu rfl _ _ _ rfl 199 i0 (.agg #[.int .i64 0,.int .i64 0]) 2 16 Tryz.underlying195 hi' hz0 hz1 jg rfl _ _ _ rfl (ja.af.alloc _).right ⟨w1.heap.size,0,none⟩ 1 1 [.int .i64 (hi+1),.int .i64 x2] rfl rfl (cell_two_new _ _ _ _) (Iu _ _) (by simp only [maxLen];omega) (by omega) ?_;intro v2 w2 PH Xm _;have SX:=hQ PH;clear PH))
             go_roundw
             case rel=>exact⟨k+1,by omega,by go_num,(((((jq.alloc _).alloc _).eH hgr).alloc _).eH Xm),OUT.af _ _ _ _ _ HE.af (by simp) (by rw [show [(x1,lo-1),(hi+1,x2)]= [(x1,lo-1)]++ [(hi+1,x2)] from rfl,jN, ← bZ];rfl) SX.af⟩
             case measure=>simp [intOf];omega
           · have e:jL lo hi (x1,x2)= [(x1,lo-1)]:=by rw [e0,if_pos c3,if_neg c4];rfl
             have HE:=hQ e;clear e e0
             go_wp2_with (at_builtin;refine eu rfl _ _ _ rfl 199 i0 (.agg #[.int .i64 0,.int .i64 0]) 2 16 Tryz.underlying195 hi' hz0 hz1 jg rfl _ _ _ rfl (MK.af (x1) (lo-1)).1 ⟨wr.heap.size+1,0,none⟩ 1 1 [.int .i64 (x1),.int .i64 (lo-1)] rfl rfl (MK.af (x1) (lo-1)).2 (Iu _ _) (by simp only [maxLen];omega) (by omega) ?_;intro v' w1 hJ hgr _;have ja:=hQ hJ;have Wc:w1.cell? ⟨wr.heap.size,0,none⟩=some (.int .i64 x1):=(by rw [cell_of_heap (ja.af.right.dL)];rfl);have Wd:w1.cell? ⟨wr.heap.size,1,none⟩=some (.int .i64 x2):=(by rw [cell_of_heap (ja.af.right.dL)];rfl);clear hJ MK)
             go_roundw
             case rel=>exact⟨k+1,by omega,by go_num,(((jq.alloc _).alloc _).eH hgr),OUT.af _ _ _ _ _ HE.af rfl rfl ja.af⟩
             case measure=>simp [intOf];omega
         · by_cases c4:hi<x2
           · have e:jL lo hi (x1,x2)= [(hi+1,x2)]:=by rw [e0,if_neg c3,if_pos c4];rfl
             have HE:=hQ e;clear e e0
             go_wp2_with (at_builtin;refine eu rfl _ _ _ rfl 199 i0 (.agg #[.int .i64 0,.int .i64 0]) 2 16 Tryz.underlying195 hi' hz0 hz1 jg rfl _ _ _ rfl (MK.af (hi+1) (x2)).1 ⟨wr.heap.size+1,0,none⟩ 1 1 [.int .i64 (hi+1),.int .i64 (x2)] rfl rfl (MK.af (hi+1) (x2)).2 (Iu _ _) (by simp only [maxLen];omega) (by omega) ?_;intro v' w1 hJ hgr _;have ja:=hQ hJ;have Wc:w1.cell? ⟨wr.heap.size,0,none⟩=some (.int .i64 x1):=(by rw [cell_of_heap (ja.af.right.dL)];rfl);have Wd:w1.cell? ⟨wr.heap.size,1,none⟩=some (.int .i64 x2):=(by rw [cell_of_heap (ja.af.right.dL)];rfl);clear hJ MK)
             go_roundw
             case rel=>exact⟨k+1,by omega,by go_num,(((jq.alloc _).alloc _).eH hgr),OUT.af _ _ _ _ _ HE.af rfl rfl ja.af⟩
             case measure=>simp [intOf];omega
           · have e:jL lo hi (x1,x2)= []:=by rw [e0,if_neg c3,if_neg c4];rfl
             have HE:=hQ e;clear e e0;go_wp2;go_roundw
             case rel=>exact⟨k+1,by omega,by go_num,jq.alloc _,OUT.af _ _ _ _ _ HE.af rfl (by simp [eS]) ((HV.af.alloc _).perm (Pr.eD _ _ _))⟩
             case measure=>simp [intOf];omega
   · have hkl:k=rs.length:=by omega
     subst hkl;rw [bE] at hinv;have hq:Sat ((Pr.pts p (.cells #[.slice a0 rs.length c0] 197)).star ((kL R n).star ((Pr.pts D (.deferred (some []))).star ((Row 199 2 u9 (iO rs lo hi).length (eS (iO rs lo hi))).star (F.star (Row 199 2 (.slice a0 rs.length c0) rs.length (eS rs))))))) wr:=hinv.perm (by unfold iu;ac_rfl)
     obtain⟨av,cv,e1,_,_⟩:=Row.read hq.right.right.right;have r3:wr.cell? ⟨p,0,none⟩=some (.slice a0 rs.length c0):=by rw [cell_of_heap hq.dL];rfl
     have r4:=frozen_of_heap hq.dL 0;have r5:wr.cell? ⟨R,0,none⟩=some (.int .u64 n):=by rw [cell_of_heap hq.right.dL];rfl
     have NQ:p≠R:=hq.uL;subst e1;have HQ:Hid (Sat ((Pr.pts p (.cells #[.slice av (iO rs lo hi).length cv] 197)).star _) _):=hq.setCell (i:=0) (.slice av (iO rs lo hi).length cv);clear hq hinv;generalize hnn:(iO rs lo hi).length=nn at*;have PE:=hQ hnn;clear hnn;go_wp2
     have q1:Sat ((Pr.pts D (.deferred (some []))).star (((iu p (.slice av nn cv) (iO rs lo hi)).star F).star ((kL R n).star (Row 199 2 (.slice a0 rs.length c0) rs.length (eS rs))))) (wr.setCell ⟨p,0,none⟩ (.slice av nn cv)):=HQ.af.perm (by unfold iu;rw [PE.af];ac_rfl)
     refine j7 (D:=D) rfl q1.dL ⟨_,results_tmp rfl _ _ _,_,.slice av nn cv,rfl,(q1.putObj (.deferred none)).right.left,?_⟩;exact(jq.setCell _ _).putObj _ _
end Go.Proofs.YtiegeadmgpanoaaGreatDoor.D2
