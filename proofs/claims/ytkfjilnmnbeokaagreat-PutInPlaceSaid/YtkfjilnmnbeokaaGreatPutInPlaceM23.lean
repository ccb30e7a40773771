/- Kids of any page, the program's and the document's; the conditions stand as hypotheses. -/
import Derived.Test.YtkfjilnmnbeokaaGreatPutInPlaceM20
import Derived.Test.YtkfjilnmnbeokaaGreatPutInPlaceM10
import Derived.Test.YtkfjilnmnbeokaaGreatPutInPlaceM12
import Derived.Test.YtkfjilnmnbeokaaGreatPutInPlaceM11
import Derived.Test.YtkfjilnmnbeokaaGreatPutInPlaceM01
set_option maxRecDepth 100000
set_option maxHeartbeats 16000000
namespace Go.Cop
def kidItem(g:PageV)(x:ItemV):Bool:=(g.kind == 2) || ((g.kind == 1) && (x.child != 0))
def kidsK(g:PageV)(k:Nat):List Int:=((g.items.take k).filter (kidItem g)).map (·.child)
def kidsOf(g:PageV):List Int:=kidsK g g.items.length++(if(g.kind == 3) && (g.next != 0) then [g.next] else [])
theorem kidsK_yes {g:PageV}{k:Nat}(hk:k<g.items.length)(h:kidItem g g.items[k]=true):kidsK g (k+1)=kidsK g k++ [g.items[k].child]:=by
 unfold kidsK;rw [List.take_succ_eq_append_getElem hk,List.filter_append,List.map_append];simp [h]
theorem kidsK_no {g:PageV}{k:Nat}(hk:k<g.items.length)(h:kidItem g g.items[k]=false):kidsK g (k+1)=kidsK g k:=by
 unfold kidsK;rw [List.take_succ_eq_append_getElem hk,List.filter_append,List.map_append];simp [h]
theorem kidsK_len(g:PageV)(k:Nat):(kidsK g k).length≤k:=by
 unfold kidsK;rw [List.length_map];exact Nat.le_trans (List.length_filter_le _ _) (by rw [List.length_take];omega)
theorem kidsOf_len(g:PageV):(kidsOf g).length≤g.items.length+1:=by
 unfold kidsOf;rw [List.length_append];have:=kidsK_len g g.items.length
 split<;>simp<;>omega
end Go.Cop
namespace Go.Proofs.YtkfjilnmnbeokaaGreat.D6
open ChangeShapes WideShapes ChangeAt RowKit Sl Cop D3 V3 G2 J2 X3 Y3 Z3 Y5
theorem ints_snoc {v':Value}{l:List Int}{z:Int}{F:Pr}{w:World}(h:Sat ((Row 3 1 v' (l.length+1) (l.map (Value.int .i64)++ [.int .i64 z])).star F) w):Sat ((IntsRow v' (l++ [z])).star F) w:=by
 unfold IntsRow;rw [List.length_append,List.map_append];exact h
theorem kids_any(h:Hp)(v:Value)(g:PageV)(hv:PageIn h v g)(hn:g.items.length≤65536)(F:Pr)(w:World)(hF:Sat ((Pr.own h).star F) w):
 Calls Tryz.prog 140 #[v] w fun e w'=> ∃v',e= .returned v'∧Sat ((IntsRow v' (kidsOf g)).star ((Pr.own h).star F)) w'∧Stays w w':=by
 obtain⟨vi,vd,rfl,hi,hd⟩:=hv;obtain⟨ai,ci,rfl,_,rd⟩:=items_rd hi;obtain⟨ad,cd,rfl⟩:=bytes_shape hd;have h1:=hF.alloc (pageC g.kind g.level (.slice ai g.items.length ci) (.slice ad g.data.length cd) g.next);have H1:=hQ h1;have RD:=hQ rd;have HST:=hQ ((Stays.refl w).alloc (pageC g.kind g.level (.slice ai g.items.length ci) (.slice ad g.data.length cd) g.next))
 have hl0:(g.items.length:Int)≤65536:=by omega
 obtain⟨i0,hi0,hz0,hz1,hz2⟩:=info_parts infoInt;clear hF h1 hi hd rd;go_enter Tryz.func140,Tryz.ntmps140
 go_wp2;go_loopw [3,9] (fun l i wr=> ∃k:Nat,k≤g.items.length∧i= .int .i64 k∧Stays w wr∧Sat ((IntsRow l (kidsK g k)).star ((Pr.pts w.heap.size (pageC g.kind g.level (.slice ai g.items.length ci) (.slice ad g.data.length cd) g.next)).star ((Pr.own h).star F))) wr) (fun _ i _=>g.items.length-(intOf i).toNat)
 case atStart=>
  refine⟨0,Nat.zero_le _,rfl,HST.out,?_⟩;show Sat ((Row 3 1 (.slice none 0 0) 0 []).star _) _
  rw [Row.nil,Pr.emp_star];exact H1.out
 case round=>
  obtain⟨k,hk,rfl,hst,hs⟩:=hrel;clear H1 HST;obtain⟨al,cl,rfl,_,_⟩:=Row.read hs;obtain⟨p0,p1,p2,p3,p4,_,pz⟩:=pts5 hs.right;have hkl:=kidsK_len g k;rcases Nat.lt_or_ge k g.items.length with hlt | hge
  · obtain⟨b,off,ak,ck,av,cv,rfl,hbk,hbv,hc⟩:=RD.out k hlt
    obtain⟨c0,c1,c2,c3⟩:=hc wr hs.right.right.own;have z0:=World.block_lt_of_cell? _ _ c0;have HYES:=hQ (fun h=>kidsK_yes (g:=g) hlt h);have HNO:=hQ (fun h=>kidsK_no (g:=g) hlt h);have hkd:kidItem g g.items[k]=((g.kind == 2) || ((g.kind == 1) && (g.items[k].child != 0))):=rfl
    have HSTK:=hQ (hst.alloc (itemC (.slice ak g.items[k].key.length ck) (.slice av g.items[k].value.length cv) g.items[k].child g.items[k].size));have HSK:=hQ ((hs.alloc (itemC (.slice ak g.items[k].key.length ck) (.slice av g.items[k].value.length cv) g.items[k].child g.items[k].size)).right);rw [hkd] at HYES HNO;clear hs hst hc hkd hbk hbv;generalize g.items[k]=y at*
    have app:∀wx:World,Sat ((IntsRow (.slice al (kidsK g k).length cl) (kidsK g k)).star ((Pr.pts w.heap.size (pageC g.kind g.level (.slice (some ⟨b,off,none⟩) g.items.length ci) (.slice ad g.data.length cd) g.next)).star ((Pr.own h).star F))) wx→
     Sat ((Row 3 1 (.slice al (kidsK g k).length cl) (kidsK g k).length ((kidsK g k).map (Value.int .i64))).star ((Pr.pts w.heap.size (pageC g.kind g.level (.slice (some ⟨b,off,none⟩) g.items.length ci) (.slice ad g.data.length cd) g.next)).star ((Pr.own h).star F))) (wx.alloc (.cells [.int .i64 y.child].toArray 3)):=fun wx hx=>(hx.alloc _).right
    have A1:=hQ (app _ HSK.out);have hnew:=hQ (new_cells (wr.alloc (itemC (.slice ak y.key.length ck) (.slice av y.value.length cv) y.child y.size)) [.int .i64 y.child] 3 (wr.heap.size+1) (by simp));clear app;by_cases hk2:g.kind=2
    · have hb2:(g.kind == 2)=true:=beq_iff_eq.2 hk2
      rw [hb2] at HYES HNO;clear HNO hk2
      go_wp2_with (at_builtin;refine wpList_append_sl rfl _ _ _ rfl 3 i0 (.int .i64 0) 1 8 Tryz.underlying31 hi0 hz0 hz1 hz2 rfl _ _ _ rfl A1.out ⟨wr.heap.size+1,0,none⟩ 1 1 [.int .i64 y.child] rfl rfl hnew.out (by simp [Value.oneCell']) (by simp only [maxLen];omega) (by omega) ?_;intro v7 w4 hs4 hg4 _;obtain⟨a7',c7',e7',_,_⟩:=Row.read hs4;subst e7';have HS4:=hQ hs4;have HG4:=hQ ((HSTK.out.alloc _).of_grown hg4);clear hs4 hg4)
      go_roundw
      case rel=>exact⟨k+1,by omega,congrArg (Value.int .i64) (by omega),HG4.out,by rw [HYES.out rfl];exact ints_snoc HS4.out⟩
      case measure=>simp [intOf];omega
    · have hb2:(g.kind == 2)=false:=beq_eq_false_iff_ne.2 hk2
      rw [hb2] at HYES HNO;clear hk2;by_cases hk1:g.kind=1
      · have hb1:(g.kind == 1)=true:=beq_iff_eq.2 hk1
        rw [hb1] at HYES HNO;clear hk1;by_cases hch:y.child=0
        · have hb3:(y.child != 0)=false:=by rw [bne_eq_false_iff_eq];exact hch
          rw [hb3] at HNO;clear HYES hch A1;go_wp2;go_roundw
          case rel=>exact⟨k+1,by omega,congrArg (Value.int .i64) (by omega),HSTK.out,by rw [HNO.out rfl];exact HSK.out⟩
          case measure=>simp [intOf];omega
        · have hb3:(y.child != 0)=true:=by rw [bne_iff_ne];exact hch
          rw [hb3] at HYES;clear HNO hch
          go_wp2_with (at_builtin;refine wpList_append_sl rfl _ _ _ rfl 3 i0 (.int .i64 0) 1 8 Tryz.underlying31 hi0 hz0 hz1 hz2 rfl _ _ _ rfl A1.out ⟨wr.heap.size+1,0,none⟩ 1 1 [.int .i64 y.child] rfl rfl hnew.out (by simp [Value.oneCell']) (by simp only [maxLen];omega) (by omega) ?_;intro v7 w4 hs4 hg4 _;obtain⟨a7',c7',e7',_,_⟩:=Row.read hs4;subst e7';have HS4:=hQ hs4;have HG4:=hQ ((HSTK.out.alloc _).of_grown hg4);clear hs4 hg4)
          go_roundw
          case rel=>exact⟨k+1,by omega,congrArg (Value.int .i64) (by omega),HG4.out,by rw [HYES.out rfl];exact ints_snoc HS4.out⟩
          case measure=>simp [intOf];omega
      · have hb1:(g.kind == 1)=false:=beq_eq_false_iff_ne.2 hk1
        rw [hb1] at HYES HNO;clear hk1 HYES A1;go_wp2;go_roundw
        case rel=>exact⟨k+1,by omega,congrArg (Value.int .i64) (by omega),HSTK.out,by rw [HNO.out rfl];exact HSK.out⟩
        case measure=>simp [intOf];omega
  · have hkl2:k=g.items.length:=by omega
    subst hkl2;have hko:kidsOf g=kidsK g g.items.length++(if(g.kind == 3) && (g.next != 0) then [g.next] else []):=rfl;have HS:=hQ hs;have HKO:=hQ hko;clear hs hko;by_cases hk3:g.kind=3
    · have hb3:(g.kind == 3)=true:=beq_iff_eq.2 hk3
      rw [hb3] at HKO;by_cases hnx:g.next=0
      · have hb4:(g.next != 0)=false:=by rw [bne_eq_false_iff_eq];exact hnx
        rw [hb4] at HKO;clear hnx hk3;go_wp2;go_ret;refine⟨_,rfl,?_,hst⟩;rw [HKO.out,if_neg (by decide),List.append_nil];exact(HS.out.perm (Pr.left_comm _ _ _)).right
      · have hb4:(g.next != 0)=true:=by rw [bne_iff_ne];exact hnx
        rw [hb4] at HKO
        have A1:=hQ (show Sat ((Row 3 1 (.slice al (kidsK g g.items.length).length cl) (kidsK g g.items.length).length ((kidsK g g.items.length).map (Value.int .i64))).star ((Pr.pts w.heap.size (pageC g.kind g.level (.slice ai g.items.length ci) (.slice ad g.data.length cd) g.next)).star ((Pr.own h).star F))) (wr.alloc (.cells [.int .i64 g.next].toArray 3)) from(HS.out.alloc _).right)
        have hnew:=hQ (new_cells wr [.int .i64 g.next] 3 _ rfl);clear hnx hk3
        go_wp2_with (at_builtin;refine wpList_append_sl rfl _ _ _ rfl 3 i0 (.int .i64 0) 1 8 Tryz.underlying31 hi0 hz0 hz1 hz2 rfl _ _ _ rfl A1.out ⟨wr.heap.size,0,none⟩ 1 1 [.int .i64 g.next] rfl rfl hnew.out (by simp [Value.oneCell']) (by simp only [maxLen];omega) (by omega) ?_;intro v7 w4 hs4 hg4 _;obtain⟨a7',c7',e7',_,_⟩:=Row.read hs4;subst e7';have HS4:=hQ hs4;have HG4:=hQ ((hst.alloc (.cells [.int .i64 g.next].toArray 3)).of_grown hg4);clear hs4 hg4)
        go_ret;refine⟨_,rfl,?_,HG4.out⟩;rw [HKO.out,if_pos (by decide)];exact((ints_snoc HS4.out).perm (Pr.left_comm _ _ _)).right
    · have hb3:(g.kind == 3)=false:=beq_eq_false_iff_ne.2 hk3
      rw [hb3] at HKO;clear hk3;go_wp2;go_ret;refine⟨_,rfl,?_,hst⟩;rw [HKO.out,if_neg (by simp),List.append_nil];exact(HS.out.perm (Pr.left_comm _ _ _)).right
end Go.Proofs.YtkfjilnmnbeokaaGreat.D6
namespace Go.Cop
def addC(cs:List Int)(n b:Int):List Int:=cs.set (n.toNat-1) (cntL cs n+b)
theorem addC_len(cs:List Int)(n b:Int):(addC cs n b).length=cs.length:=List.length_set
theorem addC_cnt {cs:List Int}{n b:Int}(hn:1≤n∧n≤cs.length)(m:Int):cntL (addC cs n b) m=if m=n then cntL cs n+b else cntL cs m:=by
 unfold cntL;rw [addC_len];by_cases hm:1≤m∧m≤cs.length
 · rw [if_pos hm,if_pos hn,if_pos hm]
   unfold addC;rw [List.getD_eq_getElem?_getD];by_cases h:m=n
   · subst h
     rw [if_pos rfl,List.getElem?_set_self (by omega)];unfold cntL;rw [if_pos hn];rfl
   · rw [if_neg h,List.getElem?_set_ne (by omega), ← List.getD_eq_getElem?_getD]
 · rw [if_neg hm,if_neg hm]
   by_cases h:m=n
   · subst h;exact absurd hn hm
   · rw [if_neg h]
inductive DropR (get : Int → PageV) : List Int → List Int → Int → List Int → Prop where
  | nil (cs : List Int) : DropR get [] cs 0 cs
  | none (n : Int) (t cs : List Int) : cntL cs n = 0 → DropR get (n :: t) cs 15 cs
  | more (n : Int) (t cs : List Int) (e : Int) (c : List Int) : cntL cs n ≠ 0 → cntL (addC cs n (-1)) n ≠ 0 → DropR get t (addC cs n (-1)) e c → DropR get (n :: t) cs e c
  | last (n : Int) (t cs : List Int) (e : Int) (c : List Int) : cntL cs n ≠ 0 → cntL (addC cs n (-1)) n = 0 → DropR get (kidsOf (get n) ++ t) (addC cs n (-1)) e c → DropR get (n :: t) cs e c
theorem DropR.append {get:Int→PageV}{l cs:List Int}{e:Int}{c:List Int}(h:DropR get l cs e c):∀ {t:List Int} {e2:Int} {c2:List Int},e=0→DropR get t c e2 c2→DropR get (l++t) cs e2 c2:=by
 induction h with
 | nil cs=>intro t e2 c2 _ h2;exact h2
 | none n t cs h0=>intro t' e2 c2 h;cases h
 | more n t cs e c h1 h2 h3 ih=>intro t' e2 c2 he g;exact .more _ _ _ _ _ h1 h2 (ih he g)
 | last n t cs e c h1 h2 h3 ih=>
   intro t' e2 c2 he g;have:=ih he g
   rw [List.append_assoc] at this;exact .last _ _ _ _ _ h1 h2 this
theorem DropR.fail {get:Int→PageV}{l cs:List Int}{e:Int}{c:List Int}(h:DropR get l cs e c):∀ {t:List Int},e≠0→DropR get (l++t) cs e c:=by
 induction h with
 | nil cs=>intro t h;exact absurd rfl h
 | none n t cs h0=>intro t' _;exact .none _ _ _ h0
 | more n t cs e c h1 h2 h3 ih=>intro t' he;exact .more _ _ _ _ _ h1 h2 (ih he)
 | last n t cs e c h1 h2 h3 ih=>
   intro t' he;have:=ih (t:=t') he
   rw [List.append_assoc] at this;exact .last _ _ _ _ _ h1 h2 this
def sumC(cs:List Int):Nat:=(cs.map Int.toNat).sum
theorem sum_set(cs:List Nat):∀(i v:Nat) (hi:i<cs.length),(cs.set i v).sum+cs[i]=cs.sum+v:=by
 induction cs with
 | nil=>intro i v hi;simp at hi
 | cons x cs ih=>
   intro i v hi;cases i with
   | zero=>simp only [List.set_cons_zero,List.sum_cons,List.getElem_cons_zero];omega
   | succ i=>
     have:=ih i v (by simpa using hi)
     simp only [List.set_cons_succ,List.sum_cons,List.getElem_cons_succ];omega
theorem sum_addC {cs:List Int}{n b:Int}(hn:1≤n∧n≤cs.length)(h0:0≤cntL cs n)(h1:0≤cntL cs n+b):(sumC (addC cs n b):Int)=sumC cs+b:=by
 unfold sumC addC;rw [List.map_set];have hi:n.toNat-1<(cs.map Int.toNat).length:=by rw [List.length_map];omega
 have h:=sum_set (cs.map Int.toNat) (n.toNat-1) (cntL cs n+b).toNat hi;rw [List.getElem_map] at h
 have hc:cs[n.toNat-1]'(by omega)=cntL cs n:=by
  unfold cntL;rw [if_pos hn,List.getD_eq_getElem?_getD,List.getElem?_eq_getElem (by omega)];rfl
 rw [hc] at h;omega
theorem nodup_len:∀(N:Nat) (l:List Int),l.Nodup→(∀x∈l,1≤x∧x≤N)→l.length≤N
 | 0,l,_,h=>by
   cases l with
   | nil=>exact Nat.le_refl _
   | cons x l=>have:=h x (by simp);omega
 | N+1,l,hn,h=>by
   have h1:=nodup_len N (l.erase ((N:Int)+1)) (hn.erase _) (fun x hx=>by
    have h2:=List.Nodup.mem_erase_iff hn |>.1 hx
    have h3:=h x h2.2
    have:x≠(N:Int)+1:=h2.1
    omega)
   have h4:=List.length_erase (a:=((N:Int)+1)) (l:=l);split at h4<;>omega
end Go.Cop
namespace Go.Proofs.YtkfjilnmnbeokaaGreat.M6
open ChangeShapes WideShapes ChangeAt RowKit Sl Cop D3 V3 G2 J2 X3 Y3 Z3 Y5 D6
end Go.Proofs.YtkfjilnmnbeokaaGreat.M6
namespace Go.Cop
open Go.Proofs.YtkfjilnmnbeokaaGreat.D6
def partD(get:Int→PageV)(cs:List Int)(m n:Int):Nat:=if cntL cs n=0 then 0 else(kidsOf (get n)).count m
def inSum(get:Int→PageV)(cs:List Int)(m:Int):Nat→Nat
 | 0=>0
 | k+1=>inSum get cs m k+partD get cs m ((k:Int)+1)
def indeg(get:Int→PageV)(cs:List Int)(m:Int):Nat:=inSum get cs m cs.length
theorem cnt_there {cs:List Int}{n:Int}(h:cntL cs n≠0):1≤n∧n≤cs.length:=by
 unfold cntL at h;split at h
 · assumption
 · exact absurd rfl h
end Go.Cop
namespace Go.Cop
open Go.Proofs.YtkfjilnmnbeokaaGreat.D6
def ledS(get:Int→PageV)(S P:List Int)(k:Int):Nat:=P.count k+(S.map fun m=>(kidsOf (get m)).count k).sum
structure Clo(get:Int→PageV)(cnt:Int→Int)(S P:List Int):Prop where
 nd:S.Nodup
 pos:∀m∈S,0<cnt m
 kids:∀m∈S,∀k∈kidsOf (get m),k∈S
 pl:∀p∈P,p∈S
 le:∀k∈S,(ledS get S P k:Int)≤cnt k
theorem sum_zero_of {l:List Nat}(h:l.sum=0):∀x∈l,x=0:=by
 induction l with
 | nil=>intro x hx;cases hx
 | cons a l ih=>
   rw [List.sum_cons] at h;intro x hx;rcases List.mem_cons.1 hx with rfl | hx
   · omega
   · exact ih (by omega) x hx
theorem led_perm {get:Int→PageV}{S S' P P':List Int}(hS:S.Perm S')(hP:P.Perm P')(k:Int):ledS get S P k=ledS get S' P' k:=by
 unfold ledS;rw [hP.count_eq,(hS.map _).sum_nat]
theorem led_cons(get:Int→PageV)(S P:List Int)(m k:Int):ledS get (m :: S) P k=ledS get S (kidsOf (get m)++P) k:=by
 unfold ledS;rw [List.map_cons,List.sum_cons,List.count_append];omega
theorem led_place(get:Int→PageV)(S P Q:List Int)(k:Int):ledS get S (Q++P) k=Q.count k+ledS get S P k:=by
 unfold ledS;rw [List.count_append];omega
theorem led_same {get get':Int→PageV}{S P:List Int}(h:∀m∈S,get' m=get m)(k:Int):ledS get' S P k=ledS get S P k:=by
 unfold ledS;rw [show (S.map fun m=>(kidsOf (get' m)).count k)=S.map fun m=>(kidsOf (get m)).count k from List.map_congr_left fun m hm=>by rw [h m hm]]
theorem led_out {get:Int→PageV}{cnt:Int→Int}{S P:List Int}(c:Clo get cnt S P){n:Int}(hn:n ∉ S):ledS get S P n=0:=by
 unfold ledS;rw [List.count_eq_zero.2 (fun h=>hn (c.pl n h))]
 have:∀x∈S.map fun m=>(kidsOf (get m)).count n,x=0:=by
  intro x hx;obtain⟨m,hm,rfl⟩:=List.mem_map.1 hx;exact List.count_eq_zero.2 fun h=>hn (c.kids m hm n h)
 rw [List.sum_eq_zero_iff_forall_eq_nat.2 this]
theorem Clo.perm {get:Int→PageV}{cnt:Int→Int}{S P P':List Int}(c:Clo get cnt S P)(h:P.Perm P'):Clo get cnt S P':=
 ⟨c.nd,c.pos,c.kids,fun p hp=>c.pl p (h.mem_iff.2 hp),fun k hk=>by rw [← led_perm (List.Perm.refl S) h k];exact c.le k hk⟩
theorem Clo.same {get get':Int→PageV}{cnt cnt':Int→Int}{S P:List Int}(c:Clo get cnt S P)(hg:∀m∈S,get' m=get m)(hc:∀m∈S,cnt m≤cnt' m):Clo get' cnt' S P:=
 ⟨c.nd,fun m hm=>Int.lt_of_lt_of_le (c.pos m hm) (hc m hm),fun m hm k hk=>c.kids m hm k (by rw [← hg m hm];exact hk),c.pl,fun k hk=>by rw [led_same hg];exact Int.le_trans (c.le k hk) (hc k hk)⟩
theorem Clo.opened {get:Int→PageV}{cnt:Int→Int}{S P:List Int}{n:Int}(c:Clo get cnt S (n :: P))(h1:cnt n=1):
 Clo get cnt (S.erase n) (kidsOf (get n)++P)∧n ∉ S.erase n∧n ∉ P:=by
 have hn:n∈S:=c.pl n (by simp);have hp:S.Perm (n :: S.erase n):=List.perm_cons_erase hn
 have hne:n ∉ S.erase n:=fun h=>by
  have:=hp.nodup_iff.1 c.nd
  exact(List.nodup_cons.1 this).1 h
 have hl:∀k,ledS get S (n :: P) k=ledS get (S.erase n) (kidsOf (get n)++(n :: P)) k:=fun k=>by rw [led_perm hp (List.Perm.refl _) k,led_cons]
 have h0:(P.count n:Int)=0∧(kidsOf (get n)).count n=0∧((S.erase n).map fun m=>(kidsOf (get m)).count n).sum=0:=by
  have:=c.le n hn
  rw [hl,h1] at this;unfold ledS at this;rw [List.count_append,List.count_cons_self] at this;omega
 have hnk:n ∉ kidsOf (get n):=List.count_eq_zero.1 h0.2.1;have hnp:n ∉ P:=List.count_eq_zero.1 (by omega);have hm:∀m∈S.erase n,n ∉ kidsOf (get m):=fun m hm=>List.count_eq_zero.1 (sum_zero_of h0.2.2 _ (List.mem_map.2 ⟨m,hm,rfl⟩))
 have hin:∀k,k∈S→k≠n→k∈S.erase n:=fun k hk he=>(List.mem_erase_of_ne he).2 hk
 refine⟨⟨c.nd.erase n,fun m hm=>c.pos m (List.mem_of_mem_erase hm),fun m h k hk=>hin k (c.kids m (List.mem_of_mem_erase h) k hk) (fun e=>hm m h (e ▸ hk)),?_,?_⟩,hne,hnp⟩
 · intro p hp
   rcases List.mem_append.1 hp with hp | hp
   · exact hin p (c.kids n hn p hp) (fun e=>hnk (e ▸ hp))
   · exact hin p (c.pl p (by simp [hp])) (fun e=>hnp (e ▸ hp))
 · intro k hk
   have:=c.le k (List.mem_of_mem_erase hk)
   rw [hl] at this;refine Int.le_trans ?_ this;unfold ledS;rw [List.count_append,List.count_append,List.count_cons];omega
theorem Clo.close {get:Int→PageV}{cnt:Int→Int}{S P:List Int}{n:Int}(c:Clo get cnt S (kidsOf (get n)++P))(hn:n ∉ S)(h1:0<cnt n):Clo get cnt (n :: S) (n :: P):=by
 have hk:n ∉ kidsOf (get n):=fun h=>hn (c.pl n (List.mem_append_left _ h))
 refine⟨List.nodup_cons.2 ⟨hn,c.nd⟩,fun m hm=> ?_,fun m hm k hk'=> ?_,fun p hp=> ?_,fun k hk'=> ?_⟩
 · rcases List.mem_cons.1 hm with rfl | hm
   · exact h1
   · exact c.pos m hm
 · rcases List.mem_cons.1 hm with rfl | hm
   · exact List.mem_cons_of_mem _ (c.pl k (List.mem_append_left _ hk'))
   · exact List.mem_cons_of_mem _ (c.kids m hm k hk')
 · rcases List.mem_cons.1 hp with rfl | hp
   · simp
   · exact List.mem_cons_of_mem _ (c.pl p (List.mem_append_right _ hp))
 · rw [led_cons,led_perm (List.Perm.refl S) (show (kidsOf (get n)++(n :: P)).Perm ([n]++(kidsOf (get n)++P)) from List.perm_middle) k,led_place]
   rcases List.mem_cons.1 hk' with rfl | hk'
   · rw [led_out c hn,List.count_singleton_self]
     omega
   · have hne:k≠n:=fun e=>hn (e ▸ hk')
     rw [List.count_singleton];have:=c.le k hk'
     have h0:((n == k)=true)=False:=by simp;exact fun e=>hne e.symm
     simp only [h0,if_false];omega
theorem Clo.less {get:Int→PageV}{cnt cnt':Int→Int}{S P:List Int}{n:Int}(c:Clo get cnt S (n :: P))(h1:cnt n≠1)(hc:∀m,cnt' m=if m=n then cnt n-1 else cnt m):Clo get cnt' S P:=by
 have hp:=c.pos n (c.pl n (by simp));refine⟨c.nd,fun m hm=> ?_,c.kids,fun p hp=>c.pl p (by simp [hp]),fun k hk=> ?_⟩
 · have:=c.pos m hm
   rw [hc];split<;>omega
 · have:=c.le k hk
   rw [show (n :: P)= [n]++P from rfl,led_place,List.count_singleton] at this;rw [hc];by_cases he:k=n
   · subst he
     simp only [beq_self_eq_true,if_true] at this;rw [if_pos rfl];omega
   · have h0:((n == k)=true)=False:=by simp;exact fun e=>he e.symm
     simp only [h0,if_false] at this;rw [if_neg he];omega
theorem Clo.more {get:Int→PageV}{cnt cnt':Int→Int}{S P:List Int}(c:Clo get cnt S P){Q:List Int}(hq:∀q∈Q,q∈S)(hc:∀m,cnt' m=cnt m+(Q.count m:Nat)):Clo get cnt' S (Q++P):=by
 refine⟨c.nd,fun m hm=>by have:=c.pos m hm;rw [hc];omega,c.kids,fun p hp=> ?_,fun k hk=> ?_⟩
 · rcases List.mem_append.1 hp with hp | hp
   · exact hq p hp
   · exact c.pl p hp
 · rw [led_place,hc]
   have:=c.le k hk
   omega
theorem Clo.drop {get:Int→PageV}{l cs:List Int}{e:Int}{c:List Int}(h:DropR get l cs e c):∀ {S P:List Int},Clo get (cntL cs) S (l++P)→e=0∧c.length=cs.length∧(∃S',Clo get (cntL c) S' P∧(∀m∈S',m∈S)∧(∀m,m ∉ S→cntL c m=cntL cs m)∧∀m∈S,m ∉ S'→cntL c m=0)∧∀m,cntL c m≤cntL cs m:=by
 induction h with
 | nil cs=>
   intro S P h;exact⟨rfl,rfl,⟨S,h,fun m hm=>hm,fun m _=>rfl,fun m hm hn=>absurd hm hn⟩,fun m=>Int.le_refl _⟩
 | none n t cs h0=>
   intro S P h;have:=h.pos n (h.pl n (by simp))
   omega
 | more n t cs e c h1 h2 h3 ih=>
   intro S P h;have hn:=cnt_there h1;have hc:∀m,cntL (addC cs n (-1)) m=if m=n then cntL cs n-1 else cntL cs m:=fun m=>addC_cnt hn m
   have hns:n∈S:=h.pl n (by simp);obtain⟨a1,a2,⟨S',a3,a4,a5,a6⟩,a7⟩:=ih (h.less (n:=n) (P:=t++P) (fun e1=>h2 (by rw [hc,if_pos rfl,e1];rfl)) hc);refine⟨a1,a2.trans (addC_len _ _ _),⟨S',a3,a4,fun m hm=> ?_,a6⟩,fun m=> ?_⟩
   · rw [a5 m hm,hc,if_neg (fun e:m=n=>hm (e ▸ hns))]
   · have:=a7 m
     rw [hc] at this;split at this
     · rename_i he;subst he;omega
     · exact this
 | last n t cs e c h1 h2 h3 ih=>
   intro S P h;have hn:=cnt_there h1;have hc:∀m,cntL (addC cs n (-1)) m=if m=n then cntL cs n-1 else cntL cs m:=fun m=>addC_cnt hn m
   have hns:n∈S:=h.pl n (by simp)
   have e1:cntL cs n=1:=by
    have:=h2
    rw [hc,if_pos rfl] at this;omega
   obtain⟨b1,b2,b3⟩:=h.opened (n:=n) (P:=t++P) e1;have b4:Clo get (cntL (addC cs n (-1))) (S.erase n) (kidsOf (get n)++(t++P)):=b1.same (fun m _=>rfl) fun m hm=>by rw [hc,if_neg (fun e:m=n=>b2 (e ▸ hm))];exact Int.le_refl _
   obtain⟨a1,a2,⟨S',a3,a4,a5,a6⟩,a7⟩:=ih (S:=S.erase n) (P:=P) (by rw [List.append_assoc];exact b4);refine⟨a1,a2.trans (addC_len _ _ _),⟨S',a3,fun m hm=>List.mem_of_mem_erase (a4 m hm),fun m hm=> ?_,fun m hm hm2=> ?_⟩,fun m=> ?_⟩
   · rw [a5 m (fun h=>hm (List.mem_of_mem_erase h)),hc,if_neg (fun e:m=n=>hm (e ▸ hns))]
   · by_cases he:m=n
     · subst he
       rw [a5 m b2,hc,if_pos rfl,e1];rfl
     · exact a6 m ((List.mem_erase_of_ne he).2 hm) hm2
   · have:=a7 m
     rw [hc] at this;split at this
     · rename_i he;subst he;omega
     · exact this
end Go.Cop
namespace Go.Cop
open Go.Proofs.YtkfjilnmnbeokaaGreat.D6 Go.Proofs.YtkfjilnmnbeokaaGreat.Q2
def nextO(hi:Option (List Int)):List ItemV→Option (List Int)
 | []=>hi
 | b :: _=>some b.key
def ltO(k:List Int):Option (List Int)→Prop
 | none=>True
 | some h=>cmpI k h<0
def SegN(P:Int→List ItemV→Prop)(hi:Option (List Int)):List ItemV→List (List ItemV)→Prop
 | [],[]=>True
 | a :: l,L :: LL=>P a.child L∧(∀x∈L,keyR x.key=true∧cmpI a.key x.key≤0∧ltO x.key (nextO hi l))∧SegN P hi l LL
 | _,_=>False
def HandN(look:Int→Option PageV):Nat→PageV→List ItemV→Prop
 | 0,g,L=>g.kind=1∧L=g.items∧∀x∈g.items,(valueL look x.size x.child x.value).2=0
 | lv+1,g,L=>g.kind=2∧g.level=(lv:Int)+1∧∃LL:List (List ItemV),L=LL.flatten∧SegN (fun n M=> ∃c,look n=some c∧4≤c.items.length∧HandN look lv c M) none g.items LL
def SubN(look:Int→Option PageV)(lv:Nat)(n:Int)(L:List ItemV):Prop:= ∃c,look n=some c∧4≤c.items.length∧HandN look lv c L
theorem hand_zero {look:Int→Option PageV}{g:PageV}{L:List ItemV}:HandN look 0 g L↔g.kind=1∧L=g.items∧∀x∈g.items,(valueL look x.size x.child x.value).2=0:=Iff.rfl
theorem hand_succ {look:Int→Option PageV}{lv:Nat}{g:PageV}{L:List ItemV}:HandN look (lv+1) g L↔g.kind=2∧g.level=(lv:Int)+1∧∃LL:List (List ItemV),L=LL.flatten∧SegN (SubN look lv) none g.items LL:=Iff.rfl
theorem seg_mono {P Q:Int→List ItemV→Prop}{hi:Option (List Int)}:∀ {l:List ItemV} {LL:List (List ItemV)},(∀a∈l,∀M,P a.child M→Q a.child M)→SegN P hi l LL→SegN Q hi l LL
 | [],[],_,h=>h
 | [],_ :: _,_,h=>h
 | _ :: _,[],_,h=>h
 | a :: l,L :: LL,hm,⟨h1,h2,h3⟩=>⟨hm a (by simp) L h1,h2,seg_mono (fun b hb=>hm b (by simp [hb])) h3⟩
theorem seg_len {P:Int→List ItemV→Prop}{hi:Option (List Int)}:∀ {l:List ItemV} {LL:List (List ItemV)},SegN P hi l LL→LL.length=l.length
 | [],[],_=>rfl
 | [],_ :: _,h=>h.elim
 | _ :: _,[],h=>h.elim
 | _ :: _,_ :: _,⟨_,_,h⟩=>congrArg (· +1) (seg_len h)
theorem next_app(hi:Option (List Int)):∀(a b:List ItemV),nextO hi (a++b)=nextO (nextO hi b) a
 | [],_=>rfl
 | _ :: _,_=>rfl
theorem seg_app {P:Int→List ItemV→Prop}{hi:Option (List Int)}:∀ {a b:List ItemV} {A B:List (List ItemV)},SegN P (nextO hi b) a A→SegN P hi b B→SegN P hi (a++b) (A++B)
 | [],_,[],_,_,h=>h
 | [],_,_ :: _,_,h,_=>h.elim
 | _ :: _,_,[],_,h,_=>h.elim
 | x :: a,b,L :: A,B,⟨h1,h2,h3⟩,h=>⟨h1,fun y hy=>by have:=h2 y hy;rw [← next_app] at this;exact this,seg_app h3 h⟩
theorem seg_split {P:Int→List ItemV→Prop}{hi:Option (List Int)}:∀ {a b:List ItemV} {LL:List (List ItemV)},SegN P hi (a++b) LL→∃A B,LL=A++B∧SegN P (nextO hi b) a A∧SegN P hi b B
 | [],_,LL,h=>⟨[],LL,rfl,trivial,h⟩
 | _ :: _,_,[],h=>h.elim
 | x :: a,b,L :: LL,⟨h1,h2,h3⟩=>by
   obtain⟨A,B,rfl,h4,h5⟩:=seg_split h3;exact⟨L :: A,B,rfl,⟨h1,by rw [← next_app];exact h2,h4⟩,h5⟩
theorem has_own {l:List ItemV}{i:Nat}(h:i<l.length){k:List Int}:hasR (ownR l i) k=true↔keyR k=true∧cmpI (itemAt l i).key k≤0∧ltO k (nextO none (l.drop (i+1))):=by
 unfold ownR;by_cases h1:i+1<l.length
 · rw [if_pos h1]
   have e:l.drop (i+1)=itemAt l (i+1) :: l.drop (i+2):=by
    rw [itemAt_get h1];exact List.drop_eq_getElem_cons h1
   rw [e];simp only [hasR,Bool.and_eq_true,Bool.or_eq_true,decide_eq_true_eq,nextO,ltO];rw [cmp_neg];simp
 · rw [if_neg h1,List.drop_of_length_le (by omega)]
   simp only [hasR,Bool.and_eq_true,Bool.or_eq_true,decide_eq_true_eq,nextO,ltO];rw [cmp_neg];simp
theorem seg_at {P:Int→List ItemV→Prop}{l:List ItemV}{LL:List (List ItemV)}(h:SegN P none l LL):∀i (hi:i<LL.length),P (itemAt l i).child LL[i]∧∀x∈LL[i],hasR (ownR l i) x.key=true:=by
 intro i hi;have hl:=seg_len h;have hi2:i<l.length:=by omega
 have e:l=l.take i++(itemAt l i :: l.drop (i+1)):=by
  conv=>lhs;rw [← List.take_append_drop i l,List.drop_eq_getElem_cons hi2, ← itemAt_get hi2]
 have h2:=h;rw [e] at h2;obtain⟨A,B,e2,h3,h4⟩:=seg_split h2;have ha:=seg_len h3;rw [List.length_take,Nat.min_eq_left (by omega)] at ha;cases B with
 | nil=>exact h4.elim
 | cons L B=>
   obtain⟨h5,h6,_⟩:=h4
   have e3:LL[i]=L:=by
    subst e2;rw [List.getElem_append_right (by omega)];simp [ha]
   rw [e3];exact⟨h5,fun x hx=>(has_own hi2).2 (h6 x hx)⟩
def ChkAll(look:Int→Option PageV):Prop:= ∀n g,look n=some g→checkP g=0
theorem kid_index {g:PageV}(hk:g.kind=2):kidsOf g=g.items.map (·.child):=by
 unfold kidsOf kidsK;rw [if_neg (by simp [hk]),List.append_nil,List.take_length,List.filter_eq_self.2 (fun x _=>by simp [kidItem,hk])]
theorem kid_leaf {g:PageV}(hk:g.kind=1):kidsOf g=(g.items.filter fun x=>x.child != 0).map (·.child):=by
 unfold kidsOf kidsK;rw [if_neg (by simp [hk]),List.append_nil,List.take_length];congr 1
 refine List.filter_congr fun x _=> ?_
 simp [kidItem,hk]
theorem kid_blob {g:PageV}(hk:g.kind=3)(hn:g.next≠0):g.next∈kidsOf g:=by
 unfold kidsOf;refine List.mem_append_right _ ?_;simp [hk,hn]
theorem items_kid(k:Int):∀(l:List ItemV) (i:Nat) (p:List Int),itemsE k i p l=0→∀x∈l,kidOk k x=true
 | [],_,_,_,x,hx=>by cases hx
 | y :: l,i,p,h,x,hx=>by
   rw [itemsE_cons] at h
   have h1:itemE k i p y=0:=by
    unfold thenE at h;split at h
    · assumption
    · exact absurd h (by assumption)
   have h2:itemsE k (i+1) y.key l=0:=by unfold thenE at h;rw [if_pos h1] at h;exact h
   rcases List.mem_cons.1 hx with rfl | hx
   · unfold itemE at h1
     split at h1
     · cases h1
     · split at h1
       · cases h1
       · split at h1
         · cases h1
         · split at h1
           · cases h1
           · rename_i hv;simpa using hv
   · exact items_kid k l (i+1) y.key h2 x hx
theorem val_chain {look:Int→Option PageV}{sz child:Int}{value:List Int}(h:(valueL look sz child value).2=0)(h32:32<sz):valueL look sz child value=chainL look sz.toNat sz.toNat [] child:=by
 unfold valueL at h ⊢;split
 · rename_i h1;rw [if_pos h1] at h;cases h
 · rw [if_neg (by omega)]
theorem chain_frame {look look':Int→Option PageV}{S:Int→Prop}(hs:∀m,S m→look' m=look m)(hc:∀m,S m→∀g,look m=some g→∀k∈kidsOf g,S k)(N:Nat):∀(k:Nat) (out:List Int) (n:Int),(S n∨N≤out.length)→chainL look' N k out n=chainL look N k out n
 | 0,out,n,_=>rfl
 | k+1,out,n,h=>by
   unfold chainL;by_cases hz:N≤out.length
   · rw [if_pos hz,if_pos hz]
   · rw [if_neg hz,if_neg hz]
     have hn:S n:=h.resolve_right hz;rw [hs n hn];cases hl:look n with
     | none=>rfl
     | some g=>
       simp only;by_cases hk:g.kind≠3
       · rw [if_pos hk,if_pos hk]
       · rw [if_neg hk,if_neg hk]
         by_cases hd:g.data.length=min (N-out.length) 480∧(g.next=0↔N-out.length≤480)
         · rw [if_pos hd,if_pos hd]
           refine chain_frame hs hc N k _ _ ?_;by_cases hn0:g.next=0
           · right
             have:=hd.2.1 hn0
             rw [List.length_append,hd.1];omega
           · left
             exact hc n hn g hl _ (kid_blob (by omega) hn0)
         · rw [if_neg hd,if_neg hd]
theorem value_frame {look look':Int→Option PageV}{S:Int→Prop}(hs:∀m,S m→look' m=look m)(hc:∀m,S m→∀g,look m=some g→∀k∈kidsOf g,S k){sz child:Int}{value:List Int}(h:32<sz→S child):valueL look' sz child value=valueL look sz child value:=by
 unfold valueL;split
 · rfl
 · split
   · rfl
   · exact chain_frame hs hc _ _ _ _ (.inl (h (by omega)))
theorem leaf_child {g:PageV}(hc:checkP g=0)(hk:g.kind=1){x:ItemV}(hx:x∈g.items):(x.size≤32→x.child=0)∧(32<x.size→x.child∈kidsOf g):=by
 have h:=items_kid g.kind g.items 0 [] (items_of_check hc) x hx;unfold kidOk at h;constructor
 · intro h1
   rw [if_pos ⟨hk,h1⟩] at h;simpa using h
 · intro h1
   rw [if_neg (by omega)] at h;have h2:1≤x.child:=(by simpa [isPg] using h:1≤x.child∧x.child≤65536).1;rw [kid_leaf hk];exact List.mem_map.2 ⟨x,List.mem_filter.2 ⟨hx,by simp;omega⟩,rfl⟩
theorem hand_frame {look look':Int→Option PageV}{S:Int→Prop}(hs:∀m,S m→look' m=look m)(hc:∀m,S m→∀g,look m=some g→checkP g=0∧∀k∈kidsOf g,S k):∀(lv:Nat) (g:PageV) (L:List ItemV),checkP g=0→(∀k∈kidsOf g,S k)→HandN look lv g L→HandN look' lv g L
 | 0,g,L,hg,hk,h=>by
   obtain⟨h1,h2,h3⟩:=hand_zero.1 h;refine hand_zero.2 ⟨h1,h2,fun x hx=> ?_⟩;rw [value_frame hs (fun m hm g hg=>(hc m hm g hg).2) fun h32=>hk _ ((leaf_child hg h1 hx).2 h32)];exact h3 x hx
 | lv+1,g,L,hg,hk,h=>by
   obtain⟨h1,h2,LL,h3,h4⟩:=hand_succ.1 h;refine hand_succ.2 ⟨h1,h2,LL,h3,seg_mono (fun a ha M hM=> ?_) h4⟩;obtain⟨c,e1,e2,e3⟩:=hM;have hin:S a.child:=hk _ (by rw [kid_index h1];exact List.mem_map.2 ⟨_,ha,rfl⟩);obtain⟨c1,c2⟩:=hc _ hin c e1;exact⟨c,by rw [hs _ hin];exact e1,e2,hand_frame hs hc lv c M c1 c2 e3⟩
theorem sub_frame {look look':Int→Option PageV}{S:Int→Prop}(hs:∀m,S m→look' m=look m)(hc:∀m,S m→∀g,look m=some g→checkP g=0∧∀k∈kidsOf g,S k){lv:Nat}{n:Int}{L:List ItemV}(hn:S n)(h:SubN look lv n L):SubN look' lv n L:=by
 obtain⟨c,e1,e2,e3⟩:=h;obtain⟨c1,c2⟩:=hc n hn c e1;exact⟨c,by rw [hs n hn];exact e1,e2,hand_frame hs hc lv c L c1 c2 e3⟩
theorem hand_tr {look:Int→Option PageV}(hc:ChkAll look):∀(lv:Nat) (n:Int) (g:PageV) (r:RangeV) (L:List ItemV),look n=some g→HandN look lv g L→(∀x∈L,hasR r x.key=true)→TrK look lv n r L
 | 0,n,g,r,L,hl,h,hr=>by
   obtain⟨h1,rfl,h3⟩:=hand_zero.1 h;exact TrK.leaf n r g hl h1 fun x hx=>⟨hr x hx,h3 x hx⟩
 | lv+1,n,g,r,L,hl,h,hr=>by
   obtain⟨h1,h2,LL,rfl,h4⟩:=hand_succ.1 h;have h5:=seg_at h4;refine TrK.index lv n r g LL hl h1 h2 (seg_len h4) fun i hi=> ?_
   obtain⟨c,e1,e2,e3⟩:=(h5 i hi).1;refine hand_tr hc lv _ c _ _ e1 e3 fun x hx=> ?_
   rw [has_meet,hr x (List.mem_flatten.2 ⟨_,List.getElem_mem hi,hx⟩),(h5 i hi).2 x hx];rfl
end Go.Cop
namespace Go.Cop
open Go.Proofs.YtkfjilnmnbeokaaGreat.D6 Go.Proofs.YtkfjilnmnbeokaaGreat.Q2
def btwK:List Int→List Int→List Int
 | x :: a,y :: b=>if x=y then x :: btwK a b else [x+1]
 | _,_=> [0]
theorem btw_spec:∀ {a b:List Int},cmpI a b<0→U8 b→cmpI a (btwK a b)<0∧cmpI (btwK a b) b≤0
 | [],[],h,_=>by simp [cmpI] at h
 | [],y :: b,_,hb=>by
   have:=hb y (by simp)
   refine⟨by simp [btwK,cmpI],?_⟩;simp only [btwK,cmpI];split
   · omega
   · rw [if_neg (by omega)]
     cases b<;>simp [cmpI]
 | _ :: _,[],h,_=>by simp [cmpI] at h
 | x :: a,y :: b,h,hb=>by
   unfold btwK;by_cases e:x=y
   · subst e
     rw [if_pos rfl];have h':cmpI a b<0:=by simpa [cmpI] using h
     have:=btw_spec h' fun z hz=>hb z (by simp [hz])
     simpa [cmpI] using this
   · rw [if_neg e]
     have hxy:x<y:=by
      by_cases hl:x<y
      · exact hl
      · unfold cmpI at h
        rw [if_neg hl,if_pos (by omega)] at h;omega
     refine⟨by simp [cmpI];omega,?_⟩;unfold cmpI;split
     · omega
     · rw [if_neg (by omega)]
       cases b<;>simp [cmpI]
def nilKey:List ItemV→List ItemV
 | []=> []
 | x :: l=> { x with key:= [] } :: l
def leftG(g:PageV):PageV:= { g with items:=g.items.take 4 }
def rightG(g:PageV):PageV:= { g with items:=if g.kind=2 then nilKey (g.items.drop 4) else g.items.drop 4 }
def sepG(g:PageV):List Int:=if g.kind=2 then(itemAt g.items 4).key else btwK (itemAt g.items 3).key (itemAt g.items 4).key
def insG(g:PageV)(i:Nat)(x:ItemV):PageV:= { g with items:=g.items.take i++x :: g.items.drop i }
def repG(g:PageV)(i:Nat)(x:ItemV):PageV:= { g with items:=g.items.take i++x :: g.items.drop (i+1) }
def childG(g:PageV)(i:Nat)(c:Int):PageV:=repG g i { itemAt g.items i with child:=c }
theorem part_at {l:List ItemV}{i:Nat}(h:i<l.length):l=l.take i++itemAt l i :: l.drop (i+1):=by
 conv=>lhs;rw [← List.take_append_drop i l,List.drop_eq_getElem_cons h, ← itemAt_get h]
def insK(x:ItemV)(L:List ItemV):List ItemV:=(L.filter fun y=>decide (cmpI y.key x.key<0))++x :: L.filter fun y=>decide (cmpI x.key y.key<0)
theorem insK_mid {x:ItemV}{X M Y:List ItemV}(hX:∀y∈X,cmpI y.key x.key<0)(hY:∀y∈Y,cmpI x.key y.key<0):insK x (X++M++Y)=X++insK x M++Y:=by
 have h1:∀y∈X,¬cmpI x.key y.key<0:=fun y hy h=>by have:=hX y hy;rw [cmp_anti] at this;omega
 have h2:∀y∈Y,¬cmpI y.key x.key<0:=fun y hy h=>by have:=hY y hy;rw [cmp_anti] at this;omega
 have e1:(X.filter fun y=>decide (cmpI y.key x.key<0))=X:=List.filter_eq_self.2 fun y hy=>by simpa using hX y hy
 have e2:(Y.filter fun y=>decide (cmpI y.key x.key<0))= []:=List.filter_eq_nil_iff.2 fun y hy=>by simpa using h2 y hy
 have e3:(X.filter fun y=>decide (cmpI x.key y.key<0))= []:=List.filter_eq_nil_iff.2 fun y hy=>by simpa using h1 y hy
 have e4:(Y.filter fun y=>decide (cmpI x.key y.key<0))=Y:=List.filter_eq_self.2 fun y hy=>by simpa using hY y hy
 unfold insK;simp only [List.filter_append,e1,e2,e3,e4];simp
theorem insK_mem {x y:ItemV}{L:List ItemV}(h:y∈insK x L):y∈L∨y=x:=by
 unfold insK at h;rcases List.mem_append.1 h with h | h
 · exact .inl ((List.mem_filter.1 h).1)
 · rcases List.mem_cons.1 h with h | h
   · exact .inr h
   · exact .inl ((List.mem_filter.1 h).1)
theorem seg_hi {P:Int→List ItemV→Prop}{hi hi':Option (List Int)}(hh:∀k,ltO k hi→ltO k hi'):∀ {l:List ItemV} {LL:List (List ItemV)},SegN P hi l LL→SegN P hi' l LL
 | [],[],h=>h
 | [],_ :: _,h=>h
 | _ :: _,[],h=>h
 | a :: l,L :: LL,⟨h1,h2,h3⟩=>⟨h1,fun x hx=>⟨(h2 x hx).1,(h2 x hx).2.1,by
     cases l with
     | nil=>exact hh _ (h2 x hx).2.2
     | cons b l=>exact(h2 x hx).2.2⟩,seg_hi hh h3⟩
theorem seg_lt {P:Int→List ItemV→Prop}{h:List Int}:∀ {l:List ItemV} {LL:List (List ItemV)},(∀a∈l,cmpI a.key h<0)→SegN P (some h) l LL→∀x∈LL.flatten,cmpI x.key h<0
 | [],[],_,_,x,hx=>by cases hx
 | [],_ :: _,_,hs,_,_=>hs.elim
 | _ :: _,[],_,hs,_,_=>hs.elim
 | a :: l,L :: LL,hl,⟨_,h2,h3⟩,x,hx=>by
   rw [List.flatten_cons] at hx;rcases List.mem_append.1 hx with hx | hx
   · have:=(h2 x hx).2.2
     cases l with
     | nil=>exact this
     | cons b l=>exact cmp_lt_le this (Int.le_of_lt (hl b (by simp)))
   · exact seg_lt (fun b hb=>hl b (by simp [hb])) h3 x hx
theorem seg_ge {P:Int→List ItemV→Prop}{hi:Option (List Int)}{k:List Int}:∀ {l:List ItemV} {LL:List (List ItemV)},(∀a∈l,cmpI k a.key≤0)→SegN P hi l LL→∀x∈LL.flatten,cmpI k x.key≤0
 | [],[],_,_,x,hx=>by cases hx
 | [],_ :: _,_,hs,_,_=>hs.elim
 | _ :: _,[],_,hs,_,_=>hs.elim
 | a :: l,L :: LL,hl,⟨_,h2,h3⟩,x,hx=>by
   rw [List.flatten_cons] at hx;rcases List.mem_append.1 hx with hx | hx
   · exact cmp_le (hl a (by simp)) (h2 x hx).2.1
   · exact seg_ge (fun b hb=>hl b (by simp [hb])) h3 x hx
theorem part_lt {l A B:List ItemV}{a:ItemV}(hs:l.Pairwise KeyLt)(e:l=A++a :: B):(∀b∈A,cmpI b.key a.key<0)∧∀b∈B,cmpI a.key b.key<0:=by
 subst e;obtain⟨_,h2,h3⟩:=List.pairwise_append.1 hs;exact⟨fun b hb=>h3 b hb a (by simp),fun b hb=>(List.pairwise_cons.1 h2).1 b hb⟩
theorem first_key {g:PageV}(hc:checkP g=0)(hk:g.kind=2):(itemAt g.items 0).key= []:=by
 have h:=items_of_check hc;cases hl:g.items with
 | nil=>rfl
 | cons x l=>
   rw [hl,itemsE_cons,hk] at h
   have h1:itemE 2 0 [] x=0:=by
    unfold thenE at h;split at h
    · assumption
    · exact absurd h (by assumption)
   unfold itemE at h1;split at h1
   · cases h1
   · rename_i h2
     have:x.key.length=0:=by simpa [keyOk] using h2
     exact List.length_eq_zero_iff.1 this
theorem hand_split {look:Int→Option PageV}{lv:Nat}{g:PageV}{L:List ItemV}(hc:checkP g=0)(hu:∀x∈g.items,U8 x.key)(h8:g.items.length=8)(h:HandN look lv g L):
 ∃LA LB,L=LA++LB∧HandN look lv (leftG g) LA∧HandN look lv (rightG g) LB∧(∀x∈LA,cmpI x.key (sepG g)<0)∧∀x∈LB,cmpI (sepG g) x.key≤0:=by
 have hs:=page_sorted hc;have e4:g.items=g.items.take 4++itemAt g.items 4 :: g.items.drop 5:=part_at (by omega);have e3:g.items=g.items.take 3++itemAt g.items 3 :: g.items.drop 4:=part_at (by omega);have d4:g.items.drop 4=itemAt g.items 4 :: g.items.drop 5:=by rw [itemAt_get (by omega)];exact List.drop_eq_getElem_cons (by omega)
 obtain⟨l4,g4⟩:=part_lt hs e4;cases lv with
 | zero=>
   obtain⟨h1,rfl,h3⟩:=hand_zero.1 h;have hk2:¬g.kind=2:=by omega
   have hb:=btw_spec (a:=(itemAt g.items 3).key) (b:=(itemAt g.items 4).key) (page_lt hc (by omega) (by omega)) (hu _ (getD_mem (by omega)));refine⟨g.items.take 4,g.items.drop 4,(List.take_append_drop 4 _).symm,hand_zero.2 ⟨h1,rfl,fun x hx=>h3 x (List.mem_of_mem_take hx)⟩,hand_zero.2 ⟨h1,?_,?_⟩,fun x hx=> ?_,fun x hx=> ?_⟩
   · show _=(if g.kind=2 then _ else g.items.drop 4)
     rw [if_neg hk2]
   · show ∀x∈(if g.kind=2 then _ else g.items.drop 4),_
     rw [if_neg hk2];exact fun x hx=>h3 x (List.mem_of_mem_drop hx)
   · unfold sepG
     rw [if_neg hk2];obtain⟨l3,_⟩:=part_lt hs e3
     have ht:g.items.take 4=g.items.take 3++ [itemAt g.items 3]:=by
      rw [itemAt_get (by omega)];exact List.take_succ_eq_append_getElem (by omega)
     rw [ht] at hx;rcases List.mem_append.1 hx with hx | hx
     · exact cmp_lt_le (l3 x hx) (Int.le_of_lt hb.1)
     · rw [List.mem_singleton.1 hx]
       exact hb.1
   · unfold sepG
     rw [if_neg hk2];rw [d4] at hx;rcases List.mem_cons.1 hx with rfl | hx
     · exact hb.2
     · exact cmp_le hb.2 (Int.le_of_lt (g4 x hx))
 | succ lv=>
   obtain⟨h1,h2,LL,rfl,h4⟩:=hand_succ.1 h;rw [e4] at h4;obtain⟨A,B,rfl,h5,h6⟩:=seg_split h4;cases B with
   | nil=>exact h6.elim
   | cons M B=>
     obtain⟨h7,h8',h9⟩:=h6;have esep:sepG g=(itemAt g.items 4).key:=by unfold sepG;rw [if_pos h1]
     refine⟨A.flatten,(M :: B).flatten,by rw [List.flatten_append],hand_succ.2 ⟨h1,h2,A,rfl,seg_hi (hi':=none) (fun _ _=>trivial) h5⟩,hand_succ.2 ⟨h1,h2,M :: B,rfl,?_⟩,fun x hx=> ?_,fun x hx=> ?_⟩
     · show SegN _ none (if g.kind=2 then nilKey (g.items.drop 4) else g.items.drop 4) _
       rw [if_pos h1,d4];exact⟨h7,fun x hx=>⟨(h8' x hx).1,by cases x.key<;>simp [cmpI],(h8' x hx).2.2⟩,h9⟩
     · rw [esep]
       exact seg_lt l4 h5 x hx
     · rw [esep]
       refine seg_ge (l:=itemAt g.items 4 :: g.items.drop 5) (hi:=none) (fun a ha=> ?_) (show SegN _ none (itemAt g.items 4 :: g.items.drop 5) (M :: B) from⟨h7,h8',h9⟩) x hx;rcases List.mem_cons.1 ha with rfl | ha
       · rw [cmp_self];exact Int.le_refl _
       · exact Int.le_of_lt (g4 a ha)
theorem hand_at {look:Int→Option PageV}{lv:Nat}{g:PageV}{L:List ItemV}{key:List Int}(hc:checkP g=0)(h:HandN look (lv+1) g L):
 routeK g.items key<g.items.length∧∃X M Y,L=X++M++Y∧SubN look lv (itemAt g.items (routeK g.items key)).child M∧(∀x∈X,cmpI x.key key<0)∧(∀y∈Y,cmpI key y.key<0)∧
  (∀x∈M,keyR x.key=true∧cmpI (itemAt g.items (routeK g.items key)).key x.key≤0∧ltO x.key (nextO none (g.items.drop (routeK g.items key+1))))∧
  (cmpI (itemAt g.items (routeK g.items key)).key key≤0∧ltO key (nextO none (g.items.drop (routeK g.items key+1))))∧
  ∀(look':Int→Option PageV) (r:ItemV) (R:List ItemV) (RR:List (List ItemV)),r.key=(itemAt g.items (routeK g.items key)).key→(∀a∈g.items.take (routeK g.items key)++g.items.drop (routeK g.items key+1),∀Z,SubN look lv a.child Z→SubN look' lv a.child Z)→
   SegN (SubN look' lv) (nextO none (g.items.drop (routeK g.items key+1))) (r :: R) RR→HandN look' (lv+1) { g with items:=g.items.take (routeK g.items key)++(r :: R)++g.items.drop (routeK g.items key+1) } (X++RR.flatten++Y):=by
 obtain⟨h1,h2,LL,rfl,h4⟩:=hand_succ.1 h;have hf:=(form_of_check hc).index h1;obtain⟨r1,r2,r3⟩:=route_spec key (l:=g.items) (fun e=>by have:=hf.2.2;rw [e] at this;simp at this);generalize routeK g.items key=i at r1 r2 r3 ⊢;have e:=part_at r1;obtain⟨lA,gB⟩:=part_lt (page_sorted hc) e;rw [e] at h4;obtain⟨A,B,rfl,h5,h6⟩:=seg_split h4
 have key0:cmpI (itemAt g.items i).key key≤0:=by
  cases i with
  | zero=>
    have h0:(itemAt g.items 0).key= []:=first_key hc h1;rw [h0];cases key<;>simp [cmpI]
  | succ i=>exact r2 (i+1) (by omega) (Nat.le_refl _)
 cases B with
 | nil=>exact h6.elim
 | cons M B=>
   obtain⟨h7,h8,h9⟩:=h6;refine⟨r1,A.flatten,M,B.flatten,by simp,h7,fun x hx=>cmp_lt_le (seg_lt lA h5 x hx) key0,fun y hy=> ?_,h8,⟨key0,?_⟩,fun look' r R RR hr hm hs=> ?_⟩
   · have hlast:i+1<g.items.length:=by
      by_cases hl:i+1<g.items.length
      · exact hl
      · rw [List.drop_of_length_le (by omega)] at h9
        cases B with
        | nil=>cases hy
        | cons _ _=>exact h9.elim
     refine cmp_lt_le (by have:=r3 hlast;rw [cmp_anti] at this;omega) (seg_ge (k:=(itemAt g.items (i+1)).key) (fun a ha=> ?_) h9 y hy);have d:g.items.drop (i+1)=itemAt g.items (i+1) :: g.items.drop (i+2):=by rw [itemAt_get hlast];exact List.drop_eq_getElem_cons hlast
     rw [d] at ha;rcases List.mem_cons.1 ha with rfl | ha
     · rw [cmp_self];exact Int.le_refl _
     · exact Int.le_of_lt ((part_lt (page_sorted hc) (part_at hlast)).2 a ha)
   · by_cases hl:i+1<g.items.length
     · have d:g.items.drop (i+1)=itemAt g.items (i+1) :: g.items.drop (i+2):=by rw [itemAt_get hl];exact List.drop_eq_getElem_cons hl
       rw [d];show cmpI key (itemAt g.items (i+1)).key<0
       have:=r3 hl
       rw [cmp_anti] at this;omega
     · rw [List.drop_of_length_le (by omega)]
       trivial
   · refine hand_succ.2 ⟨h1,h2,A++RR++B,by simp,?_⟩
     refine seg_app (seg_app ?_ hs) (seg_mono (fun a ha Z hz=>hm a (List.mem_append_right _ ha) Z hz) h9);have h5':=seg_mono (Q:=SubN look' lv) (fun a ha Z hz=>hm a (List.mem_append_left _ ha) Z hz) h5;show SegN _ (some r.key) _ _
     rw [hr];exact h5'
theorem route_uniq {g:PageV}{key:List Int}{j:Nat}(hs:g.items.Pairwise KeyLt)(hj:j<g.items.length)(h1:1≤j→cmpI (itemAt g.items j).key key≤0)(h2:j+1<g.items.length→cmpI key (itemAt g.items (j+1)).key<0):routeK g.items key=j:=by
 obtain⟨r1,r2,r3⟩:=route_spec key (l:=g.items) (fun e=>by rw [e] at hj;simp at hj)
 have lt:∀a b,a<b→b<g.items.length→cmpI (itemAt g.items a).key (itemAt g.items b).key<0:=by
  intro a b hab hb;rw [itemAt_get (by omega),itemAt_get hb];exact List.pairwise_iff_getElem.1 hs a b (by omega) hb hab
 rcases Nat.lt_trichotomy (routeK g.items key) j with h | h | h
 · exfalso
   have a1:=r3 (by omega);have a2:=h1 (by omega)
   have a3:cmpI (itemAt g.items (routeK g.items key+1)).key (itemAt g.items j).key≤0:=by
    by_cases e:routeK g.items key+1=j
    · rw [e,cmp_self];exact Int.le_refl _
    · exact Int.le_of_lt (lt _ _ (by omega) hj)
   have:=cmp_le a3 a2
   omega
 · exact h
 · exfalso
   have a1:=h2 (by omega);have a2:=r2 (routeK g.items key) (by omega) (Nat.le_refl _)
   have a3:cmpI (itemAt g.items (j+1)).key (itemAt g.items (routeK g.items key)).key≤0:=by
    by_cases e:j+1=routeK g.items key
    · rw [e,cmp_self];exact Int.le_refl _
    · exact Int.le_of_lt (lt _ _ (by omega) r1)
   have:=cmp_lt_le a1 (cmp_le a3 a2)
   rw [cmp_self] at this;omega
end Go.Cop
namespace Go.Cop
def commonI:List Int→List Int→Nat
 | x :: a,y :: b=>if x=y then commonI a b+1 else 0
 | _,_=>0
theorem common_le:∀A B:List Int,commonI A B≤A.length∧commonI A B≤B.length
 | [],_=>by simp [commonI]
 | _ :: _,[]=>by simp [commonI]
 | x :: a,y :: b=>by
   have:=common_le a b
   unfold commonI;split
   · simp only [List.length_cons];omega
   · simp
theorem common_step:∀(k:Nat) (A B:List Int),k≤commonI A B→k<A.length→k<B.length→(A.getD k 0=B.getD k 0→k+1≤commonI A B)∧(A.getD k 0≠B.getD k 0→commonI A B=k)
 | _,[],_,_,h,_=>by simp at h
 | _,_ :: _,[],_,_,h=>by simp at h
 | 0,x :: a,y :: b,_,_,_=>by
   unfold commonI;by_cases e:x=y
   · rw [if_pos e]
     exact⟨fun _=>by omega,fun h=>absurd e (by simpa using h)⟩
   · rw [if_neg e]
     exact⟨fun h=>absurd (by simpa using h) e,fun _=>rfl⟩
 | k+1,x :: a,y :: b,hk,h1,h2=>by
   unfold commonI at hk ⊢;by_cases e:x=y
   · rw [if_pos e] at hk ⊢
     have:=common_step k a b (by omega) (by simpa using h1) (by simpa using h2)
     simp only [List.getD_cons_succ];exact⟨fun h=>by have:=this.1 h;omega,fun h=>by have:=this.2 h;omega⟩
   · rw [if_neg e] at hk;omega
theorem btw_common:∀A B:List Int,cmpI A B<0→commonI A B<B.length∧btwK A B=B.take (commonI A B)++ [if commonI A B=A.length then 0 else A.getD (commonI A B) 0+1]∧(commonI A B≠A.length→A.getD (commonI A B) 0<B.getD (commonI A B) 0)
 | [],[],h=>by simp [cmpI] at h
 | [],y :: b,_=>by simp [commonI,btwK]
 | _ :: _,[],h=>by simp [cmpI] at h
 | x :: a,y :: b,h=>by
   unfold commonI btwK;by_cases e:x=y
   · subst e
     rw [if_pos rfl,if_pos rfl];have h':cmpI a b<0:=by simpa [cmpI] using h
     obtain⟨h1,h2,h3⟩:=btw_common a b h';refine⟨by simpa using h1,?_,fun hn=> ?_⟩
     · rw [h2]
       simp only [List.take_succ_cons,List.cons_append,List.length_cons,List.getD_cons_succ,Nat.add_right_cancel_iff]
     · simp only [List.getD_cons_succ]
       exact h3 (by simpa using hn)
   · rw [if_neg e,if_neg e]
     have hxy:x<y:=by
      by_cases hl:x<y
      · exact hl
      · unfold cmpI at h
        rw [if_neg hl,if_pos (by omega)] at h;omega
     simp [hxy]
def betB(A B:List Int):Bool:=decide (cmpI A B<0) && decide (commonI A B<24)
theorem bet_len {A B:List Int}(h:cmpI A B<0):(btwK A B).length=commonI A B+1:=by
 obtain⟨h1,h2,_⟩:=btw_common A B h;rw [h2,List.length_append,List.length_take];simp
 omega
end Go.Cop
