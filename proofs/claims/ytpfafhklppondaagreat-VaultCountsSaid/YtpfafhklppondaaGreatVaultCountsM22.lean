/- The document's EqItem, EqPage at two that are the same; the conditions stand as hypotheses. -/
import Derived.Test.YtpfafhklppondaaGreatVaultCountsM15
import Derived.Test.YtpfafhklppondaaGreatVaultCountsM21
import Derived.Test.YtpfafhklppondaaGreatVaultCountsM14
import Derived.Test.YtpfafhklppondaaGreatVaultCountsM16
import Derived.Test.YtpfafhklppondaaGreatVaultCountsM01
set_option maxRecDepth 100000
set_option maxHeartbeats 16000000
namespace Go.Proofs.YtpfafhklppondaaGreat.Z6
open ChangeShapes WideShapes ChangeAt RowKit Sl Cop Q2 X2 D3 J4 P4 U4 Z4 Q6
theorem eqitem_same(ha hb:Hp)(va vb:Value)(x:ItemV)(h1:ItemIn ha va x)(h2:ItemIn hb vb x)(hn:x.key.length≤9000000000000000000∧x.value.length≤9000000000000000000)(w:World)(l1:ha.le w)(l2:hb.le w):
 Calls Tryz.prog 16 #[va,vb] w fun e w'=>e= .returned (.bool true)∧Only w w':=by
 obtain⟨k1,v1,rfl,hk1,hv1⟩:=h1;obtain⟨k2,v2,rfl,hk2,hv2⟩:=h2;obtain⟨a1,c1,rfl⟩:=bytes_shape hk1;obtain⟨a2,c2,rfl⟩:=bytes_shape hv1;obtain⟨a3,c3,rfl⟩:=bytes_shape hk2;obtain⟨a4,c4,rfl⟩:=bytes_shape hv2
 obtain⟨w0,hw0⟩:∃w0,(w.alloc (itemC (.slice a1 x.key.length c1) (.slice a2 x.value.length c2) x.child x.size)).alloc (itemC (.slice a3 x.key.length c3) (.slice a4 x.value.length c4) x.child x.size)=w0:=⟨_,rfl⟩;have ho0:Only w w0:=hw0 ▸ ((Only.refl w).alloc _).alloc _
 have facts:∀wr,Only w0 wr→(wr.cell? ⟨w.heap.size,0,none⟩=some (.slice a1 x.key.length c1)∧wr.cell? ⟨w.heap.size,1,none⟩=some (.slice a2 x.value.length c2)∧wr.cell? ⟨w.heap.size,2,none⟩=some (.int .i64 x.child)∧wr.cell? ⟨w.heap.size,3,none⟩=some (.int .i64 x.size))∧
  (wr.cell? ⟨w.heap.size+1,0,none⟩=some (.slice a3 x.key.length c3)∧wr.cell? ⟨w.heap.size+1,1,none⟩=some (.slice a4 x.value.length c4)∧wr.cell? ⟨w.heap.size+1,2,none⟩=some (.int .i64 x.child)∧wr.cell? ⟨w.heap.size+1,3,none⟩=some (.int .i64 x.size))∧ha.le wr∧hb.le wr∧w.heap.size+1<wr.heap.size:=by
  intro wr ho;subst hw0;have s1:Sat ((Pr.pts w.heap.size (itemC (.slice a1 x.key.length c1) (.slice a2 x.value.length c2) x.child x.size)).star Pr.emp) (w.alloc (itemC (.slice a1 x.key.length c1) (.slice a2 x.value.length c2) x.child x.size)):=(sat_emp w).alloc _;have s2:=s1.alloc (itemC (.slice a3 x.key.length c3) (.slice a4 x.value.length c4) x.child x.size)
  rw [show (w.alloc (itemC (.slice a1 x.key.length c1) (.slice a2 x.value.length c2) x.child x.size)).heap.size=w.heap.size+1 by simp] at s2;have s3:=s2.only ho;obtain⟨p0,p1,p2,p3,_,_⟩:=pts4 s3.right;obtain⟨r0,r1,r2,r3,_,zz⟩:=pts4 s3;exact⟨⟨p0,p1,p2,p3⟩,⟨r0,r1,r2,r3⟩,le_only (le_only l1 ho0) ho,le_only (le_only l2 ho0) ho,zz⟩
 have FA:=hQ facts;have HO0:=hQ ho0;have H1:=hQ (And.intro hk1 hv1);have H2:=hQ (And.intro hk2 hv2);clear facts ho0 hk1 hv1 hk2 hv2 l1 l2;obtain⟨⟨p0,p1,p2,p3⟩,⟨r0,r1,r2,r3⟩,e1,e2,z⟩:=FA.out w0 (Only.refl _);go_enter Tryz.func16,Tryz.ntmps16
 go_wp2_with fail
 refine(eq_same ha hb _ _ x.key H1.out.1 H2.out.1 hn.1 _ e1 e2).mono ?_;rintro e w1 ⟨rfl,ho1⟩;clear p0 p1 p2 p3 r0 r1 r2 r3 e1 e2 z;obtain⟨⟨p0,p1,p2,p3⟩,⟨r0,r1,r2,r3⟩,e1,e2,z⟩:=FA.out w1 ho1;go_wp2_with fail
 refine(eq_same ha hb _ _ x.value H1.out.2 H2.out.2 hn.2 _ e1 e2).mono ?_;rintro e w2 ⟨rfl,ho2⟩;go_wp2;go_ret;exact⟨rfl,HO0.out.trans (ho1.trans ho2)⟩
theorem eqpage_same(ha hb:Hp)(va vb:Value)(g:PageV)(h1:PageIn ha va g)(h2:PageIn hb vb g)(hf:Fit g)(w:World)(l1:ha.le w)(l2:hb.le w):
 Calls Tryz.prog 39 #[va,vb] w fun e w'=>e= .returned (.bool true)∧Only w w':=by
 obtain⟨i1,d1,rfl,hi1,hd1⟩:=h1;obtain⟨i2,d2,rfl,hi2,hd2⟩:=h2;obtain⟨a1,c1,rfl,_,rd1⟩:=items_rd hi1;obtain⟨a3,c3,rfl,_,rd2⟩:=items_rd hi2;obtain⟨a2,c2,rfl⟩:=bytes_shape hd1;obtain⟨a4,c4,rfl⟩:=bytes_shape hd2;obtain⟨k,l,its,dat,nx⟩:=g;dsimp only at*;have hn1:(its.length:Int)≤8:=by have:=hf.n;dsimp only at this;omega
 have hdl:dat.length≤9000000000000000000:=by have:=hf.d;dsimp only at this;omega
 have hkk:∀y∈its,y.key.length≤9000000000000000000∧y.value.length≤9000000000000000000:=fun y hy=>by have:=hf.k y hy;omega
 obtain⟨w0,hw0⟩:∃w0,(w.alloc (pageC k l (.slice a1 its.length c1) (.slice a2 dat.length c2) nx)).alloc (pageC k l (.slice a3 its.length c3) (.slice a4 dat.length c4) nx)=w0:=⟨_,rfl⟩;have ho0:Only w w0:=hw0 ▸ ((Only.refl w).alloc _).alloc _
 have facts:∀wr,Only w0 wr→(wr.cell? ⟨w.heap.size,0,none⟩=some (.int .i64 k)∧wr.cell? ⟨w.heap.size,1,none⟩=some (.int .i64 l)∧wr.cell? ⟨w.heap.size,2,none⟩=some (.slice a1 its.length c1)∧wr.cell? ⟨w.heap.size,3,none⟩=some (.slice a2 dat.length c2)∧wr.cell? ⟨w.heap.size,4,none⟩=some (.int .i64 nx))∧
  (wr.cell? ⟨w.heap.size+1,0,none⟩=some (.int .i64 k)∧wr.cell? ⟨w.heap.size+1,1,none⟩=some (.int .i64 l)∧wr.cell? ⟨w.heap.size+1,2,none⟩=some (.slice a3 its.length c3)∧wr.cell? ⟨w.heap.size+1,3,none⟩=some (.slice a4 dat.length c4)∧wr.cell? ⟨w.heap.size+1,4,none⟩=some (.int .i64 nx))∧ha.le wr∧hb.le wr∧w.heap.size+1<wr.heap.size:=by
  intro wr ho;subst hw0;have s1:Sat ((Pr.pts w.heap.size (pageC k l (.slice a1 its.length c1) (.slice a2 dat.length c2) nx)).star Pr.emp) (w.alloc (pageC k l (.slice a1 its.length c1) (.slice a2 dat.length c2) nx)):=(sat_emp w).alloc _;have s2:=s1.alloc (pageC k l (.slice a3 its.length c3) (.slice a4 dat.length c4) nx)
  rw [show (w.alloc (pageC k l (.slice a1 its.length c1) (.slice a2 dat.length c2) nx)).heap.size=w.heap.size+1 by simp] at s2;have s3:=s2.only ho;obtain⟨p0,p1,p2,p3,p4,_,_⟩:=pts5 s3.right;obtain⟨r0,r1,r2,r3,r4,_,zz⟩:=pts5 s3;exact⟨⟨p0,p1,p2,p3,p4⟩,⟨r0,r1,r2,r3,r4⟩,le_only (le_only l1 ho0) ho,le_only (le_only l2 ho0) ho,zz⟩
 have FA:=hQ facts;have HO0:=hQ ho0;have RD1:=hQ rd1;have RD2:=hQ rd2;have HD1:=hQ hd1;have HD2:=hQ hd2;have HK:=hQ hkk;clear facts ho0 rd1 rd2 hd1 hd2 hi1 hi2 l1 l2 hkk hf;obtain⟨⟨p0,p1,p2,p3,p4⟩,⟨r0,r1,r2,r3,r4⟩,e1,e2,z⟩:=FA.out w0 (Only.refl _);go_enter Tryz.func39,Tryz.ntmps39
 go_wp2_with fail
 refine(eq_same ha hb _ _ dat HD1.out HD2.out hdl _ e1 e2).mono ?_;rintro e w1 ⟨rfl,ho1⟩;clear p0 p1 p2 p3 p4 r0 r1 r2 r3 r4 e1 e2 z;go_wp2_with fail
 go_loopw [5] (fun i wr=> ∃r:Nat,r≤its.length∧i= .int .i64 r∧Only w0 wr) (fun i _=>its.length-(intOf i).toNat)
 case atStart=>exact⟨0,Nat.zero_le _,rfl,ho1⟩
 case round=>
  obtain⟨r,hr,rfl,ho⟩:=hrel;obtain⟨⟨p0,p1,p2,p3,p4⟩,⟨r0,r1,r2,r3,r4⟩,e1,e2,z⟩:=FA.out wr ho;rcases Nat.lt_or_ge r its.length with hlt | hge
  · obtain⟨b1,o1,ak1,ck1,av1,cv1,rfl,hbk1,hbv1,hc1⟩:=RD1.out r hlt
    obtain⟨b2,o2,ak2,ck2,av2,cv2,rfl,hbk2,hbv2,hc2⟩:=RD2.out r hlt;obtain⟨s0,s1,s2,s3⟩:=hc1 wr e1;obtain⟨t0,t1,t2,t3⟩:=hc2 wr e2;have HX:=hQ (HK.out its[r] (List.getElem_mem hlt));have HC1:=hQ hc1;have HC2:=hQ hc2;have HO:=hQ ho;clear hc1 hc2 ho;generalize its[r]=x at*;go_wp2_with fail
    refine wS 61 [0,1,2,3,4,5,6,7,8,9] [(10,[11],[0,1,2,3,5,6,7,8])] ?_;refine wpQ_all _ rfl rfl ?_;simp only [pick,pQ];iterate 10 (go_big_quiet_step (fail))
    refine wpQuiet_nil ?_;refine wpRest_act rfl ?_;go_wp2_with fail
    refine(eqitem_same ha hb _ _ x ⟨_,_,rfl,hbk1,hbv1⟩ ⟨_,_,rfl,hbk2,hbv2⟩ HX.out _ (le_only e1 ((Only.refl _).drew)) (le_only e2 ((Only.refl _).drew))).mono ?_;rintro e w2 ⟨rfl,ho2⟩;have HO2:=hQ (HO.out.drew.trans ho2);clear p0 p1 p2 p3 p4 r0 r1 r2 r3 r4 e1 e2 z s0 s1 s2 s3 t0 t1 t2 t3;obtain⟨⟨p0,p1,p2,p3,p4⟩,⟨r0,r1,r2,r3,r4⟩,e1,e2,z⟩:=FA.out w2 HO2.out;obtain⟨s0,s1,s2,s3⟩:=HC1.out w2 e1
    obtain⟨t0,t1,t2,t3⟩:=HC2.out w2 e2;go_wp2;refine onN_mk ?_;refine wpQ_all _ rfl rfl ?_;simp only [pick,pQ];iterate 1 (go_big_quiet_step (fail))
    refine wpQuiet_nil ⟨?_,?_⟩
    · exact cQ
    refine wpRest_nil ?_;go_wp2;go_roundw
    case rel=>exact⟨r+1,by omega,congrArg (Value.int .i64) (by omega),HO2.out⟩
    case measure=>simp [intOf];omega
  · have hrl:r=its.length:=by omega
    subst hrl;have HO:=hQ ho;clear ho;go_wp2;go_ret;exact⟨rfl,HO0.out.trans HO.out⟩
end Go.Proofs.YtpfafhklppondaaGreat.Z6
namespace Go.Cop
def addC(cs:List Int)(n b:Int):List Int:=cs.set (n.toNat-1) (cntL cs n+b)
theorem addC_len(cs:List Int)(n b:Int):(addC cs n b).length=cs.length:=List.length_set
theorem addC_cnt {cs:List Int}{n b:Int}(hn:1≤n∧n≤cs.length)(m:Int):cntL (addC cs n b) m=if m=n then cntL cs n+b else cntL cs m:=by
 unfold cntL;rw [addC_len];by_cases hm:1≤m∧m≤cs.length
 · rw [if_pos hm,if_pos hn,if_pos hm]
   unfold addC;rw [List.getD_eq_getElem?_getD];by_cases h:m=n
   · subst h
     rw [if_pos rfl,List.getElem?_set_self (by omega)];unfold cntL;rw [if_pos hn];rfl
   · rw [if_neg h,List.getElem?_set_ne (by omega), ← List.getD_eq_getElem?_getD]
 · rw [if_neg hm,if_neg hm]
   by_cases h:m=n
   · subst h;exact absurd hn hm
   · rw [if_neg h]
inductive DropR (get : Int → PageV) : List Int → List Int → Int → List Int → Prop where
  | nil (cs : List Int) : DropR get [] cs 0 cs
  | none (n : Int) (t cs : List Int) : cntL cs n = 0 → DropR get (n :: t) cs 15 cs
  | more (n : Int) (t cs : List Int) (e : Int) (c : List Int) : cntL cs n ≠ 0 → cntL (addC cs n (-1)) n ≠ 0 → DropR get t (addC cs n (-1)) e c → DropR get (n :: t) cs e c
  | last (n : Int) (t cs : List Int) (e : Int) (c : List Int) : cntL cs n ≠ 0 → cntL (addC cs n (-1)) n = 0 → DropR get (kidsOf (get n) ++ t) (addC cs n (-1)) e c → DropR get (n :: t) cs e c
theorem DropR.append {get:Int→PageV}{l cs:List Int}{e:Int}{c:List Int}(h:DropR get l cs e c):∀ {t:List Int} {e2:Int} {c2:List Int},e=0→DropR get t c e2 c2→DropR get (l++t) cs e2 c2:=by
 induction h with
 | nil cs=>intro t e2 c2 _ h2;exact h2
 | none n t cs h0=>intro t' e2 c2 h;cases h
 | more n t cs e c h1 h2 h3 ih=>intro t' e2 c2 he g;exact .more _ _ _ _ _ h1 h2 (ih he g)
 | last n t cs e c h1 h2 h3 ih=>
   intro t' e2 c2 he g;have:=ih he g
   rw [List.append_assoc] at this;exact .last _ _ _ _ _ h1 h2 this
theorem DropR.fail {get:Int→PageV}{l cs:List Int}{e:Int}{c:List Int}(h:DropR get l cs e c):∀ {t:List Int},e≠0→DropR get (l++t) cs e c:=by
 induction h with
 | nil cs=>intro t h;exact absurd rfl h
 | none n t cs h0=>intro t' _;exact .none _ _ _ h0
 | more n t cs e c h1 h2 h3 ih=>intro t' he;exact .more _ _ _ _ _ h1 h2 (ih he)
 | last n t cs e c h1 h2 h3 ih=>
   intro t' he;have:=ih (t:=t') he
   rw [List.append_assoc] at this;exact .last _ _ _ _ _ h1 h2 this
def sumC(cs:List Int):Nat:=(cs.map Int.toNat).sum
theorem sum_set(cs:List Nat):∀(i v:Nat) (hi:i<cs.length),(cs.set i v).sum+cs[i]=cs.sum+v:=by
 induction cs with
 | nil=>intro i v hi;simp at hi
 | cons x cs ih=>
   intro i v hi;cases i with
   | zero=>simp only [List.set_cons_zero,List.sum_cons,List.getElem_cons_zero];omega
   | succ i=>
     have:=ih i v (by simpa using hi)
     simp only [List.set_cons_succ,List.sum_cons,List.getElem_cons_succ];omega
theorem sum_addC {cs:List Int}{n b:Int}(hn:1≤n∧n≤cs.length)(h0:0≤cntL cs n)(h1:0≤cntL cs n+b):(sumC (addC cs n b):Int)=sumC cs+b:=by
 unfold sumC addC;rw [List.map_set];have hi:n.toNat-1<(cs.map Int.toNat).length:=by rw [List.length_map];omega
 have h:=sum_set (cs.map Int.toNat) (n.toNat-1) (cntL cs n+b).toNat hi;rw [List.getElem_map] at h
 have hc:cs[n.toNat-1]'(by omega)=cntL cs n:=by
  unfold cntL;rw [if_pos hn,List.getD_eq_getElem?_getD,List.getElem?_eq_getElem (by omega)];rfl
 rw [hc] at h;omega
theorem nodup_len:∀(N:Nat) (l:List Int),l.Nodup→(∀x∈l,1≤x∧x≤N)→l.length≤N
 | 0,l,_,h=>by
   cases l with
   | nil=>exact Nat.le_refl _
   | cons x l=>have:=h x (by simp);omega
 | N+1,l,hn,h=>by
   have h1:=nodup_len N (l.erase ((N:Int)+1)) (hn.erase _) (fun x hx=>by
    have h2:=List.Nodup.mem_erase_iff hn |>.1 hx
    have h3:=h x h2.2
    have:x≠(N:Int)+1:=h2.1
    omega)
   have h4:=List.length_erase (a:=((N:Int)+1)) (l:=l);split at h4<;>omega
end Go.Cop
namespace Go.Proofs.YtpfafhklppondaaGreat.B7
open ChangeShapes WideShapes ChangeAt RowKit Sl Cop P3 G4 Q2 X2 J4 L4 P4 Q6 X6
theorem rkids_any(h:Hp)(v:Value)(g:PageV)(hv:PageIn h v g)(hn:g.items.length≤65536)(F:Pr)(w:World)(hF:Sat ((Pr.own h).star F) w):
 Calls Tryz.prog 46 #[v] w fun e w'=> ∃v',e= .returned v'∧Sat ((IntsRow v' (kidsOf g)).star ((Pr.own h).star F)) w'∧Stays w w':=by
 obtain⟨vi,vd,rfl,hi,hd⟩:=hv;obtain⟨ai,ci,rfl,_,rd⟩:=items_rd hi;obtain⟨ad,cd,rfl⟩:=bytes_shape hd;have h1:=hF.alloc (pageC g.kind g.level (.slice ai g.items.length ci) (.slice ad g.data.length cd) g.next);have h2:=h1.alloc (.cells #[] 3);rw [show (w.alloc (pageC g.kind g.level (.slice ai g.items.length ci) (.slice ad g.data.length cd) g.next)).heap.size=w.heap.size+1 by simp] at h2
 have h3:Sat ((IntsRow (.slice (some ⟨w.heap.size+1,0,none⟩) 0 0) []).star ((Pr.pts w.heap.size (pageC g.kind g.level (.slice ai g.items.length ci) (.slice ad g.data.length cd) g.next)).star ((Pr.own h).star F))) _:=
  Row.mk' (T:=3) (k:=1) (n:=0) (cap:=0) (xs:= []) (sp:= []) (by simp) (by simp) (Nat.le_refl _) (by simp) (by simpa using h2)
 have H1:=hQ h3;have RD:=hQ rd;have HST:=hQ (((Stays.refl w).alloc (pageC g.kind g.level (.slice ai g.items.length ci) (.slice ad g.data.length cd) g.next)).alloc (.cells #[] 3));have hl0:(g.items.length:Int)≤65536:=by omega
 obtain⟨i0,hi0,hz0,hz1,hz2⟩:=info_parts infoInt;clear hF h1 h2 h3 hi hd rd;go_enter Tryz.func46,Tryz.ntmps46
 go_wp2;go_loopw [3,4] (fun l i wr=> ∃k:Nat,k≤g.items.length∧i= .int .i64 k∧Stays w wr∧Sat ((IntsRow l (kidsK g k)).star ((Pr.pts w.heap.size (pageC g.kind g.level (.slice ai g.items.length ci) (.slice ad g.data.length cd) g.next)).star ((Pr.own h).star F))) wr) (fun _ i _=>g.items.length-(intOf i).toNat)
 case atStart=>exact⟨0,Nat.zero_le _,rfl,HST.out,H1.out⟩
 case round=>
  obtain⟨k,hk,rfl,hst,hs⟩:=hrel;clear H1 HST;obtain⟨al,cl,rfl,_,_⟩:=Row.read hs;obtain⟨p0,p1,p2,p3,p4,_,pz⟩:=pts5 hs.right;have hkl:=kidsK_len g k;rcases Nat.lt_or_ge k g.items.length with hlt | hge
  · obtain⟨b,off,ak,ck,av,cv,rfl,hbk,hbv,hc⟩:=RD.out k hlt
    obtain⟨c0,c1,c2,c3⟩:=hc wr hs.right.right.own;have z0:=World.block_lt_of_cell? _ _ c0;have HYES:=hQ (fun h=>kidsK_yes (g:=g) hlt h);have HNO:=hQ (fun h=>kidsK_no (g:=g) hlt h);have hkd:kidItem g g.items[k]=((g.kind == 2) || ((g.kind == 1) && (g.items[k].child != 0))):=rfl;have HSTK:=hQ hst;have HSK:=hQ hs;rw [hkd] at HYES HNO;clear hs hst hc hkd hbk hbv;generalize g.items[k]=y at*
    have A1:=hQ (show Sat ((Row 3 1 (.slice al (kidsK g k).length cl) (kidsK g k).length ((kidsK g k).map (Value.int .i64))).star ((Pr.pts w.heap.size (pageC g.kind g.level (.slice (some ⟨b,off,none⟩) g.items.length ci) (.slice ad g.data.length cd) g.next)).star ((Pr.own h).star F))) (wr.alloc (.cells [.int .i64 y.child].toArray 3)) from(HSK.out.alloc _).right)
    have hnew:=hQ (new_cells wr [.int .i64 y.child] 3 _ rfl);by_cases hk2:g.kind=2
    · have hb2:(g.kind == 2)=true:=beq_iff_eq.2 hk2
      rw [hb2] at HYES HNO;clear HNO hk2
      go_wp2_with (at_builtin;refine wpList_append_sl rfl _ _ _ rfl 3 i0 (.int .i64 0) 1 8 Tryz.underlying29 hi0 hz0 hz1 hz2 rfl _ _ _ rfl A1.out ⟨wr.heap.size,0,none⟩ 1 1 [.int .i64 y.child] rfl rfl hnew.out (by simp [Value.oneCell']) (by simp only [maxLen];omega) (by omega) ?_;intro v7 w4 hs4 hg4 _;obtain⟨a7',c7',e7',_,_⟩:=Row.read hs4;subst e7';have HS4:=hQ hs4;have HG4:=hQ ((HSTK.out.alloc _).of_grown hg4);clear hs4 hg4)
      go_roundw
      case rel=>exact⟨k+1,by omega,congrArg (Value.int .i64) (by omega),HG4.out,by rw [HYES.out rfl];exact ints_snoc HS4.out⟩
      case measure=>simp [intOf];omega
    · have hb2:(g.kind == 2)=false:=beq_eq_false_iff_ne.2 hk2
      rw [hb2] at HYES HNO;clear hk2;by_cases hk1:g.kind=1
      · have hb1:(g.kind == 1)=true:=beq_iff_eq.2 hk1
        rw [hb1] at HYES HNO;clear hk1;by_cases hch:y.child=0
        · have hb3:(y.child != 0)=false:=by rw [bne_eq_false_iff_eq];exact hch
          rw [hb3] at HNO;clear HYES hch A1;go_wp2;go_roundw
          case rel=>exact⟨k+1,by omega,congrArg (Value.int .i64) (by omega),HSTK.out,by rw [HNO.out rfl];exact HSK.out⟩
          case measure=>simp [intOf];omega
        · have hb3:(y.child != 0)=true:=by rw [bne_iff_ne];exact hch
          rw [hb3] at HYES;clear HNO hch
          go_wp2_with (at_builtin;refine wpList_append_sl rfl _ _ _ rfl 3 i0 (.int .i64 0) 1 8 Tryz.underlying29 hi0 hz0 hz1 hz2 rfl _ _ _ rfl A1.out ⟨wr.heap.size,0,none⟩ 1 1 [.int .i64 y.child] rfl rfl hnew.out (by simp [Value.oneCell']) (by simp only [maxLen];omega) (by omega) ?_;intro v7 w4 hs4 hg4 _;obtain⟨a7',c7',e7',_,_⟩:=Row.read hs4;subst e7';have HS4:=hQ hs4;have HG4:=hQ ((HSTK.out.alloc _).of_grown hg4);clear hs4 hg4)
          go_roundw
          case rel=>exact⟨k+1,by omega,congrArg (Value.int .i64) (by omega),HG4.out,by rw [HYES.out rfl];exact ints_snoc HS4.out⟩
          case measure=>simp [intOf];omega
      · have hb1:(g.kind == 1)=false:=beq_eq_false_iff_ne.2 hk1
        rw [hb1] at HYES HNO;clear hk1 HYES A1;go_wp2;go_roundw
        case rel=>exact⟨k+1,by omega,congrArg (Value.int .i64) (by omega),HSTK.out,by rw [HNO.out rfl];exact HSK.out⟩
        case measure=>simp [intOf];omega
  · have hkl2:k=g.items.length:=by omega
    subst hkl2;have hko:kidsOf g=kidsK g g.items.length++(if(g.kind == 3) && (g.next != 0) then [g.next] else []):=rfl;have HS:=hQ hs;have HKO:=hQ hko;clear hs hko;by_cases hk3:g.kind=3
    · have hb3:(g.kind == 3)=true:=beq_iff_eq.2 hk3
      rw [hb3] at HKO;by_cases hnx:g.next=0
      · have hb4:(g.next != 0)=false:=by rw [bne_eq_false_iff_eq];exact hnx
        rw [hb4] at HKO;clear hnx hk3;go_wp2;go_ret;refine⟨_,rfl,?_,hst⟩;rw [HKO.out,if_neg (by decide),List.append_nil];exact(HS.out.perm (Pr.left_comm _ _ _)).right
      · have hb4:(g.next != 0)=true:=by rw [bne_iff_ne];exact hnx
        rw [hb4] at HKO
        have A1:=hQ (show Sat ((Row 3 1 (.slice al (kidsK g g.items.length).length cl) (kidsK g g.items.length).length ((kidsK g g.items.length).map (Value.int .i64))).star ((Pr.pts w.heap.size (pageC g.kind g.level (.slice ai g.items.length ci) (.slice ad g.data.length cd) g.next)).star ((Pr.own h).star F))) (wr.alloc (.cells [.int .i64 g.next].toArray 3)) from(HS.out.alloc _).right)
        have hnew:=hQ (new_cells wr [.int .i64 g.next] 3 _ rfl);clear hnx hk3
        go_wp2_with (at_builtin;refine wpList_append_sl rfl _ _ _ rfl 3 i0 (.int .i64 0) 1 8 Tryz.underlying29 hi0 hz0 hz1 hz2 rfl _ _ _ rfl A1.out ⟨wr.heap.size,0,none⟩ 1 1 [.int .i64 g.next] rfl rfl hnew.out (by simp [Value.oneCell']) (by simp only [maxLen];omega) (by omega) ?_;intro v7 w4 hs4 hg4 _;obtain⟨a7',c7',e7',_,_⟩:=Row.read hs4;subst e7';have HS4:=hQ hs4;have HG4:=hQ ((hst.alloc (.cells [.int .i64 g.next].toArray 3)).of_grown hg4);clear hs4 hg4)
        go_ret;refine⟨_,rfl,?_,HG4.out⟩;rw [HKO.out,if_pos (by decide)];exact((ints_snoc HS4.out).perm (Pr.left_comm _ _ _)).right
    · have hb3:(g.kind == 3)=false:=beq_eq_false_iff_ne.2 hk3
      rw [hb3] at HKO;clear hk3;go_wp2;go_ret;refine⟨_,rfl,?_,hst⟩;rw [HKO.out,if_neg (by simp),List.append_nil];exact(HS.out.perm (Pr.left_comm _ _ _)).right
end Go.Proofs.YtpfafhklppondaaGreat.B7
namespace Go.Cop
open Go.Proofs.YtpfafhklppondaaGreat.X6
def partD(get:Int→PageV)(cs:List Int)(m n:Int):Nat:=if cntL cs n=0 then 0 else(kidsOf (get n)).count m
def inSum(get:Int→PageV)(cs:List Int)(m:Int):Nat→Nat
 | 0=>0
 | k+1=>inSum get cs m k+partD get cs m ((k:Int)+1)
def indeg(get:Int→PageV)(cs:List Int)(m:Int):Nat:=inSum get cs m cs.length
theorem inSum_same {get get':Int→PageV}{cs cs':List Int}{m:Int}:∀(k:Nat),(∀n:Int,1≤n→n≤k→partD get cs m n=partD get' cs' m n)→inSum get cs m k=inSum get' cs' m k
 | 0,_=>rfl
 | k+1,h=>by
   unfold inSum;rw [inSum_same k fun n h1 h2=>h n h1 (by omega),h ((k:Int)+1) (by omega) (by omega)]
theorem inSum_at {get get':Int→PageV}{cs cs':List Int}{m:Int}{p:Int}:∀(k:Nat),1≤p→p≤k→(∀n:Int,1≤n→n≤k→n≠p→partD get cs m n=partD get' cs' m n)→inSum get cs m k+partD get' cs' m p=inSum get' cs' m k+partD get cs m p
 | 0,h1,h2,_=>by omega
 | k+1,h1,h2,h=>by
   unfold inSum;by_cases hp:p=(k:Int)+1
   · rw [inSum_same k fun n g1 g2=>h n g1 (by omega) (by omega),hp]
     omega
   · have:=inSum_at (get:=get) (get':=get') (cs:=cs) (cs':=cs') (m:=m) k h1 (by omega) fun n g1 g2 g3=>h n g1 (by omega) g3
     have e:=h ((k:Int)+1) (by omega) (by omega) (fun e=>hp e.symm);omega
theorem partD_zero {get:Int→PageV}{cs:List Int}{m n:Int}(h:cntL cs n=0):partD get cs m n=0:=if_pos h
theorem partD_some {get:Int→PageV}{cs:List Int}{m n:Int}(h:cntL cs n≠0):partD get cs m n=(kidsOf (get n)).count m:=if_neg h
theorem drop_deg {get:Int→PageV}{l cs:List Int}{e:Int}{c:List Int}(h:DropR get l cs e c)(E:Int→Int)(hE:∀n,0≤E n):
 (∀n:Int,1≤n→n≤cs.length→cntL cs n=E n+((l.count n:Nat):Int)+((indeg get cs n:Nat):Int))→(∀n∈l,1≤n∧n≤cs.length)→(∀n,cntL cs n≠0→∀k∈kidsOf (get n),1≤k∧k≤cs.length)→
 e=0∧c.length=cs.length∧(∀n:Int,1≤n→n≤c.length→cntL c n=E n+((indeg get c n:Nat):Int))∧∀n,cntL c n≠0→cntL cs n≠0:=by
 induction h with
 | nil cs=>
   intro h _ _;refine⟨rfl,rfl,fun n h1 h2=> ?_,fun n h=>h⟩;have:=h n h1 h2
   rw [List.count_nil] at this;omega
 | none n t cs h0=>
   intro h hl _;obtain⟨h1,h2⟩:=hl n (by simp);have:=h n h1 h2
   rw [List.count_cons_self] at this;have:=hE n
   omega
 | more n t cs e c h1 h2 h3 ih=>
   intro h hl hk;have hn:=hl n (by simp);have hc:∀m,cntL (addC cs n (-1)) m=if m=n then cntL cs n+ -1 else cntL cs m:=fun m=>addC_cnt hn m
   have hz:∀m,cntL (addC cs n (-1)) m=0↔cntL cs m=0:=fun m=>by
    by_cases hm:m=n
    · subst hm
      exact⟨fun e=>absurd e h2,fun e=>absurd e h1⟩
    · rw [hc,if_neg hm]
   have hin:∀m,indeg get (addC cs n (-1)) m=indeg get cs m:=fun m=>by
    unfold indeg;rw [addC_len];refine inSum_same _ fun x _ _=> ?_
    unfold partD;by_cases hx:cntL cs x=0
    · rw [if_pos hx,if_pos ((hz x).2 hx)]
    · rw [if_neg hx,if_neg (fun e=>hx ((hz x).1 e))]
   obtain⟨a1,a2,a3,a4⟩:=ih (fun m g1 g2=>by
    rw [addC_len] at g2
    have:=h m g1 g2
    rw [hc,hin]
    by_cases hm:m=n
    · subst hm
      rw [List.count_cons_self] at this
      rw [if_pos rfl]
      omega
    · rw [List.count_cons_of_ne (fun e=>hm e.symm)] at this
      rw [if_neg hm]
      exact this) (fun m hm=>by rw [addC_len];exact hl m (by simp [hm])) (fun m hm k hk2=>by rw [addC_len];exact hk m (fun e=>hm ((hz m).2 e)) k hk2)
   exact⟨a1,a2.trans (addC_len _ _ _),a3,fun m hm=>fun e=>a4 m hm ((hz m).2 e)⟩
 | last n t cs e c h1 h2 h3 ih=>
   intro h hl hk;have hn:=hl n (by simp);have hc:∀m,cntL (addC cs n (-1)) m=if m=n then cntL cs n+ -1 else cntL cs m:=fun m=>addC_cnt hn m
   have hin:∀m,indeg get (addC cs n (-1)) m+(kidsOf (get n)).count m=indeg get cs m:=fun m=>by
    unfold indeg;rw [addC_len]
    have:=inSum_at (get:=get) (get':=get) (cs:=addC cs n (-1)) (cs':=cs) (m:=m) (p:=n) cs.length hn.1 hn.2 fun x _ _ hx=>by
     unfold partD;rw [hc,if_neg hx]
    rw [partD_zero h2,partD_some h1] at this;omega
   obtain⟨a1,a2,a3,a4⟩:=ih (fun m g1 g2=>by
    rw [addC_len] at g2
    have:=h m g1 g2
    have hi:=hin m
    rw [hc,List.count_append]
    by_cases hm:m=n
    · subst hm
      rw [List.count_cons_self] at this
      rw [if_pos rfl]
      omega
    · rw [List.count_cons_of_ne (fun e=>hm e.symm)] at this
      rw [if_neg hm]
      omega) (fun m hm=>by
      rw [addC_len]
      rcases List.mem_append.1 hm with hm | hm
      · exact hk n h1 m hm
      · exact hl m (by simp [hm])) (fun m hm k hk2=>by
      rw [addC_len]
      refine hk m (fun e=>hm ?_) k hk2
      rw [hc]
      by_cases hx:m=n
      · subst hx;exact absurd e h1
      · rw [if_neg hx];exact e)
   refine⟨a1,a2.trans (addC_len _ _ _),a3,fun m hm e=>a4 m hm ?_⟩;rw [hc];by_cases hx:m=n
   · subst hx;exact absurd e h1
   · rw [if_neg hx];exact e
end Go.Cop
