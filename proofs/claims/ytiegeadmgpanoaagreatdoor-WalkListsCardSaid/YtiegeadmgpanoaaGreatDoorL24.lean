/- The library's Backward over items, its iterator; the conditions stand as hypotheses. -/
import Derived.Test.YtiegeadmgpanoaaGreatDoorL23
import Derived.Test.YtiegeadmgpanoaaGreatDoorL07
set_option maxRecDepth 100000
set_option maxHeartbeats 16000000
namespace Go.Proofs.YtiegeadmgpanoaaGreatDoor.D2
open ChangeShapes WideShapes ChangeAt RowKit Sl fB Go.Shelf Z3 E4
attribute [local go_sem] Oper.semAt_some
def Tv(x:Int × Value):Array Value:= #[.int .i64 x.1,x.2]
def OkB(h:Hp)(l:List en)(pre:List (Int × Value))(x:Int × Value):Prop:= ∃i,∃hi:i<l.length,pre.length+i+1=l.length∧x.1=i∧∃ak ck av cv,x.2=l6 (.slice ak l[i].key.length ck) (.slice av l[i].value.length cv) l[i].child l[i].size∧Bytes h (.slice ak l[i].key.length ck) l[i].key
def lp(sb:Nat)(vi:Value)(h:Hp):Pr:=(Pr.pts sb (.cells #[vi] 81)).star (Pr.own h)
theorem Jg(sb:Nat)(vi:Value)(h:Hp)(l:List en)(hi:h_ h vi l)(hl:l.length≤65536):
 vu Tryz.prog 149 #[.pointer (some ⟨sb,0,none⟩)] Tv (OkB h l) (fun xs=>xs.length=l.length) (fun _=>True) (lp sb vi h):=by
 intro l' J Jx W hY h0;refine(callsIn_wide (n:=3)).1 ?_;refine callsIn_of_wp Tryz.func149 rfl trivial ?_ rfl;simp only [Tryz.ntmps149,bu,List.length_cons,List.length_nil,Nat.reduceAdd,Nat.reduceSub,Array.replicate_succ,Array.replicate_zero,bB,a_,List.nil_append,List.cons_append];obtain⟨aw,cw,rfl,_,rd⟩:=fL hi
 have facts:∀(A:Pr) (wr:World),Sat (A.star (lp sb (.slice aw l.length cw) h)) wr→wr.cell? ⟨sb,0,none⟩=some (.slice aw l.length cw)∧sb<wr.heap.size∧h.le wr:=by
  intro A wr hs;unfold lp at hs;have h1:Sat ((Pr.pts sb (.cells #[.slice aw l.length cw] 81)).star ((Pr.own h).star A)) wr:=hs.perm (by ac_rfl);exact⟨by rw [cell_of_heap h1.dL];rfl,h1.lt,h1.right.own⟩
 have F0:=facts _ _ h0;obtain⟨q1,z1,_⟩:=F0;have hl3:(l.length:Int)≤65536:=by omega
 have HF:=hQ facts;have HY:=hQ hY;have H0:=hQ h0;have RD:=hQ rd;clear facts hY h0 rd hi;gi_wp2
 gi_loopw [3] (fun i wr=> ∃(r:Nat) (pre:List (Int × Value)),pre.length+r=l.length∧i= .int .i64 ((r:Int)-1)∧dN W wr∧Sat ((J pre).star (lp sb (.slice aw l.length cw) h)) wr) (fun i _=>(intOf i+1).toNat)
 case atStart=>exact⟨l.length,[],by simp,rfl,dN.refl _,H0.af⟩
 case round=>
  obtain⟨r,pre,hr,rfl,hR,hs⟩:=hrel;cases r with
  | zero=>
    gi_wp2
    go_end0
    exact⟨⟨_,rfl⟩,hR,.inl ⟨pre,by simpa using hr,hs⟩⟩
  | succ r=>
    obtain⟨q1,z1,hle⟩:=HF.af _ _ hs;have hlt:r<l.length:=by omega
    obtain⟨b,off,ak,ck,av,cv,rfl,hbk,qR,hc⟩:=RD.af r hlt;obtain⟨c0,c1,c2,c3⟩:=hc wr hle;have HB:=hQ hbk;have HS:=hQ hs;have HR:=hQ hr;clear hs hc hbk qR hr;have Ot:(r:Int)<l.length:=by omega
    obtain⟨X,hX⟩:∃X,l[r]=X:=⟨_,rfl⟩;have HX:=hQ hX;rw [hX] at c0 c1 c2 c3;clear hX;rw [show ((r+1:Nat):Int)-1=(r:Int) by omega];gi_wp2
    refine na (HY.af Pr.emp pre ((r:Int),l6 (.slice ak X.key.length ck) (.slice av X.value.length cv) X.child X.size) _ ⟨r,hlt,by have:=HR.af;omega,rfl,ak,ck,av,cv,by rw [HX.af],HB.af⟩ (HS.af.perm (Pr.ei _).symm)) ?_;rintro e w' ⟨hR',(⟨rfl,hs'⟩ | ⟨rfl,hs'⟩)⟩<;>rw [Pr.ei] at hs'
    · refine⟨_,rfl,?_⟩
      have xg:=hQ hs';clear hs';gi_wp2
      go_roundw
      case rel=>exact⟨r,_,by rw [au];have:=HR.af;simp;omega,rfl,hR.trans hR',xg.af⟩
      case measure=>simp [intOf]
    · refine⟨_,rfl,?_⟩
      have xg:=hQ hs';clear hs';gi_wp2
      refine bodyPost_ret (results_none rfl _ _ _) rfl ?_;exact⟨⟨_,rfl⟩,hR.trans hR',.inr ⟨_,trivial,xg.af⟩⟩
end Go.Proofs.YtiegeadmgpanoaaGreatDoor.D2
namespace Go.Proofs.YtiegeadmgpanoaaGreatDoor.D2
open ChangeShapes WideShapes ChangeAt RowKit Sl fB L3 Z3 E4
def rowsOf(p:(Value × Value) × en):Pr:=(dM p.1.1 p.2.key).star (dM p.1.2 p.2.value)
theorem Jh {ys:List (Value × Value)}{its:List en}{k:Nat}{v1 v2:Value}(hy:k<ys.length)(hl:k<its.length):((ys.set k (v1,v2)).zip its).take (k+1)=(ys.zip its).take k++ [((v1,v2),its[k])]:=by
 have hz:k<(ys.zip its).length:=by simp;omega
 rw [← rP _ _ _ _ hl,aF (by simpa using hz),de,List.take_set_of_le (aD _)]
structure He(Oq xs:List (Value × Value))(l:List en)(k:Nat):Prop where
 len:xs.length=l.length
 old:∀i,k≤i→xs[i]? =Oq[i]?
theorem He.step {Oq xs:List (Value × Value)}{l:List en}{k:Nat}(hp:He Oq xs l k)(_:k<l.length){v:Value × Value}:He Oq (xs.set k v) l (k+1):=
 ⟨by simp [hp.len],fun i hik=>by rw [cn (by omega)];exact hp.old i (by omega)⟩
theorem Dt(h:Hp)(v:Value)(g:dR)(hv:fV h v g)(hn:g.items.length≤65536)(hb:∀x∈g.items,x.key.length≤65536∧x.value.length≤65536)(hd:g.data.length≤65536)(F:Pr)(w:World)(hF:Sat ((Pr.own h).star F) w):
 Calls Tryz.prog 73 #[v] w fun e w'=> ∃vi vd ys,e= .returned (fX g.kind g.level vi vd g.next)∧ys.length=g.items.length∧Sat ((fO vi ys g.items).star ((big rowsOf (ys.zip g.items)).star ((dM vd g.data).star ((Pr.own h).star F)))) w'∧dN w w':=by
 obtain⟨vi,vd,rfl,hi,wG⟩:=hv;obtain⟨k0,l0,its,dat,nx⟩:=g;dsimp only at*;obtain⟨xs,hxl,hrow,hbb⟩:=id hi;have wB:uj h xs its:=⟨hxl,hbb⟩;obtain⟨ai,ci,rfl,_,_⟩:=fL hi;obtain⟨ad,cd,rfl⟩:=eB wG;have h1:=(hF.alloc (dV k0 l0 (.slice ai its.length ci) (.slice ad dat.length cd) nx)).alloc (dV 0 0 (.slice none 0 0) (.slice none 0 0) 0)
 rw [show (w.alloc (dV k0 l0 (.slice ai its.length ci) (.slice ad dat.length cd) nx)).heap.size=w.heap.size+1 by simp] at h1;have h2:=h1.drew.perm (B:=(Pr.own h).star ((Pr.pts w.heap.size (dV k0 l0 (.slice ai its.length ci) (.slice ad dat.length cd) nx)).star ((Pr.pts (w.heap.size+1) (dV 0 0 (.slice none 0 0) (.slice none 0 0) 0)).star F))) (by ac_rfl)
 have CI:=hQ (vM h _ xs its wB hrow hn _ _ h2);have HD:=hQ wG;have HN:=hQ hd;have HB:=hQ hb;have LC:=hQ wB;have eR:=hQ (((dN.refl w).alloc (dV k0 l0 (.slice ai its.length ci) (.slice ad dat.length cd) nx)).alloc (dV 0 0 (.slice none 0 0) (.slice none 0 0) 0)).drew;clear h1 h2 hi wG hF hd hb wB hrow hbb;go_enter Tryz.func73,Tryz.ntmps73
 go_wp2_with fail
 refine wS 39 [0,1,3,4] [(2,[6],[0,3,4]),(5,[],[0,3,6]),(7,[8],[]),(9,[],[])] ?_;refine dY _ rfl rfl ?_;simp only [pick,pQ];iterate 4 (go_big_quiet_step (fail))
 refine wpQuiet_nil ?_;refine dK rfl ?_;go_wp2_with fail
 refine CI.af.mono ?_;rintro e w1 ⟨v1,rfl,hs2,kU⟩;obtain⟨a1,c1,e1,_,_⟩:=Row.read hs2;subst e1;have fP:Sat ((Pr.own h).star ((Pr.pts w.heap.size (dV k0 l0 (.slice ai its.length ci) (.slice ad dat.length cd) nx)).star ((Pr.pts (w.heap.size+1) (dV 0 0 (.slice none 0 0) (.slice none 0 0) 0)).star ((fO (.slice a1 its.length c1) xs its).star F)))) w1:=hs2.perm (by ac_rfl)
 obtain⟨q0,q1,q2,q3,q4,_,z0⟩:=lM fP.right;have Ly:=hQ (jU h _ dat _ _ fP fP.own HD.af HN.af);have fa:=hQ (eR.af.trans kU);clear hs2 fP kU CI HD;go_wp2;refine dQ ?_;refine dY _ rfl rfl ?_;simp only [pick,pQ];iterate 1 (go_big_quiet_step (fail))
 refine wpQuiet_nil ⟨?_,?_⟩
 · exact cQ
 refine dK rfl ?_;go_wp2_with fail
 refine Ly.af.mono ?_;rintro e w2 ⟨v2,rfl,fp,nz⟩;obtain⟨a2,c2,e2,_,_⟩:=Row.read fp;subst e2
 have gu:Sat ((Pr.pts w.heap.size (dV k0 l0 (.slice ai its.length ci) (.slice ad dat.length cd) nx)).star ((Pr.pts (w.heap.size+1) (dV 0 0 (.slice none 0 0) (.slice none 0 0) 0)).star ((dM (.slice a2 dat.length c2) dat).star ((fO (.slice a1 its.length c1) xs its).star ((Pr.own h).star F))))) w2:=fp.perm (by ac_rfl);clear q0 q1 q2 q3 q4 z0
 obtain⟨q0,q1,q2,q3,q4,⟨f0,f1,f2,f3,f4⟩,z0⟩:=lM gu;have H5:=hQ gu;have ij:=hQ (fa.af.trans nz);clear fp gu nz Ly;go_wp2;refine dQ ?_;refine dU ⟨?_,?_⟩
 · exact cQ
 refine dK rfl ?_;go_wp2;refine dQ ?_;refine dY _ rfl rfl ?_;simp only [pick,pQ];iterate 1 (go_big_quiet_step (fail))
 refine wpQuiet_nil ⟨?_,?_⟩
 · exact eM
 refine dK rfl ?_;go_wp2;refine dQ (dU ⟨eM,dW ?_⟩);have s6:=(H5.af.setCell (i:=2) (.slice a1 its.length c1)).setCell (i:=3) (.slice a2 dat.length c2)
 have s7:Sat ((Pr.pts w.heap.size (dV k0 l0 (.slice a1 its.length c1) (.slice a2 dat.length c2) nx)).star ((Pr.pts (w.heap.size+1) (dV 0 0 (.slice none 0 0) (.slice none 0 0) 0)).star ((dM (.slice a2 dat.length c2) dat).star ((fO (.slice a1 its.length c1) xs its).star ((Pr.own h).star F))))) _:=s6
 have Dn:=(ij.af.setCell ⟨w.heap.size,2,none⟩ (.slice a1 its.length c1)).setCell ⟨w.heap.size,3,none⟩ (.slice a2 dat.length c2);generalize (w2.setCell ⟨w.heap.size,2,none⟩ (.slice a1 its.length c1)).setCell ⟨w.heap.size,3,none⟩ (.slice a2 dat.length c2)=w5 at*;clear q0 q1 q2 q3 q4 z0 f0 f1 f2 f3 f4 H5 ij;obtain⟨q0,q1,q2,q3,q4,_,z0⟩:=lM s7;have H7:=hQ s7;have l9:=hQ Dn;clear s6 s7 Dn
 have hn0:(its.length:Int)≤65536:=by omega
 go_wp2_with fail
 go_loopw [16] (fun i wr=> ∃(k:Nat) (ys:List (Value × Value)),k≤its.length∧i= .int .i64 k∧dN w wr∧Hid (He xs ys its k)∧
  Sat ((Pr.pts w.heap.size (dV k0 l0 (.slice a1 its.length c1) (.slice a2 dat.length c2) nx)).star ((Pr.pts (w.heap.size+1) (dV 0 0 (.slice none 0 0) (.slice none 0 0) 0)).star ((fO (.slice a1 its.length c1) ys its).star ((big rowsOf ((ys.zip its).take k)).star ((dM (.slice a2 dat.length c2) dat).star ((Pr.own h).star F)))))) wr) (fun i _=>its.length-(intOf i).toNat)
 case atStart=>
  refine⟨0,xs,aG _,rfl,l9.af,hQ ⟨LC.af.len,fun _ _=>rfl⟩,?_⟩;rw [List.take_zero,GR,Pr.fK];exact H7.af.perm (by ac_rfl)
 case round=>
  obtain⟨k,ys,hkl,rfl,hst,q_,hs⟩:=hrel;clear q0 q1 q2 q3 q4 z0;rcases aB k its.length with hlt | hge
  · have Tr:=q_.af.len
    have Kg:k<ys.length:=by omega
    have Kv:k<xs.length:=by have:=LC.af.len;omega
    have Ts:ys[k]=xs[k]:=by
     have:=q_.af.old k (aD _)
     rw [ag Kg,ag Kv] at this;exact Option.some.inj this
    obtain⟨hb1,hb2⟩:=LC.af.at' k Kv hlt;obtain⟨FO,rH⟩:=HB.af its[k] (aE hlt);rw [← Ts] at hb1 hb2;obtain⟨ak,ck,ek⟩:=eB hb1;obtain⟨av,cv,ev⟩:=eB hb2
    have hr0:=hs.perm (B:=(fO (.slice a1 its.length c1) ys its).star ((Pr.pts w.heap.size (dV k0 l0 (.slice a1 its.length c1) (.slice a2 dat.length c2) nx)).star ((Pr.pts (w.heap.size+1) (dV 0 0 (.slice none 0 0) (.slice none 0 0) 0)).star ((big rowsOf ((ys.zip its).take k)).star ((dM (.slice a2 dat.length c2) dat).star ((Pr.own h).star F)))))) (by ac_rfl)
    have ha1:∃b,a1=some ⟨b,0,none⟩:=by
     obtain⟨_,_,e,_,hc⟩:=Row.read hr0;cases e;obtain⟨b,e,_⟩:=hc (by omega);exact⟨b,e⟩
    obtain⟨b,rfl⟩:=ha1;obtain⟨⟨r0,r1,r2,r3⟩,_⟩:=oD hr0 Kg hlt;rw [ek] at r0 hb1;rw [ev] at r1 hb2;have PV:=(hs.alloc (eG (.slice ak its[k].key.length ck) (.slice av its[k].value.length cv) its[k].child its[k].size)).drew
    have F3:=hQ (show Sat ((Pr.pts wr.heap.size (eG (.slice ak its[k].key.length ck) (.slice av its[k].value.length cv) its[k].child its[k].size)).star ((Pr.pts w.heap.size (dV k0 l0 (.slice (some ⟨b,0,none⟩) its.length c1) (.slice a2 dat.length c2) nx)).star ((Pr.own h).star ((fO (.slice (some ⟨b,0,none⟩) its.length c1) ys its).star ((Pr.pts (w.heap.size+1) (dV 0 0 (.slice none 0 0) (.slice none 0 0) 0)).star ((big rowsOf ((ys.zip its).take k)).star ((dM (.slice a2 dat.length c2) dat).star F))))))) _ from PV.perm (by ac_rfl))
    obtain⟨q0,q1,q2,q3,q4,_,z0⟩:=lM hs;have CK:=hQ (jU h _ its[k].key _ _ F3.af F3.af.right.right.own hb1 FO);have XF:=hQ hb2;have F4:=hQ ((hst.alloc (eG (.slice ak its[k].key.length ck) (.slice av its[k].value.length cv) its[k].child its[k].size)).drew);have z1:w.heap.size<wr.heap.size:=hs.lt;have LD:=hQ q_.af;have Xv:=hQ ev;have HEK:=hQ ek
    clear hs hr0 PV hb1 hb2 hst q_ Ts ek ev;go_wp2_with fail
    refine wS 39 [0,1,2,3,4,5,6,7,9,10] [(8,[],[0,1,2,3,4,5,6,9,10]),(11,[12,13],[0,1,2,3,4,5,6,9]),(14,[15,16],[3,4,5,9,12]),(17,[],[15])] ?_;refine dY _ rfl rfl ?_;simp only [pick,pQ];iterate 10 (go_big_quiet_step (fail))
    refine wpQuiet_nil ?_;refine dK rfl ?_;go_wp2_with fail
    refine CK.af.mono ?_;rintro e w3 ⟨v3,rfl,fP,mF⟩;obtain⟨a3,c3,e3,_,_⟩:=Row.read fP;subst e3
    have H3:=hQ (show Sat ((Pr.pts wr.heap.size (eG (.slice ak its[k].key.length ck) (.slice av its[k].value.length cv) its[k].child its[k].size)).star ((Pr.pts w.heap.size (dV k0 l0 (.slice (some ⟨b,0,none⟩) its.length c1) (.slice a2 dat.length c2) nx)).star ((Pr.own h).star ((dM (.slice a3 its[k].key.length c3) its[k].key).star ((fO (.slice (some ⟨b,0,none⟩) its.length c1) ys its).star ((Pr.pts (w.heap.size+1) (dV 0 0 (.slice none 0 0) (.slice none 0 0) 0)).star ((big rowsOf ((ys.zip its).take k)).star ((dM (.slice a2 dat.length c2) dat).star F)))))))) w3 from fP.perm (by ac_rfl))
    have gg:=hQ (F4.af.trans mF);clear q0 q1 q2 q3 q4 z0 r0 r1 r2 r3 CK fP mF F3;obtain⟨q0,q1,q2,q3,q4,_,z0⟩:=lM H3.af.right;obtain⟨i0,i1,i2,i3,_,z2⟩:=sR H3.af;have CV:=hQ (jU h _ its[k].value _ _ H3.af H3.af.right.right.own XF.af rH);go_wp2;refine dQ ?_;refine dU ⟨?_,?_⟩
    · exact cQ
    refine dK rfl ?_;go_wp2_with fail
    refine CV.af.mono ?_;rintro e w4 ⟨v4,rfl,fp,nz⟩;obtain⟨a4,c4,e4,_,_⟩:=Row.read fp;subst e4
    have H4:=hQ (show Sat ((Pr.pts wr.heap.size (eG (.slice ak its[k].key.length ck) (.slice av its[k].value.length cv) its[k].child its[k].size)).star ((Pr.pts w.heap.size (dV k0 l0 (.slice (some ⟨b,0,none⟩) its.length c1) (.slice a2 dat.length c2) nx)).star ((Pr.own h).star ((dM (.slice a3 its[k].key.length c3) its[k].key).star ((dM (.slice a4 its[k].value.length c4) its[k].value).star ((fO (.slice (some ⟨b,0,none⟩) its.length c1) ys its).star ((Pr.pts (w.heap.size+1) (dV 0 0 (.slice none 0 0) (.slice none 0 0) 0)).star ((big rowsOf ((ys.zip its).take k)).star ((dM (.slice a2 dat.length c2) dat).star F))))))))) w4 from fp.perm (by ac_rfl))
    have ij:=hQ (gg.af.trans nz);clear q0 q1 q2 q3 q4 z0 i0 i1 i2 i3 z2 CV fp nz H3;obtain⟨q0,q1,q2,q3,q4,_,z0⟩:=lM H4.af.right;obtain⟨i0,i1,i2,i3,_,z2⟩:=sR H4.af
    have R4:=hQ (show Sat ((fO (.slice (some ⟨b,0,none⟩) its.length c1) ys its).star ((Pr.pts wr.heap.size (eG (.slice ak its[k].key.length ck) (.slice av its[k].value.length cv) its[k].child its[k].size)).star ((Pr.pts w.heap.size (dV k0 l0 (.slice (some ⟨b,0,none⟩) its.length c1) (.slice a2 dat.length c2) nx)).star ((dM (.slice a3 its[k].key.length c3) its[k].key).star ((dM (.slice a4 its[k].value.length c4) its[k].value).star ((Pr.own h).star ((Pr.pts (w.heap.size+1) (dV 0 0 (.slice none 0 0) (.slice none 0 0) 0)).star ((big rowsOf ((ys.zip its).take k)).star ((dM (.slice a2 dat.length c2) dat).star F))))))))) w4 from H4.af.perm (by ac_rfl))
    obtain⟨⟨r0,r1,r2,r3⟩,g0,g1⟩:=oD R4.af Kg hlt;go_wp2;refine dQ ?_;refine dY _ rfl rfl ?_;simp only [pick,pQ];iterate 2 (go_big_quiet_step (fail))
    refine wpQuiet_nil ⟨?_,?_⟩
    · exact cQ
    refine dK rfl ?_;go_wp2;have s5:=zU R4.af Kg hlt (.slice a3 its[k].key.length c3);have t5:=ij.af.setCell ⟨b,k*4,none⟩ (.slice a3 its[k].key.length c3);generalize w4.setCell ⟨b,k*4,none⟩ (.slice a3 its[k].key.length c3)=XG at*;have LG:k<(ys.set k (.slice a3 its[k].key.length c3,ys[k].2)).length:=by simpa using Kg
    have R5:=hQ s5;have iM:=hQ t5;clear q0 q1 q2 q3 q4 z0 i0 i1 i2 i3 z2 r0 r1 r2 r3 g0 g1 s5 t5 R4 H4;obtain⟨q0,q1,q2,q3,q4,_,z0⟩:=lM R5.af.right.right;obtain⟨i0,i1,i2,i3,_,z2⟩:=sR R5.af.right;obtain⟨⟨r0,r1,r2,r3⟩,g0,g1⟩:=oD R5.af LG hlt;refine dQ ?_;refine dY _ rfl rfl ?_;simp only [pick,pQ];iterate 2 (go_big_quiet_step (fail))
    refine wpQuiet_nil ⟨?_,?_⟩
    · exact cQ
    refine dK rfl ?_;go_wp2;have s6:=zW R5.af LG hlt (.slice a4 its[k].value.length c4);have t6:=iM.af.setCell ⟨b,k*4+1,none⟩ (.slice a4 its[k].value.length c4);generalize XG.setCell ⟨b,k*4+1,none⟩ (.slice a4 its[k].value.length c4)=w6' at*;rw [List.set_set,de] at s6;have R6:=hQ s6;have LH:=hQ t6
    clear q0 q1 q2 q3 q4 z0 i0 i1 i2 i3 z2 r0 r1 r2 r3 g0 g1 s6 t6 R5;obtain⟨q0,q1,q2,q3,q4,_,z0⟩:=lM R6.af.right.right;refine dQ ?_;refine dU ⟨?_,?_⟩
    · exact cQ
    refine dW ?_;go_wp2;go_roundw
    case rel=>
     have h8:=R6.af.perm (B:=(dM (.slice a3 its[k].key.length c3) its[k].key).star ((dM (.slice a4 its[k].value.length c4) its[k].value).star ((big rowsOf ((ys.zip its).take k)).star ((Pr.pts wr.heap.size (eG (.slice ak its[k].key.length ck) (.slice av its[k].value.length cv) its[k].child its[k].size)).star ((fO (.slice (some ⟨b,0,none⟩) its.length c1) (ys.set k (.slice a3 its[k].key.length c3,.slice a4 its[k].value.length c4)) its).star ((Pr.pts w.heap.size (dV k0 l0 (.slice (some ⟨b,0,none⟩) its.length c1) (.slice a2 dat.length c2) nx)).star ((Pr.own h).star ((Pr.pts (w.heap.size+1) (dV 0 0 (.slice none 0 0) (.slice none 0 0) 0)).star ((dM (.slice a2 dat.length c2) dat).star F))))))))) (by ac_rfl)
     have e9:=Jh (v1:= .slice a3 its[k].key.length c3) (v2:= .slice a4 its[k].value.length c4) Kg hlt
     have h9:=h8.perm (B:=(Pr.pts wr.heap.size (eG (.slice ak its[k].key.length ck) (.slice av its[k].value.length cv) its[k].child its[k].size)).star ((((dM (.slice a3 its[k].key.length c3) its[k].key).star (dM (.slice a4 its[k].value.length c4) its[k].value)).star (big rowsOf ((ys.zip its).take k))).star ((fO (.slice (some ⟨b,0,none⟩) its.length c1) (ys.set k (.slice a3 its[k].key.length c3,.slice a4 its[k].value.length c4)) its).star ((Pr.pts w.heap.size (dV k0 l0 (.slice (some ⟨b,0,none⟩) its.length c1) (.slice a2 dat.length c2) nx)).star ((Pr.pts (w.heap.size+1) (dV 0 0 (.slice none 0 0) (.slice none 0 0) 0)).star ((dM (.slice a2 dat.length c2) dat).star ((Pr.own h).star F))))))) (by ac_rfl)
     have e10:((dM (.slice a3 its[k].key.length c3) its[k].key).star (dM (.slice a4 its[k].value.length c4) its[k].value)).star (big rowsOf ((ys.zip its).take k))=big rowsOf (((ys.set k (.slice a3 its[k].key.length c3,.slice a4 its[k].value.length c4)).zip its).take (k+1)):=by
      rw [e9,Cq];rfl
     rw [e10] at h9;refine⟨k+1,ys.set k (.slice a3 its[k].key.length c3,.slice a4 its[k].value.length c4),by omega,congrArg (Value.int .i64) (by omega),LH.af,hQ (LD.af.step hlt),?_⟩;exact h9.right.perm (by ac_rfl)
    case measure=>simp [intOf];omega
  · have u_:k=its.length:=by omega
    subst u_;obtain⟨q0,q1,q2,q3,q4,_,z0⟩:=lM hs;obtain⟨p0,p1,p2,p3,p4,⟨f0,f1,f2,f3,f4⟩,z1⟩:=lM hs.right;have HS:=hQ hs.right;have F4:=hQ hst;clear hs hst;go_wp2;have s6:=((((HS.af.setCell (i:=0) (.int .i64 k0)).setCell (i:=1) (.int .i64 l0)).setCell (i:=2) (.slice a1 its.length c1)).setCell (i:=3) (.slice a2 dat.length c2)).setCell (i:=4) (.int .i64 nx)
    have s7:Sat ((Pr.pts (w.heap.size+1) (dV k0 l0 (.slice a1 its.length c1) (.slice a2 dat.length c2) nx)).star ((fO (.slice a1 its.length c1) ys its).star ((big rowsOf ((ys.zip its).take its.length)).star ((dM (.slice a2 dat.length c2) dat).star ((Pr.own h).star F))))) _:=s6
    refine bodyPost_ret (results_cell_row rfl _ _ (w.heap.size+1) _ _ _ _ rfl s7.dL Tryz.underlying83 rfl jW) rfl ?_;have hp:=q_.af;have e11:(ys.zip its).take its.length=ys.zip its:=bS (by simp [Nat.min_le_right]);rw [e11] at s7;exact⟨_,_,ys,rfl,hp.len,s7.right,((((F4.af.setCell _ _).setCell _ _).setCell _ _).setCell _ _).setCell _ _⟩
end Go.Proofs.YtiegeadmgpanoaaGreatDoor.D2
