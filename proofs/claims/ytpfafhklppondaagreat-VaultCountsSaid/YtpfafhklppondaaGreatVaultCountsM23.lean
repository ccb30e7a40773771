/- The vault's copy of any page: its rows, owned; the conditions stand as hypotheses. -/
import Derived.Test.YtpfafhklppondaaGreatVaultCountsM21
import Derived.Test.YtpfafhklppondaaGreatVaultCountsM05
import Derived.Test.YtpfafhklppondaaGreatVaultCountsM16
import Derived.Test.YtpfafhklppondaaGreatVaultCountsM12
import Derived.Test.YtpfafhklppondaaGreatVaultCountsM01
import Derived.Test.YtpfafhklppondaaGreatVaultCountsM04
import Derived.Test.YtpfafhklppondaaGreatVaultCountsM17
import Derived.Test.YtpfafhklppondaaGreatVaultCountsM03
set_option maxRecDepth 100000
set_option maxHeartbeats 16000000
namespace Go.Proofs.YtpfafhklppondaaGreat.C7
open ChangeShapes WideShapes ChangeAt RowKit Sl Cop M2 P3 X3 G4 Q2 X2 J4 L4 K6 P4 Q6 Y6
def rowsOf(p:(Value × Value) × ItemV):Pr:=(BytesRow p.1.1 p.2.key).star (BytesRow p.1.2 p.2.value)
theorem rows_step {ys:List (Value × Value)}{its:List ItemV}{k:Nat}{v1 v2:Value}(hy:k<ys.length)(hl:k<its.length):((ys.set k (v1,v2)).zip its).take (k+1)=(ys.zip its).take k++ [((v1,v2),its[k])]:=by
 have hz:k<(ys.zip its).length:=by simp;omega
 rw [← zip_set_l _ _ _ _ hl,List.take_succ_eq_append_getElem (by simpa using hz),List.getElem_set_self,List.take_set_of_le (Nat.le_refl _)]
structure Part0(xs0 xs:List (Value × Value))(l:List ItemV)(k:Nat):Prop where
 len:xs.length=l.length
 old:∀i,k≤i→xs[i]? =xs0[i]?
theorem Part0.step {xs0 xs:List (Value × Value)}{l:List ItemV}{k:Nat}(hp:Part0 xs0 xs l k)(_:k<l.length){v:Value × Value}:Part0 xs0 (xs.set k v) l (k+1):=
 ⟨by simp [hp.len],fun i hik=>by rw [List.getElem?_set_ne (by omega)];exact hp.old i (by omega)⟩
theorem copied_rows(h:Hp)(v:Value)(g:PageV)(hv:PageIn h v g)(hn:g.items.length≤65536)(hb:∀x∈g.items,x.key.length≤65536∧x.value.length≤65536)(hd:g.data.length≤65536)(F:Pr)(w:World)(hF:Sat ((Pr.own h).star F) w):
 Calls Tryz.prog 72 #[v] w fun e w'=> ∃vi vd ys,e= .returned (pageV g.kind g.level vi vd g.next)∧ys.length=g.items.length∧Sat ((ItRow vi ys g.items).star ((big rowsOf (ys.zip g.items)).star ((BytesRow vd g.data).star ((Pr.own h).star F)))) w'∧Stays w w':=by
 obtain⟨vi,vd,rfl,hi,hdd⟩:=hv;obtain⟨k0,l0,its,dat,nx⟩:=g;dsimp only at*;obtain⟨xs,hxl,hrow,hbb⟩:=id hi;have hits:ItsAt h xs its:=⟨hxl,hbb⟩;obtain⟨ai,ci,rfl,_,_⟩:=items_rd hi;obtain⟨ad,cd,rfl⟩:=bytes_shape hdd;have h1:=(hF.alloc (pageC k0 l0 (.slice ai its.length ci) (.slice ad dat.length cd) nx)).alloc (pageC 0 0 (.slice none 0 0) (.slice none 0 0) 0)
 rw [show (w.alloc (pageC k0 l0 (.slice ai its.length ci) (.slice ad dat.length cd) nx)).heap.size=w.heap.size+1 by simp] at h1;have h2:=h1.drew.perm (B:=(Pr.own h).star ((Pr.pts w.heap.size (pageC k0 l0 (.slice ai its.length ci) (.slice ad dat.length cd) nx)).star ((Pr.pts (w.heap.size+1) (pageC 0 0 (.slice none 0 0) (.slice none 0 0) 0)).star F))) (by ac_rfl)
 have CI:=hQ (clone_items h _ xs its hits hrow hn _ _ h2);have HD:=hQ hdd;have HN:=hQ hd;have HB:=hQ hb;have HIT:=hQ hits;have HST:=hQ (((Stays.refl w).alloc (pageC k0 l0 (.slice ai its.length ci) (.slice ad dat.length cd) nx)).alloc (pageC 0 0 (.slice none 0 0) (.slice none 0 0) 0)).drew;clear h1 h2 hi hdd hF hd hb hits hrow hbb;go_enter Tryz.func72,Tryz.ntmps72
 go_wp2_with fail
 refine wS 39 [0,1,3,4] [(2,[6],[0,3,4]),(5,[],[0,3,6]),(7,[8],[]),(9,[],[])] ?_;refine wpQ_all _ rfl rfl ?_;simp only [pick,pQ];iterate 4 (go_big_quiet_step (fail))
 refine wpQuiet_nil ?_;refine wpRest_act rfl ?_;go_wp2_with fail
 refine CI.out.mono ?_;rintro e w1 ⟨v1,rfl,hs2,st2⟩;obtain⟨a1,c1,e1,_,_⟩:=Row.read hs2;subst e1;have hs3:Sat ((Pr.own h).star ((Pr.pts w.heap.size (pageC k0 l0 (.slice ai its.length ci) (.slice ad dat.length cd) nx)).star ((Pr.pts (w.heap.size+1) (pageC 0 0 (.slice none 0 0) (.slice none 0 0) 0)).star ((ItRow (.slice a1 its.length c1) xs its).star F)))) w1:=hs2.perm (by ac_rfl)
 obtain⟨q0,q1,q2,q3,q4,_,z0⟩:=pts5 hs3.right;have CB2:=hQ (clone_bytes h _ dat _ _ hs3 hs3.own HD.out HN.out);have HST2:=hQ (HST.out.trans st2);clear hs2 hs3 st2 CI HD;go_wp2;refine onN_mk ?_;refine wpQ_all _ rfl rfl ?_;simp only [pick,pQ];iterate 1 (go_big_quiet_step (fail))
 refine wpQuiet_nil ⟨?_,?_⟩
 · exact cQ
 refine wpRest_act rfl ?_;go_wp2_with fail
 refine CB2.out.mono ?_;rintro e w2 ⟨v2,rfl,hs4,st4⟩;obtain⟨a2,c2,e2,_,_⟩:=Row.read hs4;subst e2
 have hs5:Sat ((Pr.pts w.heap.size (pageC k0 l0 (.slice ai its.length ci) (.slice ad dat.length cd) nx)).star ((Pr.pts (w.heap.size+1) (pageC 0 0 (.slice none 0 0) (.slice none 0 0) 0)).star ((BytesRow (.slice a2 dat.length c2) dat).star ((ItRow (.slice a1 its.length c1) xs its).star ((Pr.own h).star F))))) w2:=hs4.perm (by ac_rfl);clear q0 q1 q2 q3 q4 z0
 obtain⟨q0,q1,q2,q3,q4,⟨f0,f1,f2,f3,f4⟩,z0⟩:=pts5 hs5;have H5:=hQ hs5;have HST4:=hQ (HST2.out.trans st4);clear hs4 hs5 st4 CB2;go_wp2;refine onN_mk ?_;refine wpQ_nil ⟨?_,?_⟩
 · exact cQ
 refine wpRest_act rfl ?_;go_wp2;refine onN_mk ?_;refine wpQ_all _ rfl rfl ?_;simp only [pick,pQ];iterate 1 (go_big_quiet_step (fail))
 refine wpQuiet_nil ⟨?_,?_⟩
 · exact chk_nil
 refine wpRest_act rfl ?_;go_wp2;refine onN_mk (wpQ_nil ⟨chk_nil,wpRest_nil ?_⟩);have s6:=(H5.out.setCell (i:=2) (.slice a1 its.length c1)).setCell (i:=3) (.slice a2 dat.length c2)
 have s7:Sat ((Pr.pts w.heap.size (pageC k0 l0 (.slice a1 its.length c1) (.slice a2 dat.length c2) nx)).star ((Pr.pts (w.heap.size+1) (pageC 0 0 (.slice none 0 0) (.slice none 0 0) 0)).star ((BytesRow (.slice a2 dat.length c2) dat).star ((ItRow (.slice a1 its.length c1) xs its).star ((Pr.own h).star F))))) _:=s6
 have hst6:=(HST4.out.setCell ⟨w.heap.size,2,none⟩ (.slice a1 its.length c1)).setCell ⟨w.heap.size,3,none⟩ (.slice a2 dat.length c2);generalize (w2.setCell ⟨w.heap.size,2,none⟩ (.slice a1 its.length c1)).setCell ⟨w.heap.size,3,none⟩ (.slice a2 dat.length c2)=w5 at*;clear q0 q1 q2 q3 q4 z0 f0 f1 f2 f3 f4 H5 HST4;obtain⟨q0,q1,q2,q3,q4,_,z0⟩:=pts5 s7;have H7:=hQ s7;have HST6:=hQ hst6;clear s6 s7 hst6
 have hn0:(its.length:Int)≤65536:=by omega
 go_wp2_with fail
 go_loopw [16] (fun i wr=> ∃(k:Nat) (ys:List (Value × Value)),k≤its.length∧i= .int .i64 k∧Stays w wr∧Hid (Part0 xs ys its k)∧
  Sat ((Pr.pts w.heap.size (pageC k0 l0 (.slice a1 its.length c1) (.slice a2 dat.length c2) nx)).star ((Pr.pts (w.heap.size+1) (pageC 0 0 (.slice none 0 0) (.slice none 0 0) 0)).star ((ItRow (.slice a1 its.length c1) ys its).star ((big rowsOf ((ys.zip its).take k)).star ((BytesRow (.slice a2 dat.length c2) dat).star ((Pr.own h).star F)))))) wr) (fun i _=>its.length-(intOf i).toNat)
 case atStart=>
  refine⟨0,xs,Nat.zero_le _,rfl,HST6.out,hQ ⟨HIT.out.len,fun _ _=>rfl⟩,?_⟩;rw [List.take_zero,big_nil,Pr.emp_star];exact H7.out.perm (by ac_rfl)
 case round=>
  obtain⟨k,ys,hkl,rfl,hst,hpart,hs⟩:=hrel;clear q0 q1 q2 q3 q4 z0;rcases Nat.lt_or_ge k its.length with hlt | hge
  · have hylen:=hpart.out.len
    have hky:k<ys.length:=by omega
    have hkx:k<xs.length:=by have:=HIT.out.len;omega
    have eyk:ys[k]=xs[k]:=by
     have:=hpart.out.old k (Nat.le_refl _)
     rw [List.getElem?_eq_getElem hky,List.getElem?_eq_getElem hkx] at this;exact Option.some.inj this
    obtain⟨hb1,hb2⟩:=HIT.out.at' k hkx hlt;obtain⟨hn1,hn2⟩:=HB.out its[k] (List.getElem_mem hlt);rw [← eyk] at hb1 hb2;obtain⟨ak,ck,ek⟩:=bytes_shape hb1;obtain⟨av,cv,ev⟩:=bytes_shape hb2
    have hr0:=hs.perm (B:=(ItRow (.slice a1 its.length c1) ys its).star ((Pr.pts w.heap.size (pageC k0 l0 (.slice a1 its.length c1) (.slice a2 dat.length c2) nx)).star ((Pr.pts (w.heap.size+1) (pageC 0 0 (.slice none 0 0) (.slice none 0 0) 0)).star ((big rowsOf ((ys.zip its).take k)).star ((BytesRow (.slice a2 dat.length c2) dat).star ((Pr.own h).star F)))))) (by ac_rfl)
    have ha1:∃b,a1=some ⟨b,0,none⟩:=by
     obtain⟨_,_,e,_,hc⟩:=Row.read hr0;cases e;obtain⟨b,e,_⟩:=hc (by omega);exact⟨b,e⟩
    obtain⟨b,rfl⟩:=ha1;obtain⟨⟨r0,r1,r2,r3⟩,_⟩:=itRow_rd hr0 hky hlt;rw [ek] at r0 hb1;rw [ev] at r1 hb2;have hA0:=(hs.alloc (itemC (.slice ak its[k].key.length ck) (.slice av its[k].value.length cv) its[k].child its[k].size)).drew
    have HRST:=hQ (show Sat ((Pr.pts wr.heap.size (itemC (.slice ak its[k].key.length ck) (.slice av its[k].value.length cv) its[k].child its[k].size)).star ((Pr.pts w.heap.size (pageC k0 l0 (.slice (some ⟨b,0,none⟩) its.length c1) (.slice a2 dat.length c2) nx)).star ((Pr.own h).star ((ItRow (.slice (some ⟨b,0,none⟩) its.length c1) ys its).star ((Pr.pts (w.heap.size+1) (pageC 0 0 (.slice none 0 0) (.slice none 0 0) 0)).star ((big rowsOf ((ys.zip its).take k)).star ((BytesRow (.slice a2 dat.length c2) dat).star F))))))) _ from hA0.perm (by ac_rfl))
    obtain⟨q0,q1,q2,q3,q4,_,z0⟩:=pts5 hs;have CK:=hQ (clone_bytes h _ its[k].key _ _ HRST.out HRST.out.right.right.own hb1 hn1);have HB2:=hQ hb2;have HSTR:=hQ ((hst.alloc (itemC (.slice ak its[k].key.length ck) (.slice av its[k].value.length cv) its[k].child its[k].size)).drew);have z1:w.heap.size<wr.heap.size:=hs.lt;have HPART:=hQ hpart.out;have HEV:=hQ ev;have HEK:=hQ ek
    clear hs hr0 hA0 hb1 hb2 hst hpart eyk ek ev;go_wp2_with fail
    refine wS 39 [0,1,2,3,4,5,6,7,9,10] [(8,[],[0,1,2,3,4,5,6,9,10]),(11,[12,13],[0,1,2,3,4,5,6,9]),(14,[15,16],[3,4,5,9,12]),(17,[],[15])] ?_;refine wpQ_all _ rfl rfl ?_;simp only [pick,pQ];iterate 10 (go_big_quiet_step (fail))
    refine wpQuiet_nil ?_;refine wpRest_act rfl ?_;go_wp2_with fail
    refine CK.out.mono ?_;rintro e w3 ⟨v3,rfl,hs3,st3⟩;obtain⟨a3,c3,e3,_,_⟩:=Row.read hs3;subst e3
    have H3:=hQ (show Sat ((Pr.pts wr.heap.size (itemC (.slice ak its[k].key.length ck) (.slice av its[k].value.length cv) its[k].child its[k].size)).star ((Pr.pts w.heap.size (pageC k0 l0 (.slice (some ⟨b,0,none⟩) its.length c1) (.slice a2 dat.length c2) nx)).star ((Pr.own h).star ((BytesRow (.slice a3 its[k].key.length c3) its[k].key).star ((ItRow (.slice (some ⟨b,0,none⟩) its.length c1) ys its).star ((Pr.pts (w.heap.size+1) (pageC 0 0 (.slice none 0 0) (.slice none 0 0) 0)).star ((big rowsOf ((ys.zip its).take k)).star ((BytesRow (.slice a2 dat.length c2) dat).star F)))))))) w3 from hs3.perm (by ac_rfl))
    have HST3:=hQ (HSTR.out.trans st3);clear q0 q1 q2 q3 q4 z0 r0 r1 r2 r3 CK hs3 st3 HRST;obtain⟨q0,q1,q2,q3,q4,_,z0⟩:=pts5 H3.out.right;obtain⟨i0,i1,i2,i3,_,z2⟩:=pts4 H3.out;have CV:=hQ (clone_bytes h _ its[k].value _ _ H3.out H3.out.right.right.own HB2.out hn2);go_wp2;refine onN_mk ?_;refine wpQ_nil ⟨?_,?_⟩
    · exact cQ
    refine wpRest_act rfl ?_;go_wp2_with fail
    refine CV.out.mono ?_;rintro e w4 ⟨v4,rfl,hs4,st4⟩;obtain⟨a4,c4,e4,_,_⟩:=Row.read hs4;subst e4
    have H4:=hQ (show Sat ((Pr.pts wr.heap.size (itemC (.slice ak its[k].key.length ck) (.slice av its[k].value.length cv) its[k].child its[k].size)).star ((Pr.pts w.heap.size (pageC k0 l0 (.slice (some ⟨b,0,none⟩) its.length c1) (.slice a2 dat.length c2) nx)).star ((Pr.own h).star ((BytesRow (.slice a3 its[k].key.length c3) its[k].key).star ((BytesRow (.slice a4 its[k].value.length c4) its[k].value).star ((ItRow (.slice (some ⟨b,0,none⟩) its.length c1) ys its).star ((Pr.pts (w.heap.size+1) (pageC 0 0 (.slice none 0 0) (.slice none 0 0) 0)).star ((big rowsOf ((ys.zip its).take k)).star ((BytesRow (.slice a2 dat.length c2) dat).star F))))))))) w4 from hs4.perm (by ac_rfl))
    have HST4:=hQ (HST3.out.trans st4);clear q0 q1 q2 q3 q4 z0 i0 i1 i2 i3 z2 CV hs4 st4 H3;obtain⟨q0,q1,q2,q3,q4,_,z0⟩:=pts5 H4.out.right;obtain⟨i0,i1,i2,i3,_,z2⟩:=pts4 H4.out
    have R4:=hQ (show Sat ((ItRow (.slice (some ⟨b,0,none⟩) its.length c1) ys its).star ((Pr.pts wr.heap.size (itemC (.slice ak its[k].key.length ck) (.slice av its[k].value.length cv) its[k].child its[k].size)).star ((Pr.pts w.heap.size (pageC k0 l0 (.slice (some ⟨b,0,none⟩) its.length c1) (.slice a2 dat.length c2) nx)).star ((BytesRow (.slice a3 its[k].key.length c3) its[k].key).star ((BytesRow (.slice a4 its[k].value.length c4) its[k].value).star ((Pr.own h).star ((Pr.pts (w.heap.size+1) (pageC 0 0 (.slice none 0 0) (.slice none 0 0) 0)).star ((big rowsOf ((ys.zip its).take k)).star ((BytesRow (.slice a2 dat.length c2) dat).star F))))))))) w4 from H4.out.perm (by ac_rfl))
    obtain⟨⟨r0,r1,r2,r3⟩,g0,g1⟩:=itRow_rd R4.out hky hlt;go_wp2;refine onN_mk ?_;refine wpQ_all _ rfl rfl ?_;simp only [pick,pQ];iterate 2 (go_big_quiet_step (fail))
    refine wpQuiet_nil ⟨?_,?_⟩
    · exact cQ
    refine wpRest_act rfl ?_;go_wp2;have s5:=itRow_key R4.out hky hlt (.slice a3 its[k].key.length c3);have t5:=HST4.out.setCell ⟨b,k*4,none⟩ (.slice a3 its[k].key.length c3);generalize w4.setCell ⟨b,k*4,none⟩ (.slice a3 its[k].key.length c3)=w5' at*;have hky2:k<(ys.set k (.slice a3 its[k].key.length c3,ys[k].2)).length:=by simpa using hky
    have R5:=hQ s5;have HST5:=hQ t5;clear q0 q1 q2 q3 q4 z0 i0 i1 i2 i3 z2 r0 r1 r2 r3 g0 g1 s5 t5 R4 H4;obtain⟨q0,q1,q2,q3,q4,_,z0⟩:=pts5 R5.out.right.right;obtain⟨i0,i1,i2,i3,_,z2⟩:=pts4 R5.out.right;obtain⟨⟨r0,r1,r2,r3⟩,g0,g1⟩:=itRow_rd R5.out hky2 hlt;refine onN_mk ?_;refine wpQ_all _ rfl rfl ?_;simp only [pick,pQ];iterate 2 (go_big_quiet_step (fail))
    refine wpQuiet_nil ⟨?_,?_⟩
    · exact cQ
    refine wpRest_act rfl ?_;go_wp2;have s6:=itRow_val R5.out hky2 hlt (.slice a4 its[k].value.length c4);have t6:=HST5.out.setCell ⟨b,k*4+1,none⟩ (.slice a4 its[k].value.length c4);generalize w5'.setCell ⟨b,k*4+1,none⟩ (.slice a4 its[k].value.length c4)=w6' at*;rw [List.set_set,List.getElem_set_self] at s6;have R6:=hQ s6;have HST6':=hQ t6
    clear q0 q1 q2 q3 q4 z0 i0 i1 i2 i3 z2 r0 r1 r2 r3 g0 g1 s6 t6 R5;obtain⟨q0,q1,q2,q3,q4,_,z0⟩:=pts5 R6.out.right.right;refine onN_mk ?_;refine wpQ_nil ⟨?_,?_⟩
    · exact cQ
    refine wpRest_nil ?_;go_wp2;go_roundw
    case rel=>
     have h8:=R6.out.perm (B:=(BytesRow (.slice a3 its[k].key.length c3) its[k].key).star ((BytesRow (.slice a4 its[k].value.length c4) its[k].value).star ((big rowsOf ((ys.zip its).take k)).star ((Pr.pts wr.heap.size (itemC (.slice ak its[k].key.length ck) (.slice av its[k].value.length cv) its[k].child its[k].size)).star ((ItRow (.slice (some ⟨b,0,none⟩) its.length c1) (ys.set k (.slice a3 its[k].key.length c3,.slice a4 its[k].value.length c4)) its).star ((Pr.pts w.heap.size (pageC k0 l0 (.slice (some ⟨b,0,none⟩) its.length c1) (.slice a2 dat.length c2) nx)).star ((Pr.own h).star ((Pr.pts (w.heap.size+1) (pageC 0 0 (.slice none 0 0) (.slice none 0 0) 0)).star ((BytesRow (.slice a2 dat.length c2) dat).star F))))))))) (by ac_rfl)
     have e9:=rows_step (v1:= .slice a3 its[k].key.length c3) (v2:= .slice a4 its[k].value.length c4) hky hlt
     have h9:=h8.perm (B:=(Pr.pts wr.heap.size (itemC (.slice ak its[k].key.length ck) (.slice av its[k].value.length cv) its[k].child its[k].size)).star ((((BytesRow (.slice a3 its[k].key.length c3) its[k].key).star (BytesRow (.slice a4 its[k].value.length c4) its[k].value)).star (big rowsOf ((ys.zip its).take k))).star ((ItRow (.slice (some ⟨b,0,none⟩) its.length c1) (ys.set k (.slice a3 its[k].key.length c3,.slice a4 its[k].value.length c4)) its).star ((Pr.pts w.heap.size (pageC k0 l0 (.slice (some ⟨b,0,none⟩) its.length c1) (.slice a2 dat.length c2) nx)).star ((Pr.pts (w.heap.size+1) (pageC 0 0 (.slice none 0 0) (.slice none 0 0) 0)).star ((BytesRow (.slice a2 dat.length c2) dat).star ((Pr.own h).star F))))))) (by ac_rfl)
     have e10:((BytesRow (.slice a3 its[k].key.length c3) its[k].key).star (BytesRow (.slice a4 its[k].value.length c4) its[k].value)).star (big rowsOf ((ys.zip its).take k))=big rowsOf (((ys.set k (.slice a3 its[k].key.length c3,.slice a4 its[k].value.length c4)).zip its).take (k+1)):=by
      rw [e9,big_snoc];rfl
     rw [e10] at h9;refine⟨k+1,ys.set k (.slice a3 its[k].key.length c3,.slice a4 its[k].value.length c4),by omega,congrArg (Value.int .i64) (by omega),HST6'.out,hQ (HPART.out.step hlt),?_⟩;exact h9.right.perm (by ac_rfl)
    case measure=>simp [intOf];omega
  · have hkl2:k=its.length:=by omega
    subst hkl2;obtain⟨q0,q1,q2,q3,q4,_,z0⟩:=pts5 hs;obtain⟨p0,p1,p2,p3,p4,⟨f0,f1,f2,f3,f4⟩,z1⟩:=pts5 hs.right;have HS:=hQ hs.right;have HSTR:=hQ hst;clear hs hst;go_wp2;have s6:=((((HS.out.setCell (i:=0) (.int .i64 k0)).setCell (i:=1) (.int .i64 l0)).setCell (i:=2) (.slice a1 its.length c1)).setCell (i:=3) (.slice a2 dat.length c2)).setCell (i:=4) (.int .i64 nx)
    have s7:Sat ((Pr.pts (w.heap.size+1) (pageC k0 l0 (.slice a1 its.length c1) (.slice a2 dat.length c2) nx)).star ((ItRow (.slice a1 its.length c1) ys its).star ((big rowsOf ((ys.zip its).take its.length)).star ((BytesRow (.slice a2 dat.length c2) dat).star ((Pr.own h).star F))))) _:=s6
    refine bodyPost_ret (results_cell_row rfl _ _ (w.heap.size+1) _ _ _ _ rfl s7.pts_heap Tryz.underlying37 rfl infoPage) rfl ?_;have hp:=hpart.out;have e11:(ys.zip its).take its.length=ys.zip its:=List.take_of_length_le (by simp [Nat.min_le_right]);rw [e11] at s7;exact⟨_,_,ys,rfl,hp.len,s7.right,((((HSTR.out.setCell _ _).setCell _ _).setCell _ _).setCell _ _).setCell _ _⟩
end Go.Proofs.YtpfafhklppondaaGreat.C7
namespace Go.Proofs.YtpfafhklppondaaGreat.E7
open ChangeShapes WideShapes ChangeAt RowKit Sl Cop M2 P3 X3 G4 Q2 X2 J4 L4 V4 Y4 B5 D5 L6 P4 Q6 Y6 C7
theorem fitK {g:PageV}(h:Fit g):∀y∈g.items,y.key.length≤65536∧y.value.length≤65536:=fun y hy=>by have:=h.k y hy;omega
theorem fitZ:Fit zeroP:=⟨by simp,by simp,fun x hx=>by cases hx⟩
theorem zeroIn:PageIn Hp.nil zeroPage zeroP:=⟨_,_,rfl,items_mk (Nat.zero_le _),RowIn.nil _ _⟩
structure ToldX where
 vi:Value
 vd:Value
 ys:List (Value × Value)
 g:PageV
def ToldX.pv(t:ToldX):Value:=pageV t.g.kind t.g.level t.vi t.vd t.g.next
abbrev TRows(t:ToldX)(T:Pr):Pr:=(ItRow t.vi t.ys t.g.items).star ((big rowsOf (t.ys.zip t.g.items)).star ((BytesRow t.vd t.g.data).star T))
def PgOwn(t:ToldX):Pr:=(Pr.pure (t.ys.length=t.g.items.length)).star (TRows t Pr.emp)
theorem pgOwn_iff {t:ToldX}{F:Pr}{w:World}:Sat ((PgOwn t).star F) w↔t.ys.length=t.g.items.length∧Sat (TRows t F) w:=by
 unfold PgOwn;rw [Pr.star_assoc];constructor
 · intro h
   obtain⟨h1,h2⟩:=Sat.pure.1 h;exact⟨h1,h2.perm (by simp only [TRows,Pr.star_assoc,Pr.emp_star])⟩
 · rintro⟨h1,h2⟩
   exact Sat.pure.2 ⟨h1,h2.perm (by simp only [TRows,Pr.star_assoc,Pr.emp_star])⟩
theorem big_rows_in {l:List ((Value × Value) × ItemV)}{h:Hp}(hb:big rowsOf l h):∀x∈l,Bytes h x.1.1 x.2.key∧Bytes h x.1.2 x.2.value:=by
 induction l generalizing h with
 | nil=>intro x hx;cases hx
 | cons y l ih=>
   obtain⟨a,b,ha,hb',s1,s2⟩:=star_sub (show ((rowsOf y).star (big rowsOf l)) h from hb);obtain⟨c,d,hc,hd,s3,s4⟩:=star_sub (show ((BytesRow y.1.1 y.2.key).star (BytesRow y.1.2 y.2.value)) a from ha);intro x hx;rcases List.mem_cons.1 hx with rfl | hx
   · exact⟨((Row.rowIn hc).sub s3).sub s1,((Row.rowIn hd).sub s4).sub s1⟩
   · exact⟨(ih hb' x hx).1.sub s2,(ih hb' x hx).2.sub s2⟩
theorem pgOwn_in {t:ToldX}{h:Hp}(ht:PgOwn t h):PageIn h t.pv t.g:=by
 have ht:((Pr.pure (t.ys.length=t.g.items.length)).star (TRows t Pr.emp)) h:=ht;obtain⟨a,b,ha,hb,s1,s2⟩:=star_sub ht;have hlen:t.ys.length=t.g.items.length:=ha.1;obtain⟨c,d,hc,hd,s3,s4⟩:=star_sub (show ((ItRow t.vi t.ys t.g.items).star ((big rowsOf (t.ys.zip t.g.items)).star ((BytesRow t.vd t.g.data).star Pr.emp))) b from hb);obtain⟨e,f,he,hf,s5,s6⟩:=star_sub hd;obtain⟨i,j,hi,_,s7,_⟩:=star_sub hf
 refine⟨t.vi,t.vd,rfl,⟨t.ys,hlen,((Row.rowIn hc).sub s3).sub s2,fun k hx hl=> ?_⟩,((((Row.rowIn hi).sub s7).sub s6).sub s4).sub s2⟩
 have hm:=big_rows_in he (t.ys[k],t.g.items[k]) (by
  have hz:k<(t.ys.zip t.g.items).length:=by simp;omega
  have:=List.getElem_mem hz
  rwa [List.getElem_zip] at this)
 exact⟨((hm.1.sub s5).sub s4).sub s2,((hm.2.sub s5).sub s4).sub s2⟩
def zeroT:ToldX:=⟨.slice none 0 0,.slice none 0 0,[],zeroP⟩
theorem pgOwn_zero:PgOwn zeroT=Pr.emp:=by
 unfold PgOwn TRows zeroT ItRow BytesRow;simp only [List.length_nil,List.zip_nil_left,List.flatMap_nil,List.map_nil,Row.nil,big_nil,Pr.star_emp];funext h
 exact propext ⟨fun⟨_,e⟩=>e,fun e=>⟨trivial,e⟩⟩
theorem read_rows(v:Nat)(s:VaultS)(n:Int)(hn:1≤n∧n≤65536)(g:PageV)(hfit:Fit g)(F:Pr)(w:World)(hF:Sat ((VaultA v s).star F) w)(h0:s.pool.count n≠0)(hon:s.on n=some g):
 Calls Tryz.prog 38 #[.pointer (some ⟨v,0,none⟩),.int .i64 n] w fun e w'=>
  Stays w w'∧∃t:ToldX,e= .returned (.tuple #[t.pv,.int .i64 0])∧t.g=g∧Sat ((PgOwn t).star ((VaultA v s).star F)) w':=by
 obtain⟨x,ok,hF⟩:=vaultA_iff.1 hF;have ho:Only w (w.alloc (pageC 0 0 (.slice none 0 0) (.slice none 0 0) 0)):=(Only.refl w).alloc _
 have h1:Sat ((PoolA x.p s.pool).star ((Pr.pts v (.cells #[.pointer (some ⟨x.p,0,none⟩),.map (some x.mb),x.av,.int .i64 s.floor] 62)).star
  ((((MapA Tryz.prog 3 x.mb x.f).star ((Row 153 2 x.av s.acts.length (actCells x.axs)).star (Pr.own x.h)))).star F))) w:=hF.perm (by unfold VaultAt;ac_rfl)
 have qv:w.cell? ⟨v,0,none⟩=some (.pointer (some ⟨x.p,0,none⟩)):=by rw [cell_of_heap h1.right.pts_heap];rfl
 have qm:w.cell? ⟨v,1,none⟩=some (.map (some x.mb)):=by rw [cell_of_heap h1.right.pts_heap];rfl
 have zv:=h1.right.lt;have C:=hQ (count_A x.p s.pool n _ _ (h1.only ho));have hm:=(h1.only ho).perm (B:=(MapA Tryz.prog 3 x.mb x.f).star ((PoolA x.p s.pool).star ((Pr.pts v (.cells #[.pointer (some ⟨x.p,0,none⟩),.map (some x.mb),x.av,.int .i64 s.floor] 62)).star ((Row 153 2 x.av s.acts.length (actCells x.axs)).star ((Pr.own x.h).star F))))) (by ac_rfl);have hO:=ok.on n;rw [hon] at hO
 obtain⟨pv,hf,hpv⟩:=hO;have hne:(s.pool.count n == 0)=false:=by rw [beq_eq_false_iff_ne];exact h0
 have h2:=(hF.alloc (pageC 0 0 (.slice none 0 0) (.slice none 0 0) 0)).perm (B:=(Pr.own x.h).star ((Pr.pts w.heap.size (pageC 0 0 (.slice none 0 0) (.slice none 0 0) 0)).star ((Pr.pts v (.cells #[.pointer (some ⟨x.p,0,none⟩),.map (some x.mb),x.av,.int .i64 s.floor] 62)).star ((PoolA x.p s.pool).star ((MapA Tryz.prog 3 x.mb x.f).star ((Row 153 2 x.av s.acts.length (actCells x.axs)).star F)))))) (by unfold VaultAt;ac_rfl)
 have D:=hQ (copied_rows x.h pv g hpv (by have:=hfit.n;omega) (fitK hfit) (by have:=hfit.d;omega) _ _ h2);have HM:=hQ hm;have HO:=hQ ho;have OK:=hQ ok;have HFN:=hQ hf;clear h1 hF ok ho hm hf hpv h2;go_enter Tryz.func38,Tryz.ntmps38
 go_wp2_with fail
 refine C.out.mono ?_;rintro e w1 ⟨rfl,rfl⟩;generalize s.pool.count n=k at*;go_wp2_with (at_lookup;refine wpList_look rfl _ _ _ false rfl Tryz.underlying3 Tryz.underlying59 zeroPage (zero_page _) n hn rfl rfl HM.out ?_;rw [HFN.out])
 refine D.out.mono ?_;rintro e w1 ⟨vi,vd,ys,rfl,hyl,h3,hst⟩;obtain⟨ai,ci,rfl⟩:=Row.shape h3;obtain⟨ad,cd,rfl⟩:=Row.shape h3.right.right;have h4:=(pgOwn_iff (t:=⟨.slice ai g.items.length ci,.slice ad g.data.length cd,ys,g⟩)).2 ⟨hyl,h3⟩;have hs:=OwnL.in7 h4;have c1:=hs.facts;simp only [CellsAt,Nat.reduceAdd,and_true] at c1;have HS:=hQ hs;have HST:=hQ (HO.out.st.trans hst);have HYL:=hQ hyl
 clear h3 h4 hs hst C D HM HFN hyl;go_wp2;have h5:=(((((HS.out.set w.heap.size 0 (.int .i64 g.kind)).set w.heap.size 1 (.int .i64 g.level)).set w.heap.size 2 (.slice ai g.items.length ci)).set w.heap.size 3 (.slice ad g.data.length cd)).set w.heap.size 4 (.int .i64 g.next))
 refine bodyPost_ret (results_cell_row_tmp rfl _ _ w.heap.size _ rfl (run_loadVar_row _ w.heap.size _ _ _ _ _ (h5.pts w.heap.size).pts_heap Tryz.underlying37 rfl infoPage)) rfl ?_;refine⟨((((HST.out.setCell _ _).setCell _ _).setCell _ _).setCell _ _).setCell _ _,⟨.slice ai g.items.length ci,.slice ad g.data.length cd,ys,g⟩,rfl,rfl,?_⟩
 have h6:=h5.pull8 (A1:=PgOwn ⟨.slice ai g.items.length ci,.slice ad g.data.length cd,ys,g⟩) (A2:=Pr.pts v (.cells #[.pointer (some ⟨x.p,0,none⟩),.map (some x.mb),x.av,.int .i64 s.floor] 62)) (A3:=PoolA x.p s.pool) (A4:=MapA Tryz.prog 3 x.mb x.f) (A5:=Row 153 2 x.av s.acts.length (actCells x.axs)) (A6:=Pr.own x.h) (A7:=F) (A8:=Pr.pts w.heap.size (pageC g.kind g.level (.slice ai g.items.length ci) (.slice ad g.data.length cd) g.next))
 refine Sat.perm (A:=(VaultA v s).star ((PgOwn ⟨.slice ai g.items.length ci,.slice ad g.data.length cd,ys,g⟩).star F)) ?_ (Pr.left_comm _ _ _);refine vaultA_iff.2 ⟨x,OK.out,?_⟩;refine Sat.left (B:=(Pr.pts w.heap.size (pageC g.kind g.level (.slice ai g.items.length ci) (.slice ad g.data.length cd) g.next)).star (starL [])) (h6.perm ?_);unfold VaultAt;simp only [starL];ac_rfl
end Go.Proofs.YtpfafhklppondaaGreat.E7
namespace Go.Proofs.YtpfafhklppondaaGreat.F7
open ChangeShapes WideShapes ChangeAt RowKit Sl Cop Go.Shelf M2 P3 X3 Y3 G4 Q2 X2 J4 L4 V4 Y4 D5 E5 P4 X4 Y6 C7 G5 E7
attribute [local go_sem] Oper.semAt_some
theorem infoNum:(Tryz.prog.info? 69).map (fun i=>(i.zero,i.size,i.bytes))=some (some (.agg #[.int .i64 0,.int .i64 0,.int .i64 0,.slice none 0 0,.slice none 0 0,.int .i64 0]),6,80):=by kernel_rfl
def numsOf(s:VaultS)(l:List Int):List NumV:=l.map fun n=>⟨n,(s.on n).getD zeroP⟩
structure NumsAt(h:Hp)(xs:List (Value × Value))(l:List NumV):Prop where
 len:xs.length=l.length
 each:∀i (_:i<xs.length) (_:i<l.length),ItemsIn h xs[i].1 l[i].page.items∧Bytes h xs[i].2 l[i].page.data
def NumsRow(v:Value)(l:List NumV):Pr:=Pr.ex fun y:List (Value × Value) × Hp=>(Pr.pure (NumsAt y.2 y.1 l)).star ((Row 69 6 v l.length ((y.1.zip l).flatMap numCells)).star (Pr.own y.2))
theorem numsRow_iff {v:Value}{l:List NumV}{F:Pr}{w:World}:Sat ((NumsRow v l).star F) w↔∃xs h,NumsAt h xs l∧Sat ((Row 69 6 v l.length ((xs.zip l).flatMap numCells)).star ((Pr.own h).star F)) w:=by
 unfold NumsRow;rw [Sat.ex];constructor
 · rintro⟨⟨xs,h⟩,h1⟩
   rw [Pr.star_assoc] at h1;obtain⟨h2,h3⟩:=Sat.pure.1 h1;exact⟨xs,h,h2,h3.perm (Pr.star_assoc _ _ _)⟩
 · rintro⟨xs,h,h1,h2⟩
   refine⟨(xs,h),?_⟩;rw [Pr.star_assoc];exact Sat.pure.2 ⟨h1,h2.perm (Pr.star_assoc _ _ _).symm⟩
theorem numsRow_in {v:Value}{l:List NumV}{h:Hp}(hr:NumsRow v l h):NumsIn h v l:=by
 obtain⟨⟨xs,h0⟩,hr⟩:=hr;obtain⟨_,b,⟨ha,rfl⟩,hb,s1,s2⟩:=star_sub hr;obtain⟨c,d,hc,hd,s3,s4⟩:=star_sub hb;have hd':d=h0:=hd;subst hd';exact⟨xs,ha.len,((Row.rowIn hc).sub s3).sub s2,fun i hx hl=>⟨((ha.each i hx hl).1.sub s4).sub s2,((ha.each i hx hl).2.sub s4).sub s2⟩⟩
theorem numsRow_start {F:Pr}{w:World}(h:Sat F w):Sat ((NumsRow (.slice none 0 0) []).star F) w:=by
 refine numsRow_iff.2 ⟨[],Hp.nil,⟨rfl,fun i hx=>absurd hx (by simp)⟩,?_⟩;rw [own_nil,Pr.emp_star,List.zip_nil_left,List.flatMap_nil,List.length_nil,Row.nil,Pr.emp_star];exact h
theorem NumsAt.snoc {h h':Hp}(hd:h.dis h'){xs:List (Value × Value)}{l:List NumV}(ha:NumsAt h xs l){vi vd:Value}{x:NumV}(hi:ItemsIn h' vi x.page.items)(hb:Bytes h' vd x.page.data):NumsAt (h.un h') (xs++ [(vi,vd)]) (l++ [x]):=by
 refine⟨by simp [ha.len],fun i hx hl=> ?_⟩;by_cases he:i<l.length
 · have hx2:i<xs.length:=by rw [ha.len];exact he
   rw [List.getElem_append_left hx2,List.getElem_append_left he];exact⟨(ha.each i hx2 he).1.sub (Hp.sub_un_left _ _),(ha.each i hx2 he).2.sub (Hp.sub_un_left _ _)⟩
 · have e1:i=l.length:=by simp at hl;omega
   subst e1;rw [List.getElem_append_right (by rw [ha.len];exact Nat.le_refl _),List.getElem_append_right (Nat.le_refl _)];simp only [ha.len,Nat.sub_self,List.getElem_cons_zero];exact⟨hi.sub (Hp.sub_un_right hd),hb.sub (Hp.sub_un_right hd)⟩
theorem numCells_snoc {xs:List (Value × Value)}{l:List NumV}(h:xs.length=l.length)(p:Value × Value)(x:NumV):((xs++ [p]).zip (l++ [x])).flatMap numCells=(xs.zip l).flatMap numCells++numCells (p,x):=by
 rw [List.zip_append h,List.flatMap_append];simp
theorem look_page {h:Hp}{f:Int→Option Value}{on:Int→Option PageV}(hO:OnIn h f on)(n:Int):PageIn h ((f n).getD zeroPage) ((on n).getD zeroP):=by
 have:=hO n
 cases hy:on n with
 | none=>
   rw [hy] at this;dsimp only at this;rw [this];exact zeroIn.sub (fun _ _ e=>by cases e)
 | some g=>
   rw [hy] at this;obtain⟨v,e1,e2⟩:=this;rw [e1];exact e2
def WalkIn(h:Hp)(fv:Value)(l:List NumV):Prop:= ∃lb lv,fv= .func (.func 106) #[] #[.pointer (some ⟨lb,0,none⟩)]∧h lb=some (.cells #[lv] 30)∧NumsIn h lv l
theorem WalkIn.sub {a b:Hp}(hs:a.sub b){fv:Value}{l:List NumV}(h:WalkIn a fv l):WalkIn b fv l:=by
 obtain⟨lb,lv,e1,e2,xs,h1,h2,h3⟩:=h;exact⟨lb,lv,e1,hs _ _ e2,xs,h1,h2.sub hs,fun i hx hl=>⟨(h3 i hx hl).1.sub hs,(h3 i hx hl).2.sub hs⟩⟩
abbrev vaultP(v:Nat)(s:VaultS)(x:VX):Pr:=Pr.pts v (.cells #[.pointer (some ⟨x.p,0,none⟩),.map (some x.mb),x.av,.int .i64 s.floor] 62)
theorem vpages_any(v:Nat)(s:VaultS)(k:Int)(hfit:∀n g,s.on n=some g→Fit g)(F:Pr)(w:World)(hF:Sat ((VaultA v s).star F) w):
 Calls Tryz.prog 44 #[.pointer (some ⟨v,0,none⟩),.int .i64 k] w fun e w'=>Stays w w'∧∃h' fv,e= .returned fv∧WalkIn h' fv (numsOf s (pagesIn s.pool k))∧Sat ((Pr.own h').star ((VaultA v s).star F)) w':=by
 have hs0:=(OwnL.in1 hF).alloc (.cells #[.pointer (some ⟨v,0,none⟩)] 24);have okp:=(vault_ok hF).1;obtain⟨x,ok,hx⟩:=vaultA_iff.1 (hs0.pull1 (A1:=VaultA v s))
 have hs1:OwnL [vaultP v s x,PoolA x.p s.pool,MapA Tryz.prog 3 x.mb x.f,Row 153 2 x.av s.acts.length (actCells x.axs),Pr.own x.h,Pr.pts w.heap.size (.cells #[.pointer (some ⟨v,0,none⟩)] 24),F] _:=⟨hx.perm (by unfold VaultAt vaultP;simp only [starL,Pr.star_emp];ac_rfl)⟩;have hs2:=hs1.alloc (.cells #[.slice none 0 0] 30)
 rw [show (w.alloc (.cells #[.pointer (some ⟨v,0,none⟩)] 24)).heap.size=w.heap.size+1 by simp] at hs2;have c1:=hs2.facts;simp only [CellsAt,Nat.reduceAdd,and_true] at c1;have PG:=hQ (ppages_any x.p s.pool k _ _ hs2.pull1);have HST:=hQ (((Stays.refl w).alloc (.cells #[.pointer (some ⟨v,0,none⟩)] 24)).alloc (.cells #[.slice none 0 0] 30));have HOK:=hQ ok;have HFIT:=hQ hfit;have OKP:=hQ okp
 clear hF hs0 hs1 hs2 hx ok hfit okp;refine calls_of_wp_marks (n:=9) Tryz.func44 rfl ?_;simp only [Tryz.ntmps44,List.size_toArray,List.length_cons,List.length_nil,Nat.reduceAdd,Nat.reduceSub,Array.replicate_succ,Array.replicate_zero,List.push_toArray,List.append_toArray,List.nil_append,List.cons_append];go_wp2_with fail
 refine PG.out.mono ?_;rintro e w1 ⟨st1,lb,lv,rfl,hs3⟩;have HS3:=hQ (OwnL.of3 hs3);have HST1:=hQ (HST.out.trans st1);clear hs3 st1 PG HST c1;go_wp2
 refine wp_rangeFunc_sl 9 (gf:=153) rfl (enters_of Tryz.func153 (by kernel_rfl) rfl) (pages1 lb lv (pagesIn s.pool k) (Nat.le_trans (pagesTo_len _ _ _) OKP.out.n2)) (fun _=>rfl)
  (fun pre=>Pr.ex fun nv:Value=>(Pr.pts (w.heap.size+1) (.cells #[nv] 30)).star ((NumsRow nv (numsOf s pre)).star ((vaultP v s x).star ((PoolA x.p s.pool).star ((MapA Tryz.prog 3 x.mb x.f).star ((Row 153 2 x.av s.acts.length (actCells x.axs)).star ((Pr.own x.h).star ((Pr.pts w.heap.size (.cells #[.pointer (some ⟨v,0,none⟩)] 24)).star F)))))))) (fun _ _=>Pr.pure False) ?start ?round ?done ?stop
 case start=>
  refine Sat.ex.2 ⟨.slice none 0 0,?_⟩;have h1:=HS3.out.to (M:= [Pr.pts (w.heap.size+1) (.cells #[.slice none 0 0] 30),vaultP v s x,PoolA x.p s.pool,MapA Tryz.prog 3 x.mb x.f,Row 153 2 x.av s.acts.length (actCells x.axs),Pr.own x.h,Pr.pts w.heap.size (.cells #[.pointer (some ⟨v,0,none⟩)] 24),F,Pr.pts lb (.cells #[lv] 29),IntsRow lv (pagesIn s.pool k)]);have h2:=numsRow_start h1.sat
  refine h2.perm ?_;unfold PagesOwn;simp only [starL,Pr.star_emp,numsOf,List.map_nil];ac_rfl
 case round=>
  intro l' pre y W1 F1 hpre hs;have hmem:y∈pagesIn s.pool k:=hpre.subset (List.mem_append_right _ (List.mem_singleton_self y));have hth:=(pages_mem.1 hmem).1;have hno:1≤y∧y≤65536:=⟨hth.1,by have:=hth.2;have:=OKP.out.n2;omega⟩
  have hlen:pre.length+1≤65536:=by
   have h1:=hpre.length_le;have h2:(pagesIn s.pool k).length≤s.pool.counts.length:=pagesTo_len s.pool k s.pool.counts.length;have h3:=OKP.out.n2;rw [List.length_append,List.length_singleton] at h1;omega
  have HS1:=hQ hs;clear hs hmem hth hpre;simp only [encI];gi_wp2
  refine⟨_,Stays.refl _,HS1.out,?_⟩;clear HS1;intro F2 W2 _ hs2;rw [Pr.star_assoc] at hs2;obtain⟨nv,hs3⟩:=Sat.ex.1 hs2
  have hs4:OwnL [NumsRow nv (numsOf s pre),Pr.pts (w.heap.size+1) (.cells #[nv] 30),vaultP v s x,PoolA x.p s.pool,MapA Tryz.prog 3 x.mb x.f,Row 153 2 x.av s.acts.length (actCells x.axs),Pr.own x.h,Pr.pts w.heap.size (.cells #[.pointer (some ⟨v,0,none⟩)] 24),F,PagesOwn lb lv (pagesIn s.pool k),F2] W2:=⟨hs3.perm (by simp only [starL,Pr.star_emp];ac_rfl)⟩;obtain⟨xs,hk,hna,hs5⟩:=numsRow_iff.1 hs4.sat
  have hnl:(numsOf s pre).length=pre.length:=by simp [numsOf]
  obtain⟨np,hnp⟩:∃np,pre.length=np:=⟨_,rfl⟩;rw [hnl,hnp] at hs5;have hs6:=OwnL.of2 hs5;obtain⟨an,cn,rfl⟩:=Row.shape (hs6.row nv);have c1:=hs6.facts;simp only [CellsAt,Nat.reduceAdd,and_true] at c1;have LK:=map_look (P:=Tryz.prog) (w:=W2.drew) Tryz.underlying3 Tryz.underlying59 (z:=zeroPage) (zero_page _) false hno (hs6.drew.pull1 (A1:=MapA Tryz.prog 3 x.mb x.f))
  obtain⟨g,hg⟩:∃g,(s.on y).getD zeroP=g:=⟨_,rfl⟩
  have fit:Fit g:=by
   rw [← hg];cases hy:s.on y with
   | none=>exact fitZ
   | some g0=>exact HFIT.out y g0 hy
  have hpv:=look_page HOK.out.on y;rw [hg] at hpv;obtain⟨pv,hpe⟩:∃pv,(x.f y).getD zeroPage=pv:=⟨_,rfl⟩;rw [hpe] at hpv LK;have HLK:=hQ (show (Instr.lookup 59 (.map (some x.mb)) (.int .i64 y) false).run Tryz.prog W2.drew= .ok pv W2.drew from LK);have C:=hQ (copied_any x.h pv g hpv (by have:=fit.n;omega) (fitK fit) (by have:=fit.d;omega) _ _ (hs6.drew.pull1 (A1:=Pr.own x.h)))
  obtain⟨vi,vd,epv,hi0,hb0⟩:=id hpv;obtain⟨ai,ci,rfl,_,_⟩:=items_rd hi0;obtain⟨ad,cd,rfl⟩:=bytes_shape hb0;subst epv;have HNA:=hQ hna;have HG:=hQ (And.intro hg fit);have HNL:=hQ hnl;rw [hnp] at hlen;have HNP:=hQ hnp;obtain⟨j0,hj,hy0,hy1,hy2⟩:=info_parts infoNum;clear hs2 hs3 hs4 hs5 hs6 hna LK hg fit hpv hi0 hb0 hpe hnl hnp;gi_wp2_with fail
  refine wpIn_region_staged (sz:=27) (by kernel_rfl) [0,1,2,3,4,5,6,7] [(8,[9],[0,1,2,3,4,5,6]),(10,[],[0,1,2,3,4,5,6]),(11,[],[1,2,3,4,5,6]),(12,[],[])] rfl (by kernel_rfl) (by kernel_rfl) (by kernel_rfl) (by kernel_rfl) ?_;refine wpQ_cut [0,1,2,3,4,5,6] [7] ?_;refine wpQ_all _ rfl rfl ?_;simp only [pick,pQ];iterate 7 (go_big_quiet_step (fail))
  refine wpQuiet_nil ?_;refine wpQ_lookN rfl rfl rfl HLK.out (fun K hK=> ?_);go_simp;refine hK _ ?_;clear hK K;refine wpQ_nil ?_;refine wpRest_act rfl ?_;go_wp2_with fail
  refine C.out.mono ?_;rintro e w3 ⟨pv2,h',rfl,hpv2,hs7,st7⟩;obtain⟨vi2,vd2,epv2,hi2,hb2⟩:=id hpv2;obtain⟨ai2,ci2,rfl,_,_⟩:=items_rd hi2;obtain⟨ad2,cd2,rfl⟩:=bytes_shape hb2;subst epv2;have hs8:=OwnL.of2 hs7;clear c1;have c1:=hs8.facts;simp only [CellsAt,Nat.reduceAdd,and_true] at c1
  have A1:=hQ ((hs8.alloc (.cells #[.int .i64 y,.int .i64 g.kind,.int .i64 g.level,.slice ai2 g.items.length ci2,.slice ad2 g.data.length cd2,.int .i64 g.next] 69)).drop.pull1 (A1:=Row 69 6 (.slice an np cn) np ((xs.zip (numsOf s pre)).flatMap numCells)))
  have hnew:=hQ (show ∀j u,[Value.int .i64 y,.int .i64 g.kind,.int .i64 g.level,.slice ai2 g.items.length ci2,.slice ad2 g.data.length cd2,.int .i64 g.next][j]? =some u→(w3.alloc (.cells #[.int .i64 y,.int .i64 g.kind,.int .i64 g.level,.slice ai2 g.items.length ci2,.slice ad2 g.data.length cd2,.int .i64 g.next] 69)).cell? ((⟨w3.heap.size,0,none⟩:Addr).add j)=some u from fresh_cells w3 [.int .i64 y,.int .i64 g.kind,.int .i64 g.level,.slice ai2 g.items.length ci2,.slice ad2 g.data.length cd2,.int .i64 g.next] 69)
  have HSTA:=hQ (((Stays.refl W2).drew.trans st7).alloc (.cells #[.int .i64 y,.int .i64 g.kind,.int .i64 g.level,.slice ai2 g.items.length ci2,.slice ad2 g.data.length cd2,.int .i64 g.next] 69));have HI2:=hQ (And.intro hi2 hb2);clear hs7 hs8 st7 C hpv2 hi2 hb2 HLK;go_wp2;refine onN_mk ?_;refine wpQ_all _ rfl rfl ?_;simp only [pick,pQ];iterate 1 (go_big_quiet_step (fail))
  refine wpQuiet_nil ⟨?_,?_⟩
  · exact cQ
  refine wpRest_act rfl ?_;go_wp2;refine onN_mk ?_;refine wpQ_nil ⟨?_,?_⟩
  · exact cQ
  refine wpRest_act rfl ?_
  refine wpList_appN rfl _ _ _ rfl 69 j0 (.agg #[.int .i64 0,.int .i64 0,.int .i64 0,.slice none 0 0,.slice none 0 0,.int .i64 0]) 6 80 Tryz.underlying30 hj hy0 hy1 hy2 rfl _ _ _ rfl A1.out ⟨w3.heap.size,0,none⟩ 1 1 [.int .i64 y,.int .i64 g.kind,.int .i64 g.level,.slice ai2 g.items.length ci2,.slice ad2 g.data.length cd2,.int .i64 g.next] rfl rfl hnew.out (by simp [Value.oneCell']) (by simp only [maxLen];omega) (by omega) (fun v7 w7 hs9 hg9 K0 hK0=> ?_)
  obtain⟨a7,c7,e7,_,_⟩:=Row.read hs9;subst e7;go_simp;refine hK0 _ ?_;clear hK0 K0;have HS9:=hQ (OwnL.of1 hs9);have HST9:=hQ (HSTA.out.of_grown hg9);clear hs9 hg9 A1 hnew HSTA c1;have c1:=HS9.out.facts;simp only [CellsAt,Nat.reduceAdd,and_true] at c1;refine wpList_nil ?_;refine onN_mk ?_;refine wpQ_nil ⟨?_,?_⟩
  · exact cQ
  refine wpRest_act rfl ?_;go_wp2;refine onN_mk ?_;refine wpQ_nil ⟨?_,?_⟩
  · exact chk_nil
  refine wpRest_nil ?_;gi_wp2
  refine⟨HST9.out.setCell _ _,?_⟩;have h10:=HS9.out.set (w.heap.size+1) 0 (.slice a7 (np+1) c7);obtain⟨hd,h11⟩:=(h10.pull2 (A1:=Pr.own hk) (A2:=Pr.own h')).own_join
  have h13:=(OwnL.of1 h11).pull2 (A1:=Row 69 6 (.slice a7 (np+1) c7) (np+1) ((xs.zip (numsOf s pre)).flatMap numCells++ [.int .i64 y,.int .i64 g.kind,.int .i64 g.level,.slice ai2 g.items.length ci2,.slice ad2 g.data.length cd2,.int .i64 g.next])) (A2:=Pr.own (hk.un h'))
  have e1:numsOf s (pre++ [y])=numsOf s pre++ [⟨y,g⟩]:=by
   unfold numsOf;rw [List.map_append,List.map_singleton,HG.out.1]
  have h14:=(numsRow_iff (v:= .slice a7 (np+1) c7) (l:=numsOf s pre++ [⟨y,g⟩])).2 ⟨xs++ [(.slice ai2 g.items.length ci2,.slice ad2 g.data.length cd2)],hk.un h',HNA.out.snoc hd (x:=⟨y,g⟩) HI2.out.1 HI2.out.2,(by rw [numCells_snoc HNA.out.len,List.length_append,HNL.out,HNP.out];exact h13)⟩
  have h15:=(OwnL.of1 h14).to (M:= [Pr.pts (w.heap.size+1) (.cells #[.slice a7 (np+1) c7] 30),NumsRow (.slice a7 (np+1) c7) (numsOf s pre++ [⟨y,g⟩]),vaultP v s x,PoolA x.p s.pool,MapA Tryz.prog 3 x.mb x.f,Row 153 2 x.av s.acts.length (actCells x.axs),Pr.own x.h,Pr.pts w.heap.size (.cells #[.pointer (some ⟨v,0,none⟩)] 24),F,PagesOwn lb lv (pagesIn s.pool k),F2]);dsimp only;rw [e1,Pr.star_assoc]
  refine Sat.ex.2 ⟨.slice a7 (np+1) c7,h15.sat.perm ?_⟩;simp only [starL,Pr.star_emp];ac_rfl
 case done=>
  intro D xs W2 hxs hst hs;subst hxs;rw [Pr.star_assoc] at hs;obtain⟨nv,hs3⟩:=Sat.ex.1 hs
  have hs4:OwnL [Pr.pts D (.deferred (some [])),NumsRow nv (numsOf s (pagesIn s.pool k)),Pr.pts (w.heap.size+1) (.cells #[nv] 30),vaultP v s x,PoolA x.p s.pool,MapA Tryz.prog 3 x.mb x.f,Row 153 2 x.av s.acts.length (actCells x.axs),Pr.own x.h,Pr.pts w.heap.size (.cells #[.pointer (some ⟨v,0,none⟩)] 24),F,PagesOwn lb lv (pagesIn s.pool k)] W2:=⟨hs3.perm (by simp only [starL,Pr.star_emp];ac_rfl)⟩
  have HS4:=hQ hs4;have HST4:=hQ (HST1.out.trans hst);clear hs hs3 hs4 hst;go_wp2;have q1:=HS4.out.pull1 (A1:=Pr.pts D (.deferred (some [])));have q2:=OwnL.of0 (q1.putObj (.deferred none)).right
  obtain⟨a,ha,hs5⟩:=(q2.join2 (Pr.pts (w.heap.size+1) (.cells #[nv] 30)) (NumsRow nv (numsOf s (pagesIn s.pool k)))).arena ((Pr.pts (w.heap.size+1) (.cells #[nv] 30)).star (NumsRow nv (numsOf s (pagesIn s.pool k))));refine marks_ret1 (D:=D) rfl q1.pts_heap ⟨_,results_tmp rfl _ _ _,HST4.out.putObj _ _,a,_,rfl,?_,?_⟩
  · obtain⟨p,q,hp,hq,s1,s2⟩:=star_sub ha
    obtain⟨ys,g1,g2,g3⟩:=numsRow_in hq;refine⟨w.heap.size+1,nv,rfl,s1 _ _ ?_,ys,g1,g2.sub s2,fun i hx hl=>⟨(g3 i hx hl).1.sub s2,(g3 i hx hl).2.sub s2⟩⟩;rw [show p=_ from hp];simp
  · refine Sat.perm (A:=(VaultA v s).star ((Pr.own a).star F)) ?_ (Pr.left_comm _ _ _)
    refine vaultA_iff.2 ⟨x,HOK.out,?_⟩
    refine Sat.left (B:=starL [PagesOwn lb lv (pagesIn s.pool k),Pr.pts w.heap.size (.cells #[.pointer (some ⟨v,0,none⟩)] 24)]) ((hs5.to (M:= [Pr.own a,vaultP v s x,PoolA x.p s.pool,MapA Tryz.prog 3 x.mb x.f,Row 153 2 x.av s.acts.length (actCells x.axs),Pr.own x.h,F,PagesOwn lb lv (pagesIn s.pool k),Pr.pts w.heap.size (.cells #[.pointer (some ⟨v,0,none⟩)] 24)])).sat.perm ?_);unfold VaultAt vaultP
    simp only [starL,Pr.star_emp];ac_rfl
 case stop=>
  intro D c pre W2 _ hst hs;exact(Sat.pure.1 (hs.perm (Pr.star_assoc _ _ _))).1.elim
end Go.Proofs.YtpfafhklppondaaGreat.F7
namespace Go.Proofs.YtpfafhklppondaaGreat.G7
open ChangeShapes WideShapes ChangeAt RowKit Sl Cop Go.Shelf M2 P3 Q2 X2 J4 L4 P4 Y6 C7 G5 E7 F7
def encT(x:Int × ToldX):Array Value:= #[.int .i64 x.1,x.2.pv]
def OkT(l:List NumV)(pre:List (Int × ToldX))(x:Int × ToldX):Prop:= ∃h:pre.length<l.length,x.1=l[pre.length].no∧x.2.g=l[pre.length].page
theorem walk1(h:Hp)(lb:Nat)(lv:Value)(l:List NumV)(hb:h lb=some (.cells #[lv] 30))(hn:NumsIn h lv l)(hfit:∀x∈l,Fit x.page)(hl:l.length≤65536):
 IterV Tryz.prog 106 #[.pointer (some ⟨lb,0,none⟩)] encT (OkT l) (fun xs=>xs.length=l.length) (fun xs=>xs.length≤l.length) (fun x=>PgOwn x.2) (Pr.own h):=by
 intro l' J Jx W hY h0;refine(callsIn_wide (n:=3)).1 ?_;refine callsIn_of_wp Tryz.func106 rfl trivial ?_ rfl;simp only [Tryz.ntmps106,List.size_toArray,List.length_cons,List.length_nil,Nat.reduceAdd,Nat.reduceSub,Array.replicate_succ,Array.replicate_zero,List.push_toArray,List.append_toArray,List.nil_append,List.cons_append];obtain⟨a,c,elv,rd⟩:=nums_rd hn;subst elv
 have facts:∀wr:World,h.le wr→wr.cell? ⟨lb,0,none⟩=some (.slice a l.length c)∧lb<wr.heap.size:=by
  intro wr hle;have h1:=hle lb _ hb;have h2:wr.cell? ⟨lb,0,none⟩=some (.slice a l.length c):=by simp [World.cell?,h1]
  exact⟨h2,World.block_lt_of_cell? _ _ h2⟩
 have hle0:h.le W:=(h0.perm (Pr.star_comm _ _):Sat ((Pr.own h).star (J [])) W).own;obtain⟨q0,z0⟩:=facts W hle0;have hl3:(l.length:Int)≤65536:=by omega
 have HY:=hQ hY;have H0:=hQ h0;have RD:=hQ rd;have HFIT:=hQ hfit;clear hY h0 rd hfit facts hle0 hn;gi_wp2
 gi_loopw [7] (fun i wr=> ∃pre:List (Int × ToldX),pre.length≤l.length∧i= .int .i64 (pre.length:Int)∧Stays W wr∧Sat ((J pre).star (Pr.own h)) wr) (fun i _=>l.length-(intOf i).toNat)
 case atStart=>exact⟨[],Nat.zero_le _,rfl,Stays.refl _,H0.out⟩
 case round=>
  obtain⟨pre,hr,rfl,hR,hs⟩:=hrel;rcases Nat.lt_or_ge pre.length l.length with hlt | hge
  · obtain⟨b,off,ai,ci,ad,cd,rfl,hpg,hc⟩:=RD.out pre.length hlt
    have hle:h.le wr:=(hs.perm (Pr.star_comm _ _):Sat ((Pr.own h).star (J pre)) wr).own;obtain⟨c0,c1,c2,c3,c4,c5⟩:=hc wr hle;have zb:=World.block_lt_of_cell? _ _ c0;have fit:=HFIT.out l[pre.length] (List.getElem_mem hlt);obtain⟨X,hX⟩:∃X,l[pre.length]=X:=⟨_,rfl⟩;rw [hX] at hpg c0 c1 c2 c3 c4 c5 fit;obtain⟨np,hnp⟩:∃np,pre.length=np:=⟨_,rfl⟩
    have HX:=hQ (show ∃h:pre.length<l.length,l[pre.length]=X from⟨hlt,hX⟩);have hs0:OwnL [Pr.own h,J pre] wr:=⟨hs.perm (by rw [Pr.star_comm];simp only [starL,Pr.star_emp])⟩;have hs1:=(hs0.alloc (.cells #[.int .i64 X.no,.int .i64 X.page.kind,.int .i64 X.page.level,.slice ai X.page.items.length ci,.slice ad X.page.data.length cd,.int .i64 X.page.next] 69)).drew;have d1:=hs1.facts
    simp only [CellsAt,Nat.reduceAdd,and_true] at d1;have CK:=hQ (copied_rows h _ X.page hpg (by have:=fit.n;omega) (fitK fit) (by have:=fit.d;omega) _ _ (hs1.pull1 (A1:=Pr.own h)));have HSTR:=hQ ((hR.alloc (.cells #[.int .i64 X.no,.int .i64 X.page.kind,.int .i64 X.page.level,.slice ai X.page.items.length ci,.slice ad X.page.data.length cd,.int .i64 X.page.next] 69)).drew)
    clear hs hs0 hs1 hc hle hpg fit hX hR;rw [hnp] at c0 c1 c2 c3 c4 c5;rw [hnp] at hlt;have hnp3:(np:Int)<l.length:=by omega
    rw [hnp];have HNP:=hQ hnp;clear hnp;gi_wp2_with fail
    refine wpIn_region_stagedY (sz:=20) (fun _=>trivial) (by kernel_rfl) [0,1,2,3,4] [(5,[],[0,1,2,3]),(6,[7],[1,3])] rfl (by kernel_rfl) (by kernel_rfl) (by kernel_rfl) (by kernel_rfl) ?_;refine wpQ_all _ rfl rfl ?_;simp only [pick,pQ];iterate 5 (go_big_quiet_step (fail))
    refine wpQuiet_nil ?_;refine wpRestIn_act rfl ?_;gi_wp2_with fail
    refine⟨trivial,?_⟩;refine(callsIn_wide.2 CK.out).mono ?_;rintro e w3 ⟨vi,vd,ys,rfl,hyl,hs3,st3⟩;obtain⟨avi,cvi,rfl⟩:=Row.shape hs3;obtain⟨avd,cvd,rfl⟩:=Row.shape hs3.right.right;have hs4:=(pgOwn_iff (t:=⟨.slice avi X.page.items.length cvi,.slice avd X.page.data.length cvd,ys,X.page⟩)).2 ⟨hyl,hs3⟩;have hs5:=OwnL.of2 hs4;clear d1;have d1:=hs5.facts
    simp only [CellsAt,Nat.reduceAdd,and_true] at d1;have HS5:=hQ hs5;have HST3:=hQ (HSTR.out.trans st3);clear hs3 hs4 hs5 hyl st3 CK;gi_wp2
    refine onN_mk ?_;refine wpQ_nil ⟨?_,?_⟩
    · exact cQ
    refine wpRestIn_act rfl ?_;gi_wp2
    have hlt2:pre.length<l.length:=by have:=HNP.out;omega
    refine at_yield (HY.out (Pr.pts wr.heap.size (.cells #[.int .i64 X.no,.int .i64 X.page.kind,.int .i64 X.page.level,.slice ai X.page.items.length ci,.slice ad X.page.data.length cd,.int .i64 X.page.next] 69)) pre (X.no,⟨.slice avi X.page.items.length cvi,.slice avd X.page.data.length cvd,ys,X.page⟩) w3 ⟨hlt2,?_,?_⟩ ?_) ?_
    · obtain⟨_,e⟩:=HX.out;rw [e]
    · obtain⟨_,e⟩:=HX.out;rw [e]
    · have h1:=HS5.out.to (M:= [J pre,PgOwn ⟨.slice avi X.page.items.length cvi,.slice avd X.page.data.length cvd,ys,X.page⟩,Pr.own h,Pr.pts wr.heap.size (.cells #[.int .i64 X.no,.int .i64 X.page.kind,.int .i64 X.page.level,.slice ai X.page.items.length ci,.slice ad X.page.data.length cd,.int .i64 X.page.next] 69)])
      exact h1.sat.perm (by simp only [starL,Pr.star_emp,Pr.star_assoc])
    rintro e w' ⟨hR',(⟨rfl,hs'⟩ | ⟨rfl,hs'⟩)⟩
    · refine⟨_,rfl,?_⟩
      have hp:=hs'.perm (B:=(Pr.pts wr.heap.size (.cells #[.int .i64 X.no,.int .i64 X.page.kind,.int .i64 X.page.level,.slice ai X.page.items.length ci,.slice ad X.page.data.length cd,.int .i64 X.page.next] 69)).star ((J (pre++ [(X.no,⟨.slice avi X.page.items.length cvi,.slice avd X.page.data.length cvd,ys,X.page⟩)])).star (Pr.own h))) (by ac_rfl);clear d1
      have d1:w'.cell? ⟨wr.heap.size,0,none⟩=some (.int .i64 X.no)∧wr.heap.size<w'.heap.size:=⟨by rw [cell_of_heap hp.pts_heap];rfl,hp.lt⟩;have HP:=hQ hp.right;have HST4:=hQ (HST3.out.trans hR');clear hs' hp hR';gi_wp2
      refine onN_mk ?_;refine wpQ_all _ rfl rfl ?_;simp only [pick,pQ];iterate 1 (go_big_quiet_step (fail))
      refine wpQuiet_nil ⟨?_,?_⟩
      · exact cQ
      refine wpRestIn_nil ?_;gi_wp2
      go_roundw
      case rel=>exact⟨_,by rw [List.length_append,HNP.out];simp only [List.length_singleton];omega,by rw [List.length_append,HNP.out];exact congrArg (Value.int .i64) (by simp),HST4.out,HP.out⟩
      case measure=>simp [intOf];omega
    · refine⟨_,rfl,?_⟩
      have hp:=hs'.perm (B:=(Pr.pts wr.heap.size (.cells #[.int .i64 X.no,.int .i64 X.page.kind,.int .i64 X.page.level,.slice ai X.page.items.length ci,.slice ad X.page.data.length cd,.int .i64 X.page.next] 69)).star ((Jx (pre++ [(X.no,⟨.slice avi X.page.items.length cvi,.slice avd X.page.data.length cvd,ys,X.page⟩)])).star (Pr.own h))) (by ac_rfl);clear d1
      have d1:w'.cell? ⟨wr.heap.size,0,none⟩=some (.int .i64 X.no)∧wr.heap.size<w'.heap.size:=⟨by rw [cell_of_heap hp.pts_heap];rfl,hp.lt⟩;have HP:=hQ hp.right;have HST4:=hQ (HST3.out.trans hR');clear hs' hp hR';gi_wp2
      refine onN_mk ?_;refine wpQ_all _ rfl rfl ?_;simp only [pick,pQ];iterate 1 (go_big_quiet_step (fail))
      refine wpQuiet_nil ⟨?_,?_⟩
      · exact cQ
      refine wpRestIn_nil ?_;gi_wp2
      refine bodyPost_ret (results_none rfl _ _ _) rfl ?_;exact⟨⟨_,rfl⟩,HST4.out,.inr ⟨_,by rw [List.length_append,HNP.out];simp only [List.length_singleton];omega,HP.out⟩⟩
  · have hre:pre.length=l.length:=by omega
    have HS:=hQ hs;have HRE:=hQ hre;clear hs;rw [hre];clear hre hge hr;gi_wp2
    go_end0
    exact⟨⟨_,rfl⟩,hR,.inl ⟨_,HRE.out,HS.out⟩⟩
end Go.Proofs.YtpfafhklppondaaGreat.G7
