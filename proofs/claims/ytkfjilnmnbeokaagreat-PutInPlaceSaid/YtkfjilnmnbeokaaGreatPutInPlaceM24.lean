/- The vault's copy of any page; the conditions stand as hypotheses. -/
import Derived.Test.YtkfjilnmnbeokaaGreatPutInPlaceM20
import Derived.Test.YtkfjilnmnbeokaaGreatPutInPlaceM05
import Derived.Test.YtkfjilnmnbeokaaGreatPutInPlaceM01
set_option maxRecDepth 100000
set_option maxHeartbeats 16000000
namespace Go.Proofs.YtkfjilnmnbeokaaGreat.C6
open ChangeShapes WideShapes ChangeAt RowKit Sl Cop D2 D3 J3 V3 G2 J2 X3 Y3 P5 Z3 Y5
theorem cells_one {h:Hp}{xs:List (Value × Value)}{l:List ItemV}(ha:ItsAt h xs l):∀u∈(xs.zip l).flatMap itCells,u.oneCell'=true:=by
 intro u hu;obtain⟨p,hp,hu⟩:=List.mem_flatMap.1 hu;obtain⟨i,hi,rfl⟩:=List.getElem_of_mem hp;have hi1:i<xs.length:=by simp at hi;omega
 have hi2:i<l.length:=by simp at hi;omega
 obtain⟨h1,h2⟩:=ha.at' i hi1 hi2;obtain⟨a1,c1,e1⟩:=bytes_shape h1;obtain⟨a2,c2,e2⟩:=bytes_shape h2;simp only [List.getElem_zip,itCells,e1,e2] at hu;simp only [List.mem_cons,List.not_mem_nil,or_false] at hu;rcases hu with rfl | rfl | rfl | rfl<;>rfl
theorem clone_items(h:Hp)(v:Value)(xs:List (Value × Value))(l:List ItemV)(ha:ItsAt h xs l)(hx:RowIn h 4 v l.length ((xs.zip l).flatMap itCells))(hn:l.length≤65536)(F:Pr)(w:World)(hF:Sat ((Pr.own h).star F) w):
 Calls Tryz.prog 101 #[v] w fun e w'=> ∃v',e= .returned v'∧Sat ((ItRow v' xs l).star ((Pr.own h).star F)) w'∧Stays w w':=by
 obtain⟨hlen,ad,c,rfl,hnc,hcm,hcell⟩:=id hx;have he:∀wx:World,(binOp .eql 72 (.slice ad l.length c) (.slice none 0 0)).run Tryz.prog wx= .ok (.bool ad.isNone) wx:=fun wx=>Lib.run_eql_slice_nil wx _ _ ad _ c 0 0 Tryz.underlying72
 cases ad with
 | none=>
   have hl:l.length=0:=by
    rcases Nat.eq_zero_or_pos l.length with h0 | h0
    · exact h0
    · obtain⟨b,off,e1,_⟩:=hcell (by omega);cases e1
   have hl2:l= []:=List.eq_nil_of_length_eq_zero hl;have HF:=hQ hF;have HL:=hQ hl2;clear hF hx hcell hl2 hl ha hlen;go_enter Tryz.func101,Tryz.ntmps101
   go_wp2;go_ret;refine⟨_,rfl,?_,Stays.refl w⟩;have h1:=HF.out;have h2:=HL.out;subst h2;rw [← Sat.emp, ← Row.nil 89 4] at h1;simpa [ItRow] using h1
 | some ad=>
   have hnew:Sat ((Row 89 4 (.slice (some ⟨w.heap.size,0,none⟩) 0 0) 0 []).star ((Pr.own h).star F)) (w.alloc (.cells #[] 89)):=
    Row.mk' (xs:= []) (sp:= []) (by simp) (by simp) (Nat.le_refl _) (by simp) (by simpa using hF.alloc (.cells #[] 89))
   have HF:=hQ hnew;have HX:=hQ hx;have HH:=hQ hnew.right.own;have HO:=hQ (cells_one ha);have HN:=hQ hlen;clear hF hx hcell hnew ha hlen;go_enter Tryz.func101,Tryz.ntmps101
   obtain⟨i0,hi,hz0,hz1,hz2⟩:=info_parts infoItem
   go_wp2_with (
    at_builtin
    refine wpList_append_row rfl _ _ _ rfl 89 i0 (.agg #[.slice none 0 0,.slice none 0 0,.int .i64 0,.int .i64 0]) 4 64 Tryz.underlying72 hi hz0 hz1 hz2 rfl _ _ _ rfl HF.out h HH.out _ _ _ rfl HX.out HO.out (by simp only [maxLen];omega) (by omega) ?_
    intro v' w1 hsat hgr _
    have HSAT:=hQ hsat
    clear hsat)
   go_ret;refine⟨_,rfl,?_,((Stays.refl w).alloc _).of_grown hgr⟩;have h1:=HSAT.out;rw [Nat.zero_add,List.nil_append] at h1;exact h1
theorem zip_set_l {α β:Type}:∀(xs:List α) (l:List β) (k:Nat) (v:α) (h:k<l.length),(xs.zip l).set k (v,l[k])=(xs.set k v).zip l
 | [],l,k,v,h=>by simp
 | x :: xs,[],k,v,h=>absurd h (by simp)
 | x :: xs,y :: l,0,v,h=>by simp
 | x :: xs,y :: l,k+1,v,h=>by
   have:=zip_set_l xs l k v (by simpa using h)
   simp only [List.zip_cons_cons,List.set_cons_succ,List.getElem_cons_succ,this]
theorem itRow_rd {b c k:Nat}{xs:List (Value × Value)}{l:List ItemV}{F:Pr}{w:World}(h:Sat ((ItRow (.slice (some ⟨b,0,none⟩) l.length c) xs l).star F) w)(hx:k<xs.length)(hl:k<l.length):
 (w.cell? ⟨b,k*4,none⟩=some xs[k].1∧w.cell? ⟨b,k*4+1,none⟩=some xs[k].2∧w.cell? ⟨b,k*4+2,none⟩=some (.int .i64 l[k].child)∧w.cell? ⟨b,k*4+3,none⟩=some (.int .i64 l[k].size))∧
   (w.frozen? ⟨b,k*4,none⟩=false∧w.frozen? ⟨b,k*4+1,none⟩=false):=by
 obtain⟨a',c',e,_,hc⟩:=Row.read h;cases e;obtain⟨b',eb,hc⟩:=hc (by omega);cases eb
 have at':∀j,j<4→w.cell? ⟨b,k*4+j,none⟩=(itCells (xs[k],l[k]))[j]? ∧w.frozen? ⟨b,k*4+j,none⟩=false:=by
  intro j hj;obtain⟨h1,h2⟩:=hc (k*4+j) (by omega);refine⟨h1.trans ?_,h2⟩;rw [flat_at itCells 4 (fun _=>rfl) (xs.zip l) k j (by simp;omega) hj];simp
 exact⟨⟨(at' 0 (by omega)).1,(at' 1 (by omega)).1,(at' 2 (by omega)).1,(at' 3 (by omega)).1⟩,(at' 0 (by omega)).2,(at' 1 (by omega)).2⟩
theorem itRow_key {b c k:Nat}{xs:List (Value × Value)}{l:List ItemV}{F:Pr}{w:World}(h:Sat ((ItRow (.slice (some ⟨b,0,none⟩) l.length c) xs l).star F) w)(hx:k<xs.length)(hl:k<l.length)(v:Value):
 Sat ((ItRow (.slice (some ⟨b,0,none⟩) l.length c) (xs.set k (v,xs[k].2)) l).star F) (w.setCell ⟨b,k*4,none⟩ v):=by
 have hz:k<(xs.zip l).length:=by simp;omega
 have hlen:=flat_len itCells 4 (fun _=>rfl) (xs.zip l);have h1:=Row.set h (k*4) (by rw [hlen];omega) v;have e:=flat_set itCells 4 (fun _=>rfl) 0 v ((v,xs[k].2),l[k]) (by omega) (xs.zip l) k hz (by simp [itCells]);rw [Nat.add_zero,zip_set_l _ _ _ _ hl] at e;rw [e] at h1;exact h1
theorem itRow_val {b c k:Nat}{xs:List (Value × Value)}{l:List ItemV}{F:Pr}{w:World}(h:Sat ((ItRow (.slice (some ⟨b,0,none⟩) l.length c) xs l).star F) w)(hx:k<xs.length)(hl:k<l.length)(v:Value):
 Sat ((ItRow (.slice (some ⟨b,0,none⟩) l.length c) (xs.set k (xs[k].1,v)) l).star F) (w.setCell ⟨b,k*4+1,none⟩ v):=by
 have hz:k<(xs.zip l).length:=by simp;omega
 have hlen:=flat_len itCells 4 (fun _=>rfl) (xs.zip l);have h1:=Row.set h (k*4+1) (by rw [hlen];omega) v;have e:=flat_set itCells 4 (fun _=>rfl) 1 v ((xs[k].1,v),l[k]) (by omega) (xs.zip l) k hz (by simp [itCells]);rw [zip_set_l _ _ _ _ hl] at e;rw [e] at h1;exact h1
structure Part(hk:Hp)(xs0 xs:List (Value × Value))(l:List ItemV)(k:Nat):Prop where
 len:xs.length=l.length
 new:∀i (hx:i<xs.length) (hl:i<l.length),i<k→Bytes hk xs[i].1 l[i].key∧Bytes hk xs[i].2 l[i].value
 old:∀i,k≤i→xs[i]? =xs0[i]?
theorem Part.step {hk h':Hp}(hd:hk.dis h'){xs0 xs:List (Value × Value)}{l:List ItemV}{k:Nat}(hp:Part hk xs0 xs l k)(hl:k<l.length){v1 v2:Value}(h1:Bytes h' v1 l[k].key)(h2:Bytes h' v2 l[k].value):
 Part (hk.un h') xs0 (xs.set k (v1,v2)) l (k+1):=by
 refine⟨by simp [hp.len],fun i hx hl2 hik=> ?_,fun i hik=> ?_⟩
 · by_cases he:i=k
   · subst he
     simp only [List.getElem_set_self];exact⟨h1.sub (Hp.sub_un_right hd),h2.sub (Hp.sub_un_right hd)⟩
   · rw [List.getElem_set_ne (by omega)]
     obtain⟨y1,y2⟩:=hp.new i (by simpa using hx) hl2 (by omega);exact⟨y1.sub (Hp.sub_un_left _ _),y2.sub (Hp.sub_un_left _ _)⟩
 · rw [List.getElem?_set_ne (by omega)]
   exact hp.old i (by omega)
theorem two_arena {v1 v2:Value}{l1 l2:List Int}{F:Pr}{w:World}(h:Sat ((BytesRow v1 l1).star ((BytesRow v2 l2).star F)) w):∃h',Bytes h' v1 l1∧Bytes h' v2 l2∧Sat ((Pr.own h').star F) w:=by
 rw [← Pr.star_assoc] at h;obtain⟨h',hq,hs⟩:=h.toOwn;obtain⟨a,b,ha,hb,s1,s2⟩:=star_sub hq;exact⟨h',(Row.rowIn ha).sub s1,(Row.rowIn hb).sub s2,hs⟩
theorem copied_any(h:Hp)(v:Value)(g:PageV)(hv:PageIn h v g)(hn:g.items.length≤65536)(hb:∀x∈g.items,x.key.length≤65536∧x.value.length≤65536)(hd:g.data.length≤65536)(F:Pr)(w:World)(hF:Sat ((Pr.own h).star F) w):
 Calls Tryz.prog 55 #[v] w fun e w'=> ∃v' h',e= .returned v'∧PageIn h' v' g∧Sat ((Pr.own h').star ((Pr.own h).star F)) w'∧Stays w w':=by
 obtain⟨vi,vd,rfl,hi,hdd⟩:=hv;obtain⟨k0,l0,its,dat,nx⟩:=g;dsimp only at*;obtain⟨xs,hxl,hrow,hbb⟩:=id hi;have hits:ItsAt h xs its:=⟨hxl,hbb⟩;obtain⟨ai,ci,rfl,_,_⟩:=items_rd hi;obtain⟨ad,cd,rfl⟩:=bytes_shape hdd;have h1:=(hF.alloc (pageC k0 l0 (.slice ai its.length ci) (.slice ad dat.length cd) nx)).alloc (pageC 0 0 (.slice none 0 0) (.slice none 0 0) 0)
 rw [show (w.alloc (pageC k0 l0 (.slice ai its.length ci) (.slice ad dat.length cd) nx)).heap.size=w.heap.size+1 by simp] at h1;have h2:=h1.drew.perm (B:=(Pr.own h).star ((Pr.pts w.heap.size (pageC k0 l0 (.slice ai its.length ci) (.slice ad dat.length cd) nx)).star ((Pr.pts (w.heap.size+1) (pageC 0 0 (.slice none 0 0) (.slice none 0 0) 0)).star F))) (by ac_rfl)
 have CI:=hQ (clone_items h _ xs its hits hrow hn _ _ h2);have HD:=hQ hdd;have HN:=hQ hd;have HB:=hQ hb;have HIT:=hQ hits;have HST:=hQ (((Stays.refl w).alloc (pageC k0 l0 (.slice ai its.length ci) (.slice ad dat.length cd) nx)).alloc (pageC 0 0 (.slice none 0 0) (.slice none 0 0) 0)).drew;clear h1 h2 hi hdd hF hd hb hits hrow hbb;go_enter Tryz.func55,Tryz.ntmps55
 go_wp2_with fail
 refine wS 39 [0,1,3,4] [(2,[6],[0,3,4]),(5,[],[0,3,6]),(7,[8],[]),(9,[],[])] ?_;refine wpQ_all _ rfl rfl ?_;simp only [pick,pQ];iterate 4 (go_big_quiet_step (fail))
 refine wpQuiet_nil ?_;refine wpRest_act rfl ?_;go_wp2_with fail
 refine CI.out.mono ?_;rintro e w1 ⟨v1,rfl,hs2,st2⟩;obtain⟨a1,c1,e1,_,_⟩:=Row.read hs2;subst e1;have hs3:Sat ((Pr.own h).star ((Pr.pts w.heap.size (pageC k0 l0 (.slice ai its.length ci) (.slice ad dat.length cd) nx)).star ((Pr.pts (w.heap.size+1) (pageC 0 0 (.slice none 0 0) (.slice none 0 0) 0)).star ((ItRow (.slice a1 its.length c1) xs its).star F)))) w1:=hs2.perm (by ac_rfl)
 obtain⟨q0,q1,q2,q3,q4,_,z0⟩:=pts5 hs3.right;have CB2:=hQ (clone_bytes h _ dat _ _ hs3 hs3.own HD.out HN.out);have HST2:=hQ (HST.out.trans st2);clear hs2 hs3 st2 CI HD;go_wp2;refine onN_mk ?_;refine wpQ_all _ rfl rfl ?_;simp only [pick,pQ];iterate 1 (go_big_quiet_step (fail))
 refine wpQuiet_nil ⟨?_,?_⟩
 · exact cQ
 refine wpRest_act rfl ?_;go_wp2_with fail
 refine CB2.out.mono ?_;rintro e w2 ⟨v2,rfl,hs4,st4⟩;obtain⟨a2,c2,e2,_,_⟩:=Row.read hs4;subst e2
 have hs5:Sat ((Pr.pts w.heap.size (pageC k0 l0 (.slice ai its.length ci) (.slice ad dat.length cd) nx)).star ((Pr.pts (w.heap.size+1) (pageC 0 0 (.slice none 0 0) (.slice none 0 0) 0)).star ((BytesRow (.slice a2 dat.length c2) dat).star ((ItRow (.slice a1 its.length c1) xs its).star ((Pr.own h).star F))))) w2:=hs4.perm (by ac_rfl);clear q0 q1 q2 q3 q4 z0
 obtain⟨q0,q1,q2,q3,q4,⟨f0,f1,f2,f3,f4⟩,z0⟩:=pts5 hs5;have H5:=hQ hs5;have HST4:=hQ (HST2.out.trans st4);clear hs4 hs5 st4 CB2;go_wp2;refine onN_mk ?_;refine wpQ_nil ⟨?_,?_⟩
 · exact cQ
 refine wpRest_act rfl ?_;go_wp2;refine onN_mk ?_;refine wpQ_all _ rfl rfl ?_;simp only [pick,pQ];iterate 1 (go_big_quiet_step (fail))
 refine wpQuiet_nil ⟨?_,?_⟩
 · exact chk_nil
 refine wpRest_act rfl ?_;go_wp2;refine onN_mk (wpQ_nil ⟨chk_nil,wpRest_nil ?_⟩);have s6:=(H5.out.setCell (i:=2) (.slice a1 its.length c1)).setCell (i:=3) (.slice a2 dat.length c2)
 have s7:Sat ((Pr.pts w.heap.size (pageC k0 l0 (.slice a1 its.length c1) (.slice a2 dat.length c2) nx)).star ((Pr.pts (w.heap.size+1) (pageC 0 0 (.slice none 0 0) (.slice none 0 0) 0)).star ((BytesRow (.slice a2 dat.length c2) dat).star ((ItRow (.slice a1 its.length c1) xs its).star ((Pr.own h).star F))))) _:=s6
 have hst6:=(HST4.out.setCell ⟨w.heap.size,2,none⟩ (.slice a1 its.length c1)).setCell ⟨w.heap.size,3,none⟩ (.slice a2 dat.length c2);generalize (w2.setCell ⟨w.heap.size,2,none⟩ (.slice a1 its.length c1)).setCell ⟨w.heap.size,3,none⟩ (.slice a2 dat.length c2)=w5 at*;clear q0 q1 q2 q3 q4 z0 f0 f1 f2 f3 f4 H5 HST4;obtain⟨q0,q1,q2,q3,q4,_,z0⟩:=pts5 s7;have H7:=hQ s7;have HST6:=hQ hst6;clear s6 s7 hst6
 have hn0:(its.length:Int)≤65536:=by omega
 go_wp2_with fail
 go_loopw [16] (fun i wr=> ∃(k:Nat) (hk:Hp) (ys:List (Value × Value)),k≤its.length∧i= .int .i64 k∧Stays w wr∧Hid (Part hk xs ys its k)∧
  Sat ((Pr.pts w.heap.size (pageC k0 l0 (.slice a1 its.length c1) (.slice a2 dat.length c2) nx)).star ((Pr.pts (w.heap.size+1) (pageC 0 0 (.slice none 0 0) (.slice none 0 0) 0)).star ((ItRow (.slice a1 its.length c1) ys its).star ((Pr.own hk).star ((BytesRow (.slice a2 dat.length c2) dat).star ((Pr.own h).star F)))))) wr) (fun i _=>its.length-(intOf i).toNat)
 case atStart=>
  refine⟨0,Hp.nil,xs,Nat.zero_le _,rfl,HST6.out,hQ ⟨HIT.out.len,fun i _ _ h=>absurd h (by omega),fun _ _=>rfl⟩,?_⟩;rw [own_nil,Pr.emp_star];exact H7.out.perm (by ac_rfl)
 case round=>
  obtain⟨k,hk,ys,hkl,rfl,hst,hpart,hs⟩:=hrel;clear q0 q1 q2 q3 q4 z0;rcases Nat.lt_or_ge k its.length with hlt | hge
  · have hylen:=hpart.out.len
    have hky:k<ys.length:=by omega
    have hkx:k<xs.length:=by have:=HIT.out.len;omega
    have eyk:ys[k]=xs[k]:=by
     have:=hpart.out.old k (Nat.le_refl _)
     rw [List.getElem?_eq_getElem hky,List.getElem?_eq_getElem hkx] at this;exact Option.some.inj this
    obtain⟨hb1,hb2⟩:=HIT.out.at' k hkx hlt;obtain⟨hn1,hn2⟩:=HB.out its[k] (List.getElem_mem hlt);rw [← eyk] at hb1 hb2;obtain⟨ak,ck,ek⟩:=bytes_shape hb1;obtain⟨av,cv,ev⟩:=bytes_shape hb2
    have hr0:=hs.perm (B:=(ItRow (.slice a1 its.length c1) ys its).star ((Pr.pts w.heap.size (pageC k0 l0 (.slice a1 its.length c1) (.slice a2 dat.length c2) nx)).star ((Pr.pts (w.heap.size+1) (pageC 0 0 (.slice none 0 0) (.slice none 0 0) 0)).star ((Pr.own hk).star ((BytesRow (.slice a2 dat.length c2) dat).star ((Pr.own h).star F)))))) (by ac_rfl)
    have ha1:∃b,a1=some ⟨b,0,none⟩:=by
     obtain⟨_,_,e,_,hc⟩:=Row.read hr0;cases e;obtain⟨b,e,_⟩:=hc (by omega);exact⟨b,e⟩
    obtain⟨b,rfl⟩:=ha1;obtain⟨⟨r0,r1,r2,r3⟩,_⟩:=itRow_rd hr0 hky hlt;rw [ek] at r0 hb1;rw [ev] at r1 hb2;have hA0:=(hs.alloc (itemC (.slice ak its[k].key.length ck) (.slice av its[k].value.length cv) its[k].child its[k].size)).drew
    have HRST:=hQ (show Sat ((Pr.pts wr.heap.size (itemC (.slice ak its[k].key.length ck) (.slice av its[k].value.length cv) its[k].child its[k].size)).star ((Pr.pts w.heap.size (pageC k0 l0 (.slice (some ⟨b,0,none⟩) its.length c1) (.slice a2 dat.length c2) nx)).star ((Pr.own h).star ((ItRow (.slice (some ⟨b,0,none⟩) its.length c1) ys its).star ((Pr.pts (w.heap.size+1) (pageC 0 0 (.slice none 0 0) (.slice none 0 0) 0)).star ((Pr.own hk).star ((BytesRow (.slice a2 dat.length c2) dat).star F))))))) _ from hA0.perm (by ac_rfl))
    obtain⟨q0,q1,q2,q3,q4,_,z0⟩:=pts5 hs;have CK:=hQ (clone_bytes h _ its[k].key _ _ HRST.out HRST.out.right.right.own hb1 hn1);have HB2:=hQ hb2;have HSTR:=hQ ((hst.alloc (itemC (.slice ak its[k].key.length ck) (.slice av its[k].value.length cv) its[k].child its[k].size)).drew);have z1:w.heap.size<wr.heap.size:=hs.lt;have HPART:=hQ hpart.out;have HEV:=hQ ev;have HEK:=hQ ek
    clear hs hr0 hA0 hb1 hb2 hst hpart eyk ek ev;go_wp2_with fail
    refine wS 39 [0,1,2,3,4,5,6,7,9,10] [(8,[],[0,1,2,3,4,5,6,9,10]),(11,[12,13],[0,1,2,3,4,5,6,9]),(14,[15,16],[3,4,5,9,12]),(17,[],[15])] ?_;refine wpQ_all _ rfl rfl ?_;simp only [pick,pQ];iterate 10 (go_big_quiet_step (fail))
    refine wpQuiet_nil ?_;refine wpRest_act rfl ?_;go_wp2_with fail
    refine CK.out.mono ?_;rintro e w3 ⟨v3,rfl,hs3,st3⟩;obtain⟨a3,c3,e3,_,_⟩:=Row.read hs3;subst e3
    have H3:=hQ (show Sat ((Pr.pts wr.heap.size (itemC (.slice ak its[k].key.length ck) (.slice av its[k].value.length cv) its[k].child its[k].size)).star ((Pr.pts w.heap.size (pageC k0 l0 (.slice (some ⟨b,0,none⟩) its.length c1) (.slice a2 dat.length c2) nx)).star ((Pr.own h).star ((BytesRow (.slice a3 its[k].key.length c3) its[k].key).star ((ItRow (.slice (some ⟨b,0,none⟩) its.length c1) ys its).star ((Pr.pts (w.heap.size+1) (pageC 0 0 (.slice none 0 0) (.slice none 0 0) 0)).star ((Pr.own hk).star ((BytesRow (.slice a2 dat.length c2) dat).star F)))))))) w3 from hs3.perm (by ac_rfl))
    have HST3:=hQ (HSTR.out.trans st3);clear q0 q1 q2 q3 q4 z0 r0 r1 r2 r3 CK hs3 st3 HRST;obtain⟨q0,q1,q2,q3,q4,_,z0⟩:=pts5 H3.out.right;obtain⟨i0,i1,i2,i3,_,z2⟩:=pts4 H3.out;have CV:=hQ (clone_bytes h _ its[k].value _ _ H3.out H3.out.right.right.own HB2.out hn2);go_wp2;refine onN_mk ?_;refine wpQ_nil ⟨?_,?_⟩
    · exact cQ
    refine wpRest_act rfl ?_;go_wp2_with fail
    refine CV.out.mono ?_;rintro e w4 ⟨v4,rfl,hs4,st4⟩;obtain⟨a4,c4,e4,_,_⟩:=Row.read hs4;subst e4
    have H4:=hQ (show Sat ((Pr.pts wr.heap.size (itemC (.slice ak its[k].key.length ck) (.slice av its[k].value.length cv) its[k].child its[k].size)).star ((Pr.pts w.heap.size (pageC k0 l0 (.slice (some ⟨b,0,none⟩) its.length c1) (.slice a2 dat.length c2) nx)).star ((Pr.own h).star ((BytesRow (.slice a3 its[k].key.length c3) its[k].key).star ((BytesRow (.slice a4 its[k].value.length c4) its[k].value).star ((ItRow (.slice (some ⟨b,0,none⟩) its.length c1) ys its).star ((Pr.pts (w.heap.size+1) (pageC 0 0 (.slice none 0 0) (.slice none 0 0) 0)).star ((Pr.own hk).star ((BytesRow (.slice a2 dat.length c2) dat).star F))))))))) w4 from hs4.perm (by ac_rfl))
    have HST4:=hQ (HST3.out.trans st4);clear q0 q1 q2 q3 q4 z0 i0 i1 i2 i3 z2 CV hs4 st4 H3;obtain⟨q0,q1,q2,q3,q4,_,z0⟩:=pts5 H4.out.right;obtain⟨i0,i1,i2,i3,_,z2⟩:=pts4 H4.out
    have R4:=hQ (show Sat ((ItRow (.slice (some ⟨b,0,none⟩) its.length c1) ys its).star ((Pr.pts wr.heap.size (itemC (.slice ak its[k].key.length ck) (.slice av its[k].value.length cv) its[k].child its[k].size)).star ((Pr.pts w.heap.size (pageC k0 l0 (.slice (some ⟨b,0,none⟩) its.length c1) (.slice a2 dat.length c2) nx)).star ((BytesRow (.slice a3 its[k].key.length c3) its[k].key).star ((BytesRow (.slice a4 its[k].value.length c4) its[k].value).star ((Pr.own h).star ((Pr.pts (w.heap.size+1) (pageC 0 0 (.slice none 0 0) (.slice none 0 0) 0)).star ((Pr.own hk).star ((BytesRow (.slice a2 dat.length c2) dat).star F))))))))) w4 from H4.out.perm (by ac_rfl))
    obtain⟨⟨r0,r1,r2,r3⟩,g0,g1⟩:=itRow_rd R4.out hky hlt;go_wp2;refine onN_mk ?_;refine wpQ_all _ rfl rfl ?_;simp only [pick,pQ];iterate 2 (go_big_quiet_step (fail))
    refine wpQuiet_nil ⟨?_,?_⟩
    · exact cQ
    refine wpRest_act rfl ?_;go_wp2;have s5:=itRow_key R4.out hky hlt (.slice a3 its[k].key.length c3);have t5:=HST4.out.setCell ⟨b,k*4,none⟩ (.slice a3 its[k].key.length c3);generalize w4.setCell ⟨b,k*4,none⟩ (.slice a3 its[k].key.length c3)=w5' at*;have hky2:k<(ys.set k (.slice a3 its[k].key.length c3,ys[k].2)).length:=by simpa using hky
    have R5:=hQ s5;have HST5:=hQ t5;clear q0 q1 q2 q3 q4 z0 i0 i1 i2 i3 z2 r0 r1 r2 r3 g0 g1 s5 t5 R4 H4;obtain⟨q0,q1,q2,q3,q4,_,z0⟩:=pts5 R5.out.right.right;obtain⟨i0,i1,i2,i3,_,z2⟩:=pts4 R5.out.right;obtain⟨⟨r0,r1,r2,r3⟩,g0,g1⟩:=itRow_rd R5.out hky2 hlt;refine onN_mk ?_;refine wpQ_all _ rfl rfl ?_;simp only [pick,pQ];iterate 2 (go_big_quiet_step (fail))
    refine wpQuiet_nil ⟨?_,?_⟩
    · exact cQ
    refine wpRest_act rfl ?_;go_wp2;have s6:=itRow_val R5.out hky2 hlt (.slice a4 its[k].value.length c4);have t6:=HST5.out.setCell ⟨b,k*4+1,none⟩ (.slice a4 its[k].value.length c4);generalize w5'.setCell ⟨b,k*4+1,none⟩ (.slice a4 its[k].value.length c4)=w6' at*;rw [List.set_set,List.getElem_set_self] at s6;have R6:=hQ s6;have HST6':=hQ t6
    clear q0 q1 q2 q3 q4 z0 i0 i1 i2 i3 z2 r0 r1 r2 r3 g0 g1 s6 t6 R5;obtain⟨q0,q1,q2,q3,q4,_,z0⟩:=pts5 R6.out.right.right;refine onN_mk ?_;refine wpQ_nil ⟨?_,?_⟩
    · exact cQ
    refine wpRest_nil ?_;go_wp2;go_roundw
    case rel=>
     have h8:=R6.out.perm (B:=(BytesRow (.slice a3 its[k].key.length c3) its[k].key).star ((BytesRow (.slice a4 its[k].value.length c4) its[k].value).star ((Pr.own hk).star ((Pr.pts wr.heap.size (itemC (.slice ak its[k].key.length ck) (.slice av its[k].value.length cv) its[k].child its[k].size)).star ((ItRow (.slice (some ⟨b,0,none⟩) its.length c1) (ys.set k (.slice a3 its[k].key.length c3,.slice a4 its[k].value.length c4)) its).star ((Pr.pts w.heap.size (pageC k0 l0 (.slice (some ⟨b,0,none⟩) its.length c1) (.slice a2 dat.length c2) nx)).star ((Pr.own h).star ((Pr.pts (w.heap.size+1) (pageC 0 0 (.slice none 0 0) (.slice none 0 0) 0)).star ((BytesRow (.slice a2 dat.length c2) dat).star F))))))))) (by ac_rfl)
     obtain⟨h',y1,y2,h9⟩:=two_arena h8
     have h10:=h9.perm (B:=(Pr.own hk).star ((Pr.own h').star ((Pr.pts wr.heap.size (itemC (.slice ak its[k].key.length ck) (.slice av its[k].value.length cv) its[k].child its[k].size)).star ((ItRow (.slice (some ⟨b,0,none⟩) its.length c1) (ys.set k (.slice a3 its[k].key.length c3,.slice a4 its[k].value.length c4)) its).star ((Pr.pts w.heap.size (pageC k0 l0 (.slice (some ⟨b,0,none⟩) its.length c1) (.slice a2 dat.length c2) nx)).star ((Pr.own h).star ((Pr.pts (w.heap.size+1) (pageC 0 0 (.slice none 0 0) (.slice none 0 0) 0)).star ((BytesRow (.slice a2 dat.length c2) dat).star F)))))))) (by ac_rfl)
     obtain⟨hdis,h11⟩:=h10.own_join;refine⟨k+1,hk.un h',_,by omega,congrArg (Value.int .i64) (by omega),HST6'.out,hQ (HPART.out.step hdis hlt y1 y2),?_⟩;refine(h11.perm (B:=(Pr.pts wr.heap.size (itemC (.slice ak its[k].key.length ck) (.slice av its[k].value.length cv) its[k].child its[k].size)).star _) (Pr.left_comm _ _ _)).right.perm (by ac_rfl)
    case measure=>simp [intOf];omega
  · have hkl2:k=its.length:=by omega
    subst hkl2;obtain⟨q0,q1,q2,q3,q4,_,z0⟩:=pts5 hs;obtain⟨p0,p1,p2,p3,p4,⟨f0,f1,f2,f3,f4⟩,z1⟩:=pts5 hs.right;have HS:=hQ hs.right;have HSTR:=hQ hst;clear hs hst;go_wp2;have s6:=((((HS.out.setCell (i:=0) (.int .i64 k0)).setCell (i:=1) (.int .i64 l0)).setCell (i:=2) (.slice a1 its.length c1)).setCell (i:=3) (.slice a2 dat.length c2)).setCell (i:=4) (.int .i64 nx)
    have s7:Sat ((Pr.pts (w.heap.size+1) (pageC k0 l0 (.slice a1 its.length c1) (.slice a2 dat.length c2) nx)).star ((ItRow (.slice a1 its.length c1) ys its).star ((Pr.own hk).star ((BytesRow (.slice a2 dat.length c2) dat).star ((Pr.own h).star F))))) _:=s6;refine bodyPost_ret (results_cell_row rfl _ _ (w.heap.size+1) _ _ _ _ rfl s7.pts_heap Tryz.underlying74 rfl infoPage) rfl ?_
    have hp:=hpart.out;obtain⟨hh,hits2,s8⟩:=items_arena (l:=its) ⟨hp.len,fun i hx hl=>hp.new i hx hl hl⟩ s7.right;obtain⟨hpg,e1,e2⟩:=page_arena (g:=⟨k0,l0,its,dat,nx⟩) hits2 (s8.perm (Pr.left_comm _ _ _));exact⟨_,hpg,rfl,e1,e2,((((HSTR.out.setCell _ _).setCell _ _).setCell _ _).setCell _ _).setCell _ _⟩
end Go.Proofs.YtkfjilnmnbeokaaGreat.C6
namespace Go.Proofs.YtkfjilnmnbeokaaGreat.N6
open ChangeShapes WideShapes ChangeAt RowKit Sl Cop D2 D3 J3 V3 G2 J2 X3 Y3 P5 Z3 Y5 C6
def rowsOf(p:(Value × Value) × ItemV):Pr:=(BytesRow p.1.1 p.2.key).star (BytesRow p.1.2 p.2.value)
theorem rows_step {ys:List (Value × Value)}{its:List ItemV}{k:Nat}{v1 v2:Value}(hy:k<ys.length)(hl:k<its.length):((ys.set k (v1,v2)).zip its).take (k+1)=(ys.zip its).take k++ [((v1,v2),its[k])]:=by
 have hz:k<(ys.zip its).length:=by simp;omega
 rw [← zip_set_l _ _ _ _ hl,List.take_succ_eq_append_getElem (by simpa using hz),List.getElem_set_self,List.take_set_of_le (Nat.le_refl _)]
structure Part0(xs0 xs:List (Value × Value))(l:List ItemV)(k:Nat):Prop where
 len:xs.length=l.length
 old:∀i,k≤i→xs[i]? =xs0[i]?
theorem Part0.step {xs0 xs:List (Value × Value)}{l:List ItemV}{k:Nat}(hp:Part0 xs0 xs l k)(_:k<l.length){v:Value × Value}:Part0 xs0 (xs.set k v) l (k+1):=
 ⟨by simp [hp.len],fun i hik=>by rw [List.getElem?_set_ne (by omega)];exact hp.old i (by omega)⟩
theorem copied_rows(h:Hp)(v:Value)(g:PageV)(hv:PageIn h v g)(hn:g.items.length≤65536)(hb:∀x∈g.items,x.key.length≤65536∧x.value.length≤65536)(hd:g.data.length≤65536)(F:Pr)(w:World)(hF:Sat ((Pr.own h).star F) w):
 Calls Tryz.prog 55 #[v] w fun e w'=> ∃vi vd ys,e= .returned (pageV g.kind g.level vi vd g.next)∧ys.length=g.items.length∧Sat ((ItRow vi ys g.items).star ((big rowsOf (ys.zip g.items)).star ((BytesRow vd g.data).star ((Pr.own h).star F)))) w'∧Stays w w':=by
 obtain⟨vi,vd,rfl,hi,hdd⟩:=hv;obtain⟨k0,l0,its,dat,nx⟩:=g;dsimp only at*;obtain⟨xs,hxl,hrow,hbb⟩:=id hi;have hits:ItsAt h xs its:=⟨hxl,hbb⟩;obtain⟨ai,ci,rfl,_,_⟩:=items_rd hi;obtain⟨ad,cd,rfl⟩:=bytes_shape hdd;have h1:=(hF.alloc (pageC k0 l0 (.slice ai its.length ci) (.slice ad dat.length cd) nx)).alloc (pageC 0 0 (.slice none 0 0) (.slice none 0 0) 0)
 rw [show (w.alloc (pageC k0 l0 (.slice ai its.length ci) (.slice ad dat.length cd) nx)).heap.size=w.heap.size+1 by simp] at h1;have h2:=h1.drew.perm (B:=(Pr.own h).star ((Pr.pts w.heap.size (pageC k0 l0 (.slice ai its.length ci) (.slice ad dat.length cd) nx)).star ((Pr.pts (w.heap.size+1) (pageC 0 0 (.slice none 0 0) (.slice none 0 0) 0)).star F))) (by ac_rfl)
 have CI:=hQ (clone_items h _ xs its hits hrow hn _ _ h2);have HD:=hQ hdd;have HN:=hQ hd;have HB:=hQ hb;have HIT:=hQ hits;have HST:=hQ (((Stays.refl w).alloc (pageC k0 l0 (.slice ai its.length ci) (.slice ad dat.length cd) nx)).alloc (pageC 0 0 (.slice none 0 0) (.slice none 0 0) 0)).drew;clear h1 h2 hi hdd hF hd hb hits hrow hbb;go_enter Tryz.func55,Tryz.ntmps55
 go_wp2_with fail
 refine wS 39 [0,1,3,4] [(2,[6],[0,3,4]),(5,[],[0,3,6]),(7,[8],[]),(9,[],[])] ?_;refine wpQ_all _ rfl rfl ?_;simp only [pick,pQ];iterate 4 (go_big_quiet_step (fail))
 refine wpQuiet_nil ?_;refine wpRest_act rfl ?_;go_wp2_with fail
 refine CI.out.mono ?_;rintro e w1 ⟨v1,rfl,hs2,st2⟩;obtain⟨a1,c1,e1,_,_⟩:=Row.read hs2;subst e1;have hs3:Sat ((Pr.own h).star ((Pr.pts w.heap.size (pageC k0 l0 (.slice ai its.length ci) (.slice ad dat.length cd) nx)).star ((Pr.pts (w.heap.size+1) (pageC 0 0 (.slice none 0 0) (.slice none 0 0) 0)).star ((ItRow (.slice a1 its.length c1) xs its).star F)))) w1:=hs2.perm (by ac_rfl)
 obtain⟨q0,q1,q2,q3,q4,_,z0⟩:=pts5 hs3.right;have CB2:=hQ (clone_bytes h _ dat _ _ hs3 hs3.own HD.out HN.out);have HST2:=hQ (HST.out.trans st2);clear hs2 hs3 st2 CI HD;go_wp2;refine onN_mk ?_;refine wpQ_all _ rfl rfl ?_;simp only [pick,pQ];iterate 1 (go_big_quiet_step (fail))
 refine wpQuiet_nil ⟨?_,?_⟩
 · exact cQ
 refine wpRest_act rfl ?_;go_wp2_with fail
 refine CB2.out.mono ?_;rintro e w2 ⟨v2,rfl,hs4,st4⟩;obtain⟨a2,c2,e2,_,_⟩:=Row.read hs4;subst e2
 have hs5:Sat ((Pr.pts w.heap.size (pageC k0 l0 (.slice ai its.length ci) (.slice ad dat.length cd) nx)).star ((Pr.pts (w.heap.size+1) (pageC 0 0 (.slice none 0 0) (.slice none 0 0) 0)).star ((BytesRow (.slice a2 dat.length c2) dat).star ((ItRow (.slice a1 its.length c1) xs its).star ((Pr.own h).star F))))) w2:=hs4.perm (by ac_rfl);clear q0 q1 q2 q3 q4 z0
 obtain⟨q0,q1,q2,q3,q4,⟨f0,f1,f2,f3,f4⟩,z0⟩:=pts5 hs5;have H5:=hQ hs5;have HST4:=hQ (HST2.out.trans st4);clear hs4 hs5 st4 CB2;go_wp2;refine onN_mk ?_;refine wpQ_nil ⟨?_,?_⟩
 · exact cQ
 refine wpRest_act rfl ?_;go_wp2;refine onN_mk ?_;refine wpQ_all _ rfl rfl ?_;simp only [pick,pQ];iterate 1 (go_big_quiet_step (fail))
 refine wpQuiet_nil ⟨?_,?_⟩
 · exact chk_nil
 refine wpRest_act rfl ?_;go_wp2;refine onN_mk (wpQ_nil ⟨chk_nil,wpRest_nil ?_⟩);have s6:=(H5.out.setCell (i:=2) (.slice a1 its.length c1)).setCell (i:=3) (.slice a2 dat.length c2)
 have s7:Sat ((Pr.pts w.heap.size (pageC k0 l0 (.slice a1 its.length c1) (.slice a2 dat.length c2) nx)).star ((Pr.pts (w.heap.size+1) (pageC 0 0 (.slice none 0 0) (.slice none 0 0) 0)).star ((BytesRow (.slice a2 dat.length c2) dat).star ((ItRow (.slice a1 its.length c1) xs its).star ((Pr.own h).star F))))) _:=s6
 have hst6:=(HST4.out.setCell ⟨w.heap.size,2,none⟩ (.slice a1 its.length c1)).setCell ⟨w.heap.size,3,none⟩ (.slice a2 dat.length c2);generalize (w2.setCell ⟨w.heap.size,2,none⟩ (.slice a1 its.length c1)).setCell ⟨w.heap.size,3,none⟩ (.slice a2 dat.length c2)=w5 at*;clear q0 q1 q2 q3 q4 z0 f0 f1 f2 f3 f4 H5 HST4;obtain⟨q0,q1,q2,q3,q4,_,z0⟩:=pts5 s7;have H7:=hQ s7;have HST6:=hQ hst6;clear s6 s7 hst6
 have hn0:(its.length:Int)≤65536:=by omega
 go_wp2_with fail
 go_loopw [16] (fun i wr=> ∃(k:Nat) (ys:List (Value × Value)),k≤its.length∧i= .int .i64 k∧Stays w wr∧Hid (Part0 xs ys its k)∧
  Sat ((Pr.pts w.heap.size (pageC k0 l0 (.slice a1 its.length c1) (.slice a2 dat.length c2) nx)).star ((Pr.pts (w.heap.size+1) (pageC 0 0 (.slice none 0 0) (.slice none 0 0) 0)).star ((ItRow (.slice a1 its.length c1) ys its).star ((big rowsOf ((ys.zip its).take k)).star ((BytesRow (.slice a2 dat.length c2) dat).star ((Pr.own h).star F)))))) wr) (fun i _=>its.length-(intOf i).toNat)
 case atStart=>
  refine⟨0,xs,Nat.zero_le _,rfl,HST6.out,hQ ⟨HIT.out.len,fun _ _=>rfl⟩,?_⟩;rw [List.take_zero,big_nil,Pr.emp_star];exact H7.out.perm (by ac_rfl)
 case round=>
  obtain⟨k,ys,hkl,rfl,hst,hpart,hs⟩:=hrel;clear q0 q1 q2 q3 q4 z0;rcases Nat.lt_or_ge k its.length with hlt | hge
  · have hylen:=hpart.out.len
    have hky:k<ys.length:=by omega
    have hkx:k<xs.length:=by have:=HIT.out.len;omega
    have eyk:ys[k]=xs[k]:=by
     have:=hpart.out.old k (Nat.le_refl _)
     rw [List.getElem?_eq_getElem hky,List.getElem?_eq_getElem hkx] at this;exact Option.some.inj this
    obtain⟨hb1,hb2⟩:=HIT.out.at' k hkx hlt;obtain⟨hn1,hn2⟩:=HB.out its[k] (List.getElem_mem hlt);rw [← eyk] at hb1 hb2;obtain⟨ak,ck,ek⟩:=bytes_shape hb1;obtain⟨av,cv,ev⟩:=bytes_shape hb2
    have hr0:=hs.perm (B:=(ItRow (.slice a1 its.length c1) ys its).star ((Pr.pts w.heap.size (pageC k0 l0 (.slice a1 its.length c1) (.slice a2 dat.length c2) nx)).star ((Pr.pts (w.heap.size+1) (pageC 0 0 (.slice none 0 0) (.slice none 0 0) 0)).star ((big rowsOf ((ys.zip its).take k)).star ((BytesRow (.slice a2 dat.length c2) dat).star ((Pr.own h).star F)))))) (by ac_rfl)
    have ha1:∃b,a1=some ⟨b,0,none⟩:=by
     obtain⟨_,_,e,_,hc⟩:=Row.read hr0;cases e;obtain⟨b,e,_⟩:=hc (by omega);exact⟨b,e⟩
    obtain⟨b,rfl⟩:=ha1;obtain⟨⟨r0,r1,r2,r3⟩,_⟩:=itRow_rd hr0 hky hlt;rw [ek] at r0 hb1;rw [ev] at r1 hb2;have hA0:=(hs.alloc (itemC (.slice ak its[k].key.length ck) (.slice av its[k].value.length cv) its[k].child its[k].size)).drew
    have HRST:=hQ (show Sat ((Pr.pts wr.heap.size (itemC (.slice ak its[k].key.length ck) (.slice av its[k].value.length cv) its[k].child its[k].size)).star ((Pr.pts w.heap.size (pageC k0 l0 (.slice (some ⟨b,0,none⟩) its.length c1) (.slice a2 dat.length c2) nx)).star ((Pr.own h).star ((ItRow (.slice (some ⟨b,0,none⟩) its.length c1) ys its).star ((Pr.pts (w.heap.size+1) (pageC 0 0 (.slice none 0 0) (.slice none 0 0) 0)).star ((big rowsOf ((ys.zip its).take k)).star ((BytesRow (.slice a2 dat.length c2) dat).star F))))))) _ from hA0.perm (by ac_rfl))
    obtain⟨q0,q1,q2,q3,q4,_,z0⟩:=pts5 hs;have CK:=hQ (clone_bytes h _ its[k].key _ _ HRST.out HRST.out.right.right.own hb1 hn1);have HB2:=hQ hb2;have HSTR:=hQ ((hst.alloc (itemC (.slice ak its[k].key.length ck) (.slice av its[k].value.length cv) its[k].child its[k].size)).drew);have z1:w.heap.size<wr.heap.size:=hs.lt;have HPART:=hQ hpart.out;have HEV:=hQ ev;have HEK:=hQ ek
    clear hs hr0 hA0 hb1 hb2 hst hpart eyk ek ev;go_wp2_with fail
    refine wS 39 [0,1,2,3,4,5,6,7,9,10] [(8,[],[0,1,2,3,4,5,6,9,10]),(11,[12,13],[0,1,2,3,4,5,6,9]),(14,[15,16],[3,4,5,9,12]),(17,[],[15])] ?_;refine wpQ_all _ rfl rfl ?_;simp only [pick,pQ];iterate 10 (go_big_quiet_step (fail))
    refine wpQuiet_nil ?_;refine wpRest_act rfl ?_;go_wp2_with fail
    refine CK.out.mono ?_;rintro e w3 ⟨v3,rfl,hs3,st3⟩;obtain⟨a3,c3,e3,_,_⟩:=Row.read hs3;subst e3
    have H3:=hQ (show Sat ((Pr.pts wr.heap.size (itemC (.slice ak its[k].key.length ck) (.slice av its[k].value.length cv) its[k].child its[k].size)).star ((Pr.pts w.heap.size (pageC k0 l0 (.slice (some ⟨b,0,none⟩) its.length c1) (.slice a2 dat.length c2) nx)).star ((Pr.own h).star ((BytesRow (.slice a3 its[k].key.length c3) its[k].key).star ((ItRow (.slice (some ⟨b,0,none⟩) its.length c1) ys its).star ((Pr.pts (w.heap.size+1) (pageC 0 0 (.slice none 0 0) (.slice none 0 0) 0)).star ((big rowsOf ((ys.zip its).take k)).star ((BytesRow (.slice a2 dat.length c2) dat).star F)))))))) w3 from hs3.perm (by ac_rfl))
    have HST3:=hQ (HSTR.out.trans st3);clear q0 q1 q2 q3 q4 z0 r0 r1 r2 r3 CK hs3 st3 HRST;obtain⟨q0,q1,q2,q3,q4,_,z0⟩:=pts5 H3.out.right;obtain⟨i0,i1,i2,i3,_,z2⟩:=pts4 H3.out;have CV:=hQ (clone_bytes h _ its[k].value _ _ H3.out H3.out.right.right.own HB2.out hn2);go_wp2;refine onN_mk ?_;refine wpQ_nil ⟨?_,?_⟩
    · exact cQ
    refine wpRest_act rfl ?_;go_wp2_with fail
    refine CV.out.mono ?_;rintro e w4 ⟨v4,rfl,hs4,st4⟩;obtain⟨a4,c4,e4,_,_⟩:=Row.read hs4;subst e4
    have H4:=hQ (show Sat ((Pr.pts wr.heap.size (itemC (.slice ak its[k].key.length ck) (.slice av its[k].value.length cv) its[k].child its[k].size)).star ((Pr.pts w.heap.size (pageC k0 l0 (.slice (some ⟨b,0,none⟩) its.length c1) (.slice a2 dat.length c2) nx)).star ((Pr.own h).star ((BytesRow (.slice a3 its[k].key.length c3) its[k].key).star ((BytesRow (.slice a4 its[k].value.length c4) its[k].value).star ((ItRow (.slice (some ⟨b,0,none⟩) its.length c1) ys its).star ((Pr.pts (w.heap.size+1) (pageC 0 0 (.slice none 0 0) (.slice none 0 0) 0)).star ((big rowsOf ((ys.zip its).take k)).star ((BytesRow (.slice a2 dat.length c2) dat).star F))))))))) w4 from hs4.perm (by ac_rfl))
    have HST4:=hQ (HST3.out.trans st4);clear q0 q1 q2 q3 q4 z0 i0 i1 i2 i3 z2 CV hs4 st4 H3;obtain⟨q0,q1,q2,q3,q4,_,z0⟩:=pts5 H4.out.right;obtain⟨i0,i1,i2,i3,_,z2⟩:=pts4 H4.out
    have R4:=hQ (show Sat ((ItRow (.slice (some ⟨b,0,none⟩) its.length c1) ys its).star ((Pr.pts wr.heap.size (itemC (.slice ak its[k].key.length ck) (.slice av its[k].value.length cv) its[k].child its[k].size)).star ((Pr.pts w.heap.size (pageC k0 l0 (.slice (some ⟨b,0,none⟩) its.length c1) (.slice a2 dat.length c2) nx)).star ((BytesRow (.slice a3 its[k].key.length c3) its[k].key).star ((BytesRow (.slice a4 its[k].value.length c4) its[k].value).star ((Pr.own h).star ((Pr.pts (w.heap.size+1) (pageC 0 0 (.slice none 0 0) (.slice none 0 0) 0)).star ((big rowsOf ((ys.zip its).take k)).star ((BytesRow (.slice a2 dat.length c2) dat).star F))))))))) w4 from H4.out.perm (by ac_rfl))
    obtain⟨⟨r0,r1,r2,r3⟩,g0,g1⟩:=itRow_rd R4.out hky hlt;go_wp2;refine onN_mk ?_;refine wpQ_all _ rfl rfl ?_;simp only [pick,pQ];iterate 2 (go_big_quiet_step (fail))
    refine wpQuiet_nil ⟨?_,?_⟩
    · exact cQ
    refine wpRest_act rfl ?_;go_wp2;have s5:=itRow_key R4.out hky hlt (.slice a3 its[k].key.length c3);have t5:=HST4.out.setCell ⟨b,k*4,none⟩ (.slice a3 its[k].key.length c3);generalize w4.setCell ⟨b,k*4,none⟩ (.slice a3 its[k].key.length c3)=w5' at*;have hky2:k<(ys.set k (.slice a3 its[k].key.length c3,ys[k].2)).length:=by simpa using hky
    have R5:=hQ s5;have HST5:=hQ t5;clear q0 q1 q2 q3 q4 z0 i0 i1 i2 i3 z2 r0 r1 r2 r3 g0 g1 s5 t5 R4 H4;obtain⟨q0,q1,q2,q3,q4,_,z0⟩:=pts5 R5.out.right.right;obtain⟨i0,i1,i2,i3,_,z2⟩:=pts4 R5.out.right;obtain⟨⟨r0,r1,r2,r3⟩,g0,g1⟩:=itRow_rd R5.out hky2 hlt;refine onN_mk ?_;refine wpQ_all _ rfl rfl ?_;simp only [pick,pQ];iterate 2 (go_big_quiet_step (fail))
    refine wpQuiet_nil ⟨?_,?_⟩
    · exact cQ
    refine wpRest_act rfl ?_;go_wp2;have s6:=itRow_val R5.out hky2 hlt (.slice a4 its[k].value.length c4);have t6:=HST5.out.setCell ⟨b,k*4+1,none⟩ (.slice a4 its[k].value.length c4);generalize w5'.setCell ⟨b,k*4+1,none⟩ (.slice a4 its[k].value.length c4)=w6' at*;rw [List.set_set,List.getElem_set_self] at s6;have R6:=hQ s6;have HST6':=hQ t6
    clear q0 q1 q2 q3 q4 z0 i0 i1 i2 i3 z2 r0 r1 r2 r3 g0 g1 s6 t6 R5;obtain⟨q0,q1,q2,q3,q4,_,z0⟩:=pts5 R6.out.right.right;refine onN_mk ?_;refine wpQ_nil ⟨?_,?_⟩
    · exact cQ
    refine wpRest_nil ?_;go_wp2;go_roundw
    case rel=>
     have h8:=R6.out.perm (B:=(BytesRow (.slice a3 its[k].key.length c3) its[k].key).star ((BytesRow (.slice a4 its[k].value.length c4) its[k].value).star ((big rowsOf ((ys.zip its).take k)).star ((Pr.pts wr.heap.size (itemC (.slice ak its[k].key.length ck) (.slice av its[k].value.length cv) its[k].child its[k].size)).star ((ItRow (.slice (some ⟨b,0,none⟩) its.length c1) (ys.set k (.slice a3 its[k].key.length c3,.slice a4 its[k].value.length c4)) its).star ((Pr.pts w.heap.size (pageC k0 l0 (.slice (some ⟨b,0,none⟩) its.length c1) (.slice a2 dat.length c2) nx)).star ((Pr.own h).star ((Pr.pts (w.heap.size+1) (pageC 0 0 (.slice none 0 0) (.slice none 0 0) 0)).star ((BytesRow (.slice a2 dat.length c2) dat).star F))))))))) (by ac_rfl)
     have e9:=rows_step (v1:= .slice a3 its[k].key.length c3) (v2:= .slice a4 its[k].value.length c4) hky hlt
     have h9:=h8.perm (B:=(Pr.pts wr.heap.size (itemC (.slice ak its[k].key.length ck) (.slice av its[k].value.length cv) its[k].child its[k].size)).star ((((BytesRow (.slice a3 its[k].key.length c3) its[k].key).star (BytesRow (.slice a4 its[k].value.length c4) its[k].value)).star (big rowsOf ((ys.zip its).take k))).star ((ItRow (.slice (some ⟨b,0,none⟩) its.length c1) (ys.set k (.slice a3 its[k].key.length c3,.slice a4 its[k].value.length c4)) its).star ((Pr.pts w.heap.size (pageC k0 l0 (.slice (some ⟨b,0,none⟩) its.length c1) (.slice a2 dat.length c2) nx)).star ((Pr.pts (w.heap.size+1) (pageC 0 0 (.slice none 0 0) (.slice none 0 0) 0)).star ((BytesRow (.slice a2 dat.length c2) dat).star ((Pr.own h).star F))))))) (by ac_rfl)
     have e10:((BytesRow (.slice a3 its[k].key.length c3) its[k].key).star (BytesRow (.slice a4 its[k].value.length c4) its[k].value)).star (big rowsOf ((ys.zip its).take k))=big rowsOf (((ys.set k (.slice a3 its[k].key.length c3,.slice a4 its[k].value.length c4)).zip its).take (k+1)):=by
      rw [e9,big_snoc];rfl
     rw [e10] at h9;refine⟨k+1,ys.set k (.slice a3 its[k].key.length c3,.slice a4 its[k].value.length c4),by omega,congrArg (Value.int .i64) (by omega),HST6'.out,hQ (HPART.out.step hlt),?_⟩;exact h9.right.perm (by ac_rfl)
    case measure=>simp [intOf];omega
  · have hkl2:k=its.length:=by omega
    subst hkl2;obtain⟨q0,q1,q2,q3,q4,_,z0⟩:=pts5 hs;obtain⟨p0,p1,p2,p3,p4,⟨f0,f1,f2,f3,f4⟩,z1⟩:=pts5 hs.right;have HS:=hQ hs.right;have HSTR:=hQ hst;clear hs hst;go_wp2;have s6:=((((HS.out.setCell (i:=0) (.int .i64 k0)).setCell (i:=1) (.int .i64 l0)).setCell (i:=2) (.slice a1 its.length c1)).setCell (i:=3) (.slice a2 dat.length c2)).setCell (i:=4) (.int .i64 nx)
    have s7:Sat ((Pr.pts (w.heap.size+1) (pageC k0 l0 (.slice a1 its.length c1) (.slice a2 dat.length c2) nx)).star ((ItRow (.slice a1 its.length c1) ys its).star ((big rowsOf ((ys.zip its).take its.length)).star ((BytesRow (.slice a2 dat.length c2) dat).star ((Pr.own h).star F))))) _:=s6
    refine bodyPost_ret (results_cell_row rfl _ _ (w.heap.size+1) _ _ _ _ rfl s7.pts_heap Tryz.underlying74 rfl infoPage) rfl ?_;have hp:=hpart.out;have e11:(ys.zip its).take its.length=ys.zip its:=List.take_of_length_le (by simp [Nat.min_le_right]);rw [e11] at s7;exact⟨_,_,ys,rfl,hp.len,s7.right,((((HSTR.out.setCell _ _).setCell _ _).setCell _ _).setCell _ _).setCell _ _⟩
end Go.Proofs.YtkfjilnmnbeokaaGreat.N6
