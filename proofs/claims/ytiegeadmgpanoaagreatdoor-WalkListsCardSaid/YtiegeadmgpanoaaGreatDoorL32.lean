/- An image as the document's vault; the conditions stand as hypotheses. -/
import Derived.Test.YtiegeadmgpanoaaGreatDoorL31
import Derived.Test.YtiegeadmgpanoaaGreatDoorL25
set_option maxRecDepth 100000
set_option maxHeartbeats 16000000
namespace Go.Proofs.YtiegeadmgpanoaaGreatDoor.D2
open ChangeShapes WideShapes ChangeAt RowKit Sl fB L3 Z3 E4 X6
theorem Md {r:Nat}{s:ef}{gs:List dR}{F:Pr}{w:World}(h:Sat ((kJ r s gs (fM false)).star F) w):
 w.cell? ⟨r,6,none⟩=some (.bool false)∧w.frozen? ⟨r,6,none⟩=false∧r<w.heap.size∧Sat ((kJ r s gs (fM true)).star F) (w.setCell ⟨r,6,none⟩ (.bool true)):=by
 obtain⟨x,ok,h1⟩:=iw.1 h;have h2:Sat ((Pr.pts r (mg s.refs x.cv x.lv x.pv (fM false))).star ((dX x.cv s.counts).star ((eK x.lv s.last).star ((kN x.pv x.xs gs).star ((Pr.own x.h).star F))))) w:=h1.perm (by unfold eE;ac_rfl);refine⟨by rw [cell_of_heap h2.dL];rfl,frozen_of_heap h2.dL 6,h2.lt,iw.2 ⟨x,⟨ok.P0,ok.ll,ok.gl,ok.n2,ok.c0,ok.fit⟩,?_⟩⟩
 have h3:Sat ((Pr.pts r (mg s.refs x.cv x.lv x.pv (fM true))).star ((dX x.cv s.counts).star ((eK x.lv s.last).star ((kN x.pv x.xs gs).star ((Pr.own x.h).star F))))) (w.setCell ⟨r,6,none⟩ (.bool true)):=h2.setCell (i:=6) (.bool true);exact h3.perm (by unfold eE;ac_rfl)
abbrev OP(refs:Int)(vc vl vt:Value):Value:= .agg #[.int .i64 refs,vc,vl,vt]
abbrev iZ(refs:Int)(vc vl vt:Value):Obj:= .cells #[.int .i64 refs,vc,vl,vt] 26
theorem JF(refs:Int)(h:Hp)(vc vl:Value)(at':Option Addr)(nt ct:Nat)(cs:List Int)(l:List mG)(hx:r_ h vc cs)(hl:o6 h vl l)(hn:l.length≤9223372036854775807)(F:Pr)(w:World)(hF:Sat ((Pr.own h).star F) w):
 Calls Tryz.prog 39 #[OP refs vc vl (.slice at' nt ct)] w fun e w'=>dN w w'∧
  (((jw refs cs l).1≠0∧e= .returned (.pointer none)∧Sat ((Pr.own h).star F) w')∨
   ((jw refs cs l).1=0∧∃r,e= .returned (.pointer (some ⟨r,0,none⟩))∧Sat ((kJ r (fA refs cs 0) (jK cs.length (jw refs cs l).2) (fM true)).star ((Pr.own h).star F)) w')):=by
 obtain⟨al,cl,rfl,_⟩:=t_ hl;obtain⟨ac,cc,rfl,_⟩:=oW hx;have hs0:=(dS.Ii hF).alloc (iZ refs (.slice ac cs.length cc) (.slice al l.length cl) (.slice at' nt ct));have RL:=hQ (JD refs h _ _ cs l hx hl hn _ _ (hs0.ej (A1:=Pr.own h)));have eR:=hQ ((dN.refl w).alloc (iZ refs (.slice ac cs.length cc) (.slice al l.length cl) (.slice at' nt ct)));clear hs0 hF hx hl
 generalize jw refs cs l=LE at*;go_enter Tryz.func39,Tryz.ntmps39
 go_wp2_with fail
 refine RL.af.mono ?_;rintro e w1 ⟨fN,(⟨hne,rfl,hs1⟩ | ⟨h0,r,rfl,hs1⟩)⟩
 · have hs2:=dS.kS hs1
   have HE:=hQ ((hs2.to (M:= [Pr.own h,F])).sat.perm (B:=(Pr.own h).star F) (by simp only [eJ,Pr.ei]));have eQ:=hQ (eR.af.trans fN);have hb:(LE.1 != 0)=true:=bne_iff_ne.2 hne;have HN:=hQ hne;clear hs1 hs2 fN hne RL eR;go_wp2;go_ret;exact⟨eQ.af,.inl ⟨HN.af,rfl,HE.af⟩⟩
 · obtain⟨c6,f6,zr,hs2⟩:=Md hs1
   have fP:=dS.mH hs2;have HE:=hQ ((fP.to (M:= [kJ r (fA refs cs 0) (jK cs.length LE.2) (fM true),Pr.own h,F])).sat.perm (B:=(kJ r (fA refs cs 0) (jK cs.length LE.2) (fM true)).star ((Pr.own h).star F)) (by simp only [eJ,Pr.ei]));have eQ:=hQ ((eR.af.trans fN).setCell ⟨r,6,none⟩ (.bool true));have H0:=hQ h0;clear hs1 hs2 fP fN h0 RL eR;go_wp2;go_ret
   exact⟨eQ.af,.inr ⟨H0.af,r,rfl,HE.af⟩⟩
end Go.Proofs.YtiegeadmgpanoaaGreatDoor.D2
namespace Go.Proofs.YtiegeadmgpanoaaGreatDoor.D2
open ChangeShapes WideShapes ChangeAt RowKit Sl fB L3 Z3 E4 X6
theorem yq(refs:Int)(h:Hp)(vc vl:Value)(at':Option Addr)(nt ct:Nat)(cs:List Int)(l:List mG)(hx:r_ h vc cs)(hl:o6 h vl l)(hu:∀x∈l,∀y∈x.page.items,U8 y.key)(hn:l.length≤9223372036854775807)(F:Pr)(w:World)(hF:Sat ((Pr.own h).star F) w):
 Calls Tryz.prog 7 #[OP refs vc vl (.slice at' nt ct)] w fun e w'=>dN w w'∧
  ((((jw refs cs l).1≠0∨4096<cs.length)∧e= .returned (.tuple #[.pointer none,.pointer none,.bool true])∧Sat ((Pr.own h).star F) w')∨
   ((jw refs cs l).1=0∧cs.length≤4096∧∃v r,e= .returned (.tuple #[.pointer (some ⟨v,0,none⟩),.pointer (some ⟨r,0,none⟩),.bool true])∧
     Sat ((dZ v (lN refs cs (jw refs cs l).2)).star ((kJ r (fA refs cs 0) (jK cs.length (jw refs cs l).2) (fM true)).star ((Pr.own h).star F))) w')):=by
 have hx0:=hx;have Oo:=hl;obtain⟨al,cl,rfl,_⟩:=t_ hl;obtain⟨ac,cc,rfl,_⟩:=oW hx;have hs0:=(dS.Ii hF).alloc (iZ refs (.slice ac cs.length cc) (.slice al l.length cl) (.slice at' nt ct));have IM:=hQ (JF refs h _ _ at' nt ct cs l hx0 Oo hn _ _ (hs0.ej (A1:=Pr.own h)));have VL:=hQ (fun(G:Pr) (wx:World) hG=>Jw refs h _ _ cs l hx0 Oo hu hn G wx hG)
 have eR:=hQ ((dN.refl w).alloc (iZ refs (.slice ac cs.length cc) (.slice al l.length cl) (.slice at' nt ct)));clear hs0 hF hx hl hx0 Oo hu;generalize jw refs cs l=LE at*;go_enter Tryz.func7,Tryz.ntmps7
 go_wp2_with fail
 refine IM.af.mono ?_;rintro e w1 ⟨fN,(⟨hne,rfl,hs1⟩ | ⟨h0,r,rfl,hs1⟩)⟩
 · have hs2:=dS.kS hs1
   have c1:=hs2.fx;have HE:=hQ ((hs2.to (M:= [Pr.own h,F])).sat.perm (B:=(Pr.own h).star F) (by simp only [eJ,Pr.ei]));have eQ:=hQ (eR.af.trans fN);have QM:=hQ hne;clear hs1 hs2 fN hne IM eR VL;go_wp2;go_ret3
   exact⟨eQ.af,.inl ⟨.inl QM.af,rfl,HE.af⟩⟩
 · have hs2:=dS.mH hs1
   have c1:=hs2.fx;have eQ:=hQ (eR.af.trans fN);by_cases h4:cs.length≤4096
   · have h5:¬4096<(cs.length:Int):=by omega
     have VC:=hQ (VL.af _ _ (hs2.ej (A1:=Pr.own h)));have H4:=hQ (And.intro h0 h4);clear hs1 hs2 fN IM eR VL h0;go_wp2_with fail
     refine VC.af.mono ?_;rintro e w2 ⟨kU,(⟨hne,_⟩ | ⟨_,v,rfl,fP⟩)⟩
     · exact absurd H4.af.1 hne
     · have fp:=dS.mH fP
       have HE:=hQ ((fp.to (M:= [dZ v (lN refs cs LE.2),kJ r (fA refs cs 0) (jK cs.length LE.2) (fM true),Pr.own h,F])).sat.perm (B:=(dZ v (lN refs cs LE.2)).star ((kJ r (fA refs cs 0) (jK cs.length LE.2) (fM true)).star ((Pr.own h).star F))) (by simp only [eJ,Pr.ei]));have fa:=hQ (eQ.af.trans kU);clear c1;have c1:=fp.fx;clear fP fp kU VC eQ;go_wp2;go_ret3
       exact⟨fa.af,.inr ⟨H4.af.1,H4.af.2,v,r,rfl,HE.af⟩⟩
   · have h5:4096<(cs.length:Int):=by omega
     have HE:=hQ ((hs2.to (M:= [Pr.own h,F])).sat.perm (B:=(Pr.own h).star F) (by simp only [eJ,Pr.ei]));have HN4:=hQ (show 4096<cs.length by omega);clear hs1 hs2 fN IM eR VL h4 h0;go_wp2;go_ret3
     exact⟨eQ.af,.inl ⟨.inr HN4.af,rfl,HE.af⟩⟩
end Go.Proofs.YtiegeadmgpanoaaGreatDoor.D2
namespace Go.fB
structure vS(t:eC):Prop where
 pool:t.pool.floor+t.pool.acts.length+t.pool.many 1<1099511627776
 acts:t.floor+t.acts.length+t.pool.many 1<1099511627776
theorem Me(c:Nat):∀(l:List Int),(∀x∈l,x≤(c:Int))→nP l≤l.length*c
 | [],_=>by simp [nP]
 | x :: l,h=>by
   have h1:=Me c l fun y hy=>h y (by simp [hy])
   have h2:=h x (by simp);unfold nP at h1 ⊢;simp only [aT,List.sum_cons,List.length_cons,bJ];omega
end Go.fB
namespace Go.Proofs.YtiegeadmgpanoaaGreatDoor.E4
open ChangeShapes WideShapes ChangeAt RowKit Sl fB Go.Shelf D2 L3 M3 Q3 Z3 J4
theorem nZ(v:Nat)(t:eC)(rm:vS t)(hp:Hp)(vi vd:Value)(hg:fV hp (.agg (fW vi vd 0)) (nG [1] 0))(F:Pr)(w:World)(hF:Sat ((dZ v t).star ((Pr.own hp).star F)) w):
 Calls Tryz.prog 38 #[.pointer (some ⟨v,0,none⟩),.agg (fW vi vd 0)] w fun e w'=>dN w w'∧∃n er:Int,e= .returned (.tuple #[.int .i64 n,.int .i64 er])∧
  ((er=12∧Sat ((dZ v t).star ((Pr.own hp).star F)) w')∨(er=0∧1≤n∧n≤65536∧∃t':eC,vS t'∧t'.pool.many 1+1=t.pool.many 1∧Sat ((dZ v t').star ((Pr.own hp).star F)) w')):=by
 obtain⟨ok,_,_⟩:=qW hF;by_cases hm:t.pool.many 1=0
 · refine(I0 v t hp vi vd [1] 0 ⟨by simp,by simp⟩ (.inl rfl) hg F w hF (I5 ok hm) (by have:=rm.pool;omega)).mono ?_
   rintro e w' ⟨st,rfl,hs⟩;exact⟨st,0,12,rfl,.inl ⟨rfl,hs⟩⟩
 · refine(Oa v t hp vi vd [1] 0 ⟨by simp,by simp⟩ (.inl rfl) hg F w hF (Bm ok hm) (by have:=rm.pool;omega) (by have:=rm.acts;omega)).mono ?_
   rintro e w' ⟨st,n,rfl,⟨hn,_⟩,hs⟩;have ht:=ia (show t.pool.state n≠0 by omega);have h1:=xR ok hn;have h2:=ok.n2;obtain⟨h3,h4⟩:=ht;refine⟨st,n,0,rfl,.inr ⟨rfl,by omega,by omega,_,⟨?_,?_⟩,h1,hs⟩⟩
   · have:=rm.pool
     show t.pool.floor+((t.pool.acts++ [(n,1)]).length:Int)+((t.pool.did n 1).many 1:Int)< _
     rw [au,List.length_singleton];omega
   · have:=rm.acts
     show t.floor+((t.acts++ [_]).length:Int)+((t.pool.did n 1).many 1:Int)< _
     rw [au,List.length_singleton];omega
theorem JG(v:Nat)(refs:Int)(cs:List Int)(on:Int→Option dR)(n:Int)(ho:tO cs on)(F:Pr)(w:World)(hF:Sat ((dZ v (lN refs cs on)).star F) w):
 Calls Tryz.prog 36 #[.pointer (some ⟨v,0,none⟩),.int .i64 n] w fun e w'=>dN w w'∧∃(er:Int) (t:eC),e= .returned (.int .i64 er)∧vS t.settled∧Sat ((dZ v t).star F) w':=by
 obtain⟨ok,_,_⟩:=qW hF
 have hb:FQ (lN refs cs on):=by
  intro m hm;cases e:on m with
  | none=>exact e
  | some g=>
    exfalso;have h1:=ho.there m g e;have h2:(fA refs cs 0).state m=1:=hm;have ht:(fA refs cs 0).there m:=ia (by omega);have h3:(fA refs cs 0).count m=jH cs m:=rfl;have h4:=(m_ ok m).1;have h5:(lN refs cs on).pool.count m=jH cs m:=rfl;unfold ef.state at h2;rw [if_pos ht,h3] at h2;unfold gq at h2;rw [if_pos (by omega)] at h2;split at h2<;>omega
 have hfit:∀n g,on n=some g→g.items.length≤65535:=fun n g e=>by
  have:=(ho.fit n g e).n
  omega
 have h1:nP cs≤cs.length*65536:=Me 65536 cs fun c hc=>(ok.cs c hc).2
 have h2:cs.length≤65536:=ok.n2;have h3:nP cs≤4294967296:=bK h1 (bM _ h2);refine(Jl v (lN refs cs on) n hb hfit (by show (0:Int)+(([]:List (Int × Int)).length:Int)+(nP cs:Int)< _;simp;omega) (by show (0:Int)+(([]:List yR).length:Int)< _;simp) F w hF).mono ?_;rintro e w' ⟨st,er,t,W,rfl,_,hd,hf,hs⟩
 have room:∀u:eC,hU u.pool→u.pool.floor+u.pool.acts.length≤4294967296→u.floor+u.acts.length≤1→vS u.settled:=by
  intro u hu ha hb2
  have hm:(u.settled.pool.many 1:Int)≤65536:=by
   show ((u.pool.settled.many 1:Nat):Int)≤65536
   unfold ef.many;have h5:=bX (fun x:Int × Bool=>gq x.1 x.2 == 1) (u.pool.settled.counts.zip u.pool.settled.last);have h6:(u.pool.settled.counts.zip u.pool.settled.last).length≤u.pool.counts.length:=by rw [List.length_zip];exact Nat.min_le_left _ _
   have h7:=hu.n2;omega
  constructor
  · show u.pool.floor+u.pool.acts.length+(([]:List (Int × Int)).length:Int)+ _< _
    simp only [List.length_nil];omega
  · show u.floor+u.acts.length+(([]:List yR).length:Int)+ _< _
    simp only [List.length_nil];omega
 refine⟨st,er,?_⟩;by_cases he:er=0
 · rw [if_pos he] at hs
   obtain⟨okt,_,_⟩:=qW hs;have h4:=hf.acts;have h5:(lN refs cs on).pool.floor=0:=rfl;have h6:(lN refs cs on).pool.acts= []:=rfl;have h7:(lN refs cs on).pool.counts=cs:=rfl;rw [h5,h6,h7] at h4;refine⟨_,rfl,room _ okt ?_ ?_,hs⟩
   · show t.pool.floor+t.pool.acts.length≤ _
     simp only [List.length_nil] at h4;omega
   · show t.floor+((t.acts++ [_]).length:Int)≤1
     rw [hd.mid.vf,hd.mid.va];simp
 · rw [if_neg he] at hs
   refine⟨_,rfl,room _ ok ?_ ?_,hs⟩
   · show (0:Int)+(([]:List (Int × Int)).length:Int)≤ _
     simp
   · show (0:Int)+(([]:List yR).length:Int)≤1
     simp
end Go.Proofs.YtiegeadmgpanoaaGreatDoor.E4
