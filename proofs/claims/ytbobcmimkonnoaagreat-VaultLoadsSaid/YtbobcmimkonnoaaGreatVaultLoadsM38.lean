/- The document's Undo; the conditions stand as hypotheses. -/
import Derived.Test.YtbobcmimkonnoaaGreatVaultLoadsM36
import Derived.Test.YtbobcmimkonnoaaGreatVaultLoadsM33
import Derived.Test.YtbobcmimkonnoaaGreatVaultLoadsM17
import Derived.Test.YtbobcmimkonnoaaGreatVaultLoadsM01
set_option maxRecDepth 100000
set_option maxHeartbeats 16000000
namespace Go.Proofs.YtbobcmimkonnoaaGreat.Ey
open ChangeShapes WideShapes ChangeAt RowKit Sl Cop D2 M3 Q3 U3 D4 M2 N2 E4 J5 E6 J4 L6 M7 Q7 U7 X7 W7 Z7 K9 Q9 B9 E9 J8
theorem was_split {L R:List Pr}{w:World}(ws:List WasX)(i:Nat)(hi:i<ws.length)(o:OwnL L w) [Pull (big WasRow ws) L R]:OwnL (WasRow ws[i] :: big WasRow (ws.take i) :: big WasRow (ws.drop (i+1)) :: R) w:=by
 have e:big WasRow ws=(WasRow ws[i]).star ((big WasRow (ws.take i)).star (big WasRow (ws.drop (i+1)))):=by
  have h1:ws=ws.take i++ws[i] :: ws.drop (i+1):=by rw [← List.drop_eq_getElem_cons hi,List.take_append_drop]
  have h2:big WasRow ws=big WasRow (ws.take i++ws[i] :: ws.drop (i+1)):=congrArg _ h1;rw [h2,big_append,big_cons,Pr.left_comm]
 exact⟨(o.pull1 (A1:=big WasRow ws)).perm (by rw [e];simp only [Pr.star_assoc];rfl)⟩
theorem flat_take:∀(ws:List WasX) (i:Nat),(ws.flatMap wasCells).take (i*2)=(ws.take i).flatMap wasCells
 | [],i=>by simp
 | a :: ws,0=>by simp
 | a :: ws,i+1=>by
   rw [show (i+1)*2=i*2+2 by omega,List.flatMap_cons,List.take_succ_cons,List.flatMap_cons];show List.take (i*2+2) (a.cv :: a.pv :: ws.flatMap wasCells)=_
   rw [List.take_succ_cons,List.take_succ_cons,flat_take ws i];rfl
section
variable(r:Nat)(s:PoolS)(gs:List PageV)(fl:Int)(l:List (List Int × List PageV))
theorem rundo_bad(mark:Int)(hr:mark<fl∨fl+l.length<mark)(hb: -1099511627776≤fl∧fl+l.length≤1099511627776)(F:Pr)(w:World)(hF:Sat ((RefH r s gs fl l).star F) w):
 Calls Tryz.prog 119 #[.pointer (some ⟨r,0,none⟩),.int .i64 mark] w fun e w'=>e= .returned (.bool false)∧∃k,w'=w.drewN k:=by
 obtain⟨aa,ca,F',hA⟩:=refH_refA hF;have MK:=hQ (rmark_any r s gs ⟨.slice aa l.length ca,fl,false⟩ aa l.length ca rfl hb _ _ hA);obtain⟨y,ok,h0⟩:=refH_iff.1 hF;have c1:=(OwnL.in7 h0).facts;simp only [CellsAt,Nat.reduceAdd,and_true] at c1;generalize l.length=nl at*;clear hF hA h0 ok;by_cases hlo:mark<fl
 · have d1:decide (mark<fl)=true:=decide_eq_true hlo
   clear MK;go_enter Tryz.func119,Tryz.ntmps119
   go_wp2;go_ret;exact⟨rfl,0,rfl⟩
 · have d1:decide (mark<fl)=false:=decide_eq_false hlo
   have d2:decide (fl+(nl:Int)<mark)=true:=decide_eq_true (by omega);go_enter Tryz.func119,Tryz.ntmps119
   go_wp2_with (go_at_call 55;refine MK.out.mono ?_;rintro e w1 ⟨rfl,k1,rfl⟩)
   go_ret;exact⟨rfl,_,rfl⟩
theorem rundo_now(hb: -1099511627776≤fl∧fl+l.length≤1099511627776)(F:Pr)(w:World)(hF:Sat ((RefH r s gs fl l).star F) w):
 Calls Tryz.prog 119 #[.pointer (some ⟨r,0,none⟩),.int .i64 (fl+l.length)] w fun e w'=>e= .returned (.bool true)∧∃k,w'=w.drewN k:=by
 obtain⟨aa,ca,F',hA⟩:=refH_refA hF;have MK:=hQ (rmark_any r s gs ⟨.slice aa l.length ca,fl,false⟩ aa l.length ca rfl hb _ _ hA);obtain⟨y,ok,h0⟩:=refH_iff.1 hF;have hs:=OwnL.in7 h0;obtain⟨a9,c9,e9⟩:=Row.shape (hs.row y.av);rw [e9,ok.len] at hs;have c1:=hs.facts;simp only [CellsAt,Nat.reduceAdd,and_true] at c1;generalize l.length=nl at*;clear hF hA h0 ok hs e9
 have d1:decide (fl+(nl:Int)<fl)=false:=decide_eq_false (by omega);go_enter Tryz.func119,Tryz.ntmps119
 go_wp2_with (go_at_call 55;refine MK.out.mono ?_;rintro e w1 ⟨rfl,k1,rfl⟩)
 go_ret;exact⟨rfl,_,rfl⟩
theorem rundo_to(i:Nat)(hi:i<l.length)(hb: -1099511627776≤fl∧fl+l.length≤1099511627776)(F:Pr)(w:World)(hF:Sat ((RefH r s gs fl l).star F) w):
 Calls Tryz.prog 119 #[.pointer (some ⟨r,0,none⟩),.int .i64 (fl+i)] w fun e w'=>e= .returned (.bool true)∧Stays w w'∧
  Sat ((RefH r (s.withC l[i].1) l[i].2 fl (l.take i)).star F) w':=by
 obtain⟨U,hU⟩:∃U,U=l[i]:=⟨_,rfl⟩;rw [← hU];have HU:=hQ (show l[i]? =some U from by rw [hU];exact List.getElem?_eq_getElem hi);clear hU;obtain⟨aa',ca',F',hA⟩:=refH_refA hF;have MK:=hQ (rmark_any r s gs ⟨.slice aa' l.length ca',fl,false⟩ aa' l.length ca' rfl hb _ _ hA);obtain⟨⟨cv,lv,pv,av,xs,h,ws⟩,ok,h0⟩:=refH_iff.1 hF;have hs:=OwnL.in7 h0;dsimp only at hs;have hwl:ws.length=l.length:=ok.len
 have hiw:i<ws.length:=by omega
 have hli:l[i]=wasOf ws[i]:=by
  have h1:=ok.l;dsimp only at h1;subst h1;simp
 obtain⟨aa,ca,eav⟩:=Row.shape (hs.row av);rw [hwl] at eav;subst eav;obtain⟨a0,c0,rfl⟩:=Row.shape (hs.pull1 (A1:=IntsRow cv s.counts));obtain⟨ap,cp,rfl⟩:=Row.shape (hs.pull1 (A1:=PgRow pv xs gs));have oka:=ok.was ws[i] (List.getElem_mem hiw);rw [hwl] at hs;obtain⟨_,_,er,_,hrd⟩:=Row.read (hs.row (.slice aa l.length ca));cases er;obtain⟨b,rfl,hcell⟩:=hrd (by omega)
 have at':∀k,k<2→w.cell? ⟨b,i*2+k,none⟩=(wasCells ws[i])[k]? :=by
  intro k hk;rw [(hcell (i*2+k) (by omega)).1,flat_at wasCells 2 (fun _=>rfl) ws i k hiw hk]
 have x0:=at' 0 (by omega);have x1:=at' 1 (by omega);rw [Nat.add_zero] at x0;have hs1:=was_open ws[i] (was_split ws i hiw hs);generalize hwi:ws[i]=A at*;obtain⟨acv,apv,axs,acs,ags⟩:=A;obtain⟨a3,c3,rfl⟩:∃a3 c3,acv= .slice a3 acs.length c3:=Row.shape (hs1.pull1 (A1:=IntsRow acv acs));obtain⟨a4,c4,rfl⟩:∃a4 c4,apv= .slice a4 ags.length c4:=Row.shape (hs1.pull1 (A1:=PgRow apv axs ags))
 obtain⟨_,hopen⟩:=Row.open' (hs.row (.slice (some ⟨b,0,none⟩) l.length ca))
 have hcap:l.length≤ca:=by
  rcases hopen with⟨e,_,_⟩ | ⟨_,_,_,e,_,h2,_,_⟩
  · cases e
  · cases e;exact h2
 have hrb:r≠b:=pts_row_ne (hs.pull2 (A1:=Row 165 2 (.slice (some ⟨b,0,none⟩) l.length ca) l.length (ws.flatMap wasCells)) (A2:=Pr.pts r (refHC s.refs (.slice a0 s.counts.length c0) lv (.slice ap gs.length cp) (.slice (some ⟨b,0,none⟩) l.length ca) fl)));obtain⟨a,ha,hs2⟩:=hs1.arena (IntsRow (.slice a3 acs.length c3) acs)
 have CI:=fun k=>hQ (copyints_any a _ acs _ (w.drewN k) ((hs2.drewN k).pull1 (A1:=Pr.own a)) (Row.rowIn ha) oka.n2)
 have c1:=hs2.facts;simp only [CellsAt,Nat.reduceAdd,and_true] at c1;have HA:=hQ ha;have HOK:=hQ ok;have HOKA:=hQ oka
 have HLI:=hQ (show U=wasOf ⟨.slice a3 acs.length c3,.slice a4 ags.length c4,axs,acs,ags⟩ from by
  have h7:=HU.out
  rw [List.getElem?_eq_getElem hi,hli] at h7
  exact(Option.some.inj h7).symm)
 have HWL:=hQ (And.intro hwl hiw);have HWI:=hQ (show ws[i]? =some ⟨.slice a3 acs.length c3,.slice a4 ags.length c4,axs,acs,ags⟩ from by rw [← hwi];exact List.getElem?_eq_getElem hiw);have HI:=hQ hi;have hi2:(i:Int)<l.length:=by omega
 obtain⟨M,hM⟩:∃M,M=fl+(i:Int):=⟨_,rfl⟩;rw [← hM];have hMi:M-fl=(i:Int):=by omega
 have hd1:decide (M<fl)=false:=decide_eq_false (by omega);have hd2:decide (fl+(l.length:Int)<M)=false:=decide_eq_false (by omega);have hd3:decide ((i:Int)<(l.length:Int))=true:=decide_eq_true hi2;have hl2:(l.length:Int)≤2199023255552:=by omega
 have zb:=World.block_lt_of_cell? _ _ x0;clear hF h0 hA hs hs1 hs2 ok oka ha hli hwl hwi hiw hi hopen hcell at' HU hM;simp only [wasCells,List.getElem?_cons_zero,List.getElem?_cons_succ] at x0 x1;generalize hnl:l.length=nl at*;have HNL:=hQ hnl;clear hnl;go_enter Tryz.func119,Tryz.ntmps119
 go_wp2_with (go_at_call 55;refine MK.out.mono ?_;rintro e w1 ⟨rfl,k1,rfl⟩)
 refine(CI k1).out.mono ?_;rintro e w1 ⟨v1,rfl,hs3,st1⟩;obtain⟨ac,cc,rfl⟩:=Row.shape hs3;have hs4:=(OwnL.of2 hs3).back (IntsRow (.slice a3 acs.length c3) acs) HA.out;have hs5:=hs4.set r 1 (.slice ac acs.length cc);obtain⟨a2,ha2,hs6⟩:=hs5.arena (PgRow (.slice a4 ags.length c4) axs ags)
 have CP:=hQ (copypages_any a2 _ h axs ags HOKA.out.pgs (Row.rowIn ha2) (by have:=HOKA.out.n2;have:=HOKA.out.gl;omega) _ _ (hs6.pull1 (A1:=Pr.own a2)));obtain⟨_,_,er2,_,hrd2⟩:=Row.read (hs4.row (.slice (some ⟨b,0,none⟩) nl ca));cases er2;obtain⟨b',eb',hcell2⟩:=hrd2 (by omega);cases eb'
 have x3:w1.cell? ⟨b,i*2+1,none⟩=some (.slice a4 ags.length c4):=by
  have h7:=HWI.out;rw [List.getElem?_eq_getElem HWL.out.2] at h7;rw [(hcell2 (i*2+1) (by omega)).1,flat_at wasCells 2 (fun _=>rfl) ws i 1 HWL.out.2 (by omega),Option.some.inj h7];rfl
 have zb3:=World.block_lt_of_cell? _ _ x3;clear c1;have c1:=hs4.facts;simp only [CellsAt,Nat.reduceAdd,and_true] at c1;have HA2:=hQ ha2;have HST1:=hQ ((((Stays.refl w).drewN k1).trans st1).setCell ⟨r,1,none⟩ (.slice ac acs.length cc));clear hs3 hs4 hs5 hs6 st1 CI HA ha2 hrd2 hcell2 x0 x1 MK zb;go_wp2_with fail
 refine CP.out.mono ?_;rintro e w2 ⟨v2,rfl,hs7,st2⟩;obtain⟨aq,cq,rfl⟩:=Row.shape hs7;have hs8:=(OwnL.of2 hs7).back (PgRow (.slice a4 ags.length c4) axs ags) HA2.out;clear c1 x3 zb3;have c1:=hs8.facts;simp only [CellsAt,Nat.reduceAdd,and_true] at c1;have HS8:=hQ hs8;have HST2:=hQ (HST1.out.trans st2);clear hs7 hs8 st2 CP HA2 HST1;go_wp2;go_ret
 have hs9:=(HS8.out.set r 3 (.slice aq ags.length cq)).set r 4 (.slice (some ⟨b,0,none⟩) i ca);have hs10:=OwnL.of1 (row_cutk (hs9.row (.slice (some ⟨b,0,none⟩) nl ca)) (by have:=HI.out;have:=HNL.out;omega:i≤nl));refine⟨rfl,(HST2.out.setCell _ _).setCell _ _,?_⟩;rw [HLI.out];rw [flat_take ws i] at hs10
 refine refH_iff.2 ⟨⟨.slice ac acs.length cc,lv,.slice aq ags.length cq,.slice (some ⟨b,0,none⟩) i ca,axs,h,ws.take i⟩,⟨?_,?_,?_⟩,?_⟩
 · exact⟨HOKA.out.pgs,HOKA.out.ll,HOKA.out.gl,HOKA.out.n2,HOKA.out.c0,HOKA.out.fit⟩
 · intro a ha
   exact HOK.out.was a (List.mem_of_mem_take ha)
 · show (ws.take i).map wasOf=l.take i
   rw [List.map_take,show ws.map wasOf=l from HOK.out.l]
 · show Sat (HParts r { s with counts:=acs } ags fl ⟨.slice ac acs.length cc,lv,.slice aq ags.length cq,.slice (some ⟨b,0,none⟩) i ca,axs,h,ws.take i⟩ F) _
   dsimp only [HParts];rw [show (ws.take i).length=i by rw [List.length_take];have:=HWL.out.2;omega];exact hs10.end8 (A8:=F)
end
end Go.Proofs.YtbobcmimkonnoaaGreat.Ey
namespace Go.Proofs.YtbobcmimkonnoaaGreat.Gy
open ChangeShapes WideShapes ChangeAt RowKit Sl Cop D2 M3 Q3 D4 M2 N2 E4 G4 E6 J4 L6 M7 Q7 U7 X7 K9 Q9 U9 Z9 U4
theorem rok_sub {s:PoolS}{gs:List PageV}{cv lv pv:Value}{xs:List (Value × Value)}{h h2:Hp}(ok:ROk s gs ⟨cv,lv,pv,xs,h⟩)(hs:h.sub h2):ROk s gs ⟨cv,lv,pv,xs,h2⟩:=
 ⟨⟨ok.pgs.len,fun i hx hl=>by
   obtain⟨p1,p2⟩:=ok.pgs.at' i hx hl
   exact⟨p1.sub hs,p2.sub hs⟩⟩,ok.ll,ok.gl,ok.n2,ok.c0,ok.fit⟩
section
variable(r:Nat)(s:PoolS)(gs:List PageV)(fl:Int)(l:List (List Int × List PageV))
theorem refH_put(y:HX)(ok:HOk s gs l y){g:PageV}{h':Hp}{vi vd:Value}(hi:ItemsIn h' vi g.items)(hd:Bytes h' vd g.data)(hf:Fit g)(j:Nat){F:Pr}{w:World}
 (h:Sat (HParts r s (gs.set j g) fl { y with xs:=y.xs.set j (vi,vd) } ((Pr.own h').star F)) w):Sat ((RefH r s (gs.set j g) fl l).star F) w:=by
 obtain⟨cv,lv,pv,av,xs,hh,ws⟩:=y;have o:=OwnL.in8 h;dsimp only at o;obtain⟨hdj,h2⟩:=(o.pull2 (A1:=Pr.own hh) (A2:=Pr.own h')).own_join;have o2:=OwnL.of1 h2;refine refH_iff.2 ⟨⟨cv,lv,pv,av,xs.set j (vi,vd),hh.un h',ws⟩,⟨?_,fun a ha=>rok_sub (ok.was a ha) (Hp.sub_un_left _ _),ok.l⟩,o2.end8 (A8:=F)⟩
 exact rok_lay (rok_sub ok.now (Hp.sub_un_left _ _)) j (hi.sub (Hp.sub_un_right hdj)) (hd.sub (Hp.sub_un_right hdj)) hf
theorem rwrite_none(n:Int)(ho:ownP s n=false)(h:Hp)(pv:Value)(g:PageV)(hpg:PageIn h pv g)(F:Pr)(w:World)(hF:Sat ((RefH r s gs fl l).star F) w):
 Calls Tryz.prog 96 #[.pointer (some ⟨r,0,none⟩),.int .i64 n,pv] w fun e w'=>e= .returned (.int .i64 15)∧Only w w':=by
 obtain⟨vi,vd,rfl,hi,hd⟩:=hpg;obtain⟨ai,ci,rfl,_,_⟩:=items_rd hi;obtain⟨ad,cd,rfl⟩:=bytes_shape hd;have ho2:Only w (w.alloc (pageC g.kind g.level (.slice ai g.items.length ci) (.slice ad g.data.length cd) g.next)):=(Only.refl w).alloc _;obtain⟨aa,ca,F',hA⟩:=refH_refA hF;have O:=hQ (rown_any r s gs ⟨.slice aa l.length ca,fl,false⟩ n _ _ (hA.only ho2));rw [ho] at O;have HO:=hQ ho2
 clear hF hA ho hi hd ho2;go_enter Tryz.func96,Tryz.ntmps96
 go_wp2_with fail
 refine O.out.mono ?_;rintro e w1 ⟨rfl,rfl⟩;go_wp2;go_ret;exact⟨rfl,HO.out⟩
theorem rwrite_bad(n:Int)(ho:ownP s n=true)(h:Hp)(pv:Value)(g:PageV)(hpg:PageIn h pv g)(hck:checkP g≠0)(F:Pr)(w:World)(hF:Sat ((RefH r s gs fl l).star ((Pr.own h).star F)) w):
 Calls Tryz.prog 96 #[.pointer (some ⟨r,0,none⟩),.int .i64 n,pv] w fun e w'=>e= .returned (.int .i64 (checkP g))∧Only w w':=by
 obtain⟨vi,vd,rfl,hi,hd⟩:=id hpg;obtain⟨ai,ci,rfl,_,_⟩:=items_rd hi;obtain⟨ad,cd,rfl⟩:=bytes_shape hd;have ho2:Only w (w.alloc (pageC g.kind g.level (.slice ai g.items.length ci) (.slice ad g.data.length cd) g.next)):=(Only.refl w).alloc _;have hs:=(OwnL.in2 hF).alloc (pageC g.kind g.level (.slice ai g.items.length ci) (.slice ad g.data.length cd) g.next);obtain⟨aa,ca,F',hA⟩:=refH_refA hF
 have O:=hQ (rown_any r s gs ⟨.slice aa l.length ca,fl,false⟩ n _ _ (hA.only ho2));have CK:=hQ (rcheck_any g h _ hpg _ (hs.le (a:=h)));rw [ho] at O;have c1:=hs.facts;simp only [CellsAt,Nat.reduceAdd,and_true] at c1;have HO:=hQ ho2;obtain⟨er,her⟩:∃er,checkP g=er:=⟨_,rfl⟩;rw [her] at CK hck ⊢;have hb:(er != 0)=true:=by rw [bne_iff_ne];exact hck
 clear hF hA ho hi hd ho2 hs hpg her hck;go_enter Tryz.func96,Tryz.ntmps96
 go_wp2_with fail
 refine O.out.mono ?_;rintro e w1 ⟨rfl,rfl⟩;go_wp2_with fail
 refine CK.out.mono ?_;rintro e w1 ⟨rfl,ho3⟩;have HO3:=hQ ho3;clear ho3 c1 CK;go_wp2;go_ret;exact⟨rfl,HO.out.trans HO3.out⟩
end
end Go.Proofs.YtbobcmimkonnoaaGreat.Gy
namespace Go.Proofs.YtbobcmimkonnoaaGreat.Hy
open ChangeShapes WideShapes ChangeAt RowKit Sl Cop D2 M3 Q3 D4 M2 N2 E4 G4 E6 J4 L6 M7 Q7 U7 X7 K9 Q9 U9 Z9 U4 Gy B9
section
variable(r:Nat)(s:PoolS)(gs:List PageV)(fl:Int)(l:List (List Int × List PageV))
theorem rwrite_ok(j:Nat)(hj:j<s.counts.length)(ho:ownP s ((j:Int)+1)=true)(h:Hp)(pv:Value)(g:PageV)(hpg:PageIn h pv g)(hck:checkP g=0)(hl:l.length≤1048576)(F:Pr)(w:World)(hF:Sat ((RefH r s gs fl l).star ((Pr.own h).star F)) w):
 Calls Tryz.prog 96 #[.pointer (some ⟨r,0,none⟩),.int .i64 ((j:Int)+1),pv] w fun e w'=>e= .returned (.int .i64 0)∧Stays w w'∧
  Sat ((RefH r s (gs.set j g) fl (l++ [(s.counts,gs)])).star ((Pr.own h).star F)) w':=by
 obtain⟨vi,vd,rfl,hi,hd⟩:=id hpg;obtain⟨ai,ci,rfl,_,_⟩:=items_rd hi;obtain⟨ad,cd,rfl⟩:=bytes_shape hd;have ho2:Only w (w.alloc (pageC g.kind g.level (.slice ai g.items.length ci) (.slice ad g.data.length cd) g.next)):=(Only.refl w).alloc _;have hs:=(OwnL.in2 hF).alloc (pageC g.kind g.level (.slice ai g.items.length ci) (.slice ad g.data.length cd) g.next);obtain⟨aa',ca',F',hA⟩:=refH_refA hF
 have O:=hQ (rown_any r s gs ⟨.slice aa' l.length ca',fl,false⟩ ((j:Int)+1) _ _ (hA.only ho2));have CK:=hQ (rcheck_any g h _ hpg _ (hs.le (a:=h)));rw [ho] at O;rw [hck] at CK;have c1:=hs.facts;simp only [CellsAt,Nat.reduceAdd,and_true] at c1;have HO:=hQ ho2;have HFT:=hQ (fit_of_check hck);have HPG:=hQ hpg;have HS:=hQ hs;have HLL:=hQ hl;have HJ:=hQ hj
 have hn2:(s.counts.length:Int)≤65536:=by
  obtain⟨y,ok,_⟩:=refH_iff.1 hF;have:=ok.now.n2
  omega
 clear hF hA ho hi hd ho2 hs hpg hck hl;go_enter Tryz.func96,Tryz.ntmps96
 go_wp2_with fail
 refine O.out.mono ?_;rintro e w1 ⟨rfl,rfl⟩;go_wp2_with fail
 refine CK.out.mono ?_;rintro e w1 ⟨rfl,ho3⟩;have hs1:=HS.out.ext ho3.heap;have AC:=hQ (ract_any r s gs fl l _ _ HLL.out (hs1.pull1 (A1:=RefH r s gs fl l)));have HST1:=hQ (HO.out.st.trans ho3.st);clear ho3 c1 CK O hs1 HS HO;go_wp2_with fail
 refine AC.out.mono ?_;rintro e w2 ⟨rfl,st2,hs2⟩;obtain⟨⟨cv,lv,pv,av,xs,hh,ws⟩,ok,hs3⟩:=refH_iff.1 hs2;have hs4:=(OwnL.in7 hs3).flat;dsimp only at hs4;have hAt:=refAt_close r s gs ⟨av,fl,false⟩ ⟨cv,lv,pv,xs,hh⟩ hs4.pull5;obtain⟨b,c,b2,c2,b3,c3,⟨e1,e2,e3⟩,⟨q1,q2,q3⟩,_,_,_,_,zr,_,_,zb3⟩:=ref_all ok.now hAt (j:=j) hj;dsimp only at e1 e2 e3;subst e1 e2 e3;have c1:=hs4.facts
 simp only [CellsAt,Nat.reduceAdd,and_true] at c1;have CP:=hQ (copypage_any h _ g HPG.out (by have:=HFT.out.n;omega) (fun y hy=>by have:=fit_keys HFT.out y hy;omega) (by have:=HFT.out.d;omega) _ w2.drew (hs4.drew.pull1 (A1:=Pr.own h)));have HOK:=hQ ok;have HST2:=hQ (HST1.out.trans st2);clear hs2 hs3 hs4 hAt ok st2 AC HST1;go_wp2_with fail
 refine wS 28 [0,1,2,3,4,5,6] [(7,[8],[0,1,2,3,4,5]),(9,[],[])] ?_;refine wpQ_all _ rfl rfl ?_;simp only [pick,pQ];iterate 7 (go_big_quiet_step (fail))
 refine wpQuiet_nil ?_;refine wpRest_act rfl ?_;go_wp2_with fail
 refine CP.out.mono ?_;rintro e w6 ⟨pv,h',rfl,hpv,hs7,st7⟩;obtain⟨vi,vd,rfl,hit,hby⟩:=id hpv;obtain⟨a8,c8,rfl,_,_⟩:=items_rd hit;obtain⟨a9,c9,rfl⟩:=bytes_shape hby;have hs8:=OwnL.of2 hs7;have hAt:=refAt_close r s gs ⟨av,fl,false⟩ ⟨.slice (some ⟨b,0,none⟩) s.counts.length c,.slice (some ⟨b2,0,none⟩) s.counts.length c2,.slice (some ⟨b3,0,none⟩) s.counts.length c3,xs,hh⟩ hs8.pull5
 obtain⟨b9,d9,epv,hcl,wr8⟩:=ref_wr_page HOK.out.now.pgs.len hAt (j:=j) (by rw [HOK.out.now.gl];exact HJ.out);cases (Value.slice.inj epv).1;obtain⟨g0,u0,k0⟩:=hcl 0 (by omega);obtain⟨g1,u1,k1⟩:=hcl 1 (by omega);obtain⟨g2,u2,k2⟩:=hcl 2 (by omega);obtain⟨g3,u3,k3⟩:=hcl 3 (by omega);obtain⟨g4,u4,k4⟩:=hcl 4 (by omega);rw [Nat.add_zero] at g0 k0
 have W8:=hQ (wr8 g (.slice a8 g.items.length c8) (.slice a9 g.data.length c9));have HST7:=hQ (HST2.out.drew.trans st7);have HIB:=hQ (And.intro hit hby);clear c1 q1 q2 q3 zr zb3;have c1:=hs8.facts;simp only [CellsAt,Nat.reduceAdd,and_true] at c1;have zb3:=World.block_lt_of_cell? _ _ k0;clear hs7 hs8 hAt wr8 hcl hpv hit hby CP epv st7;go_wp2;refine onN_mk ?_;refine wpQ_all _ rfl rfl ?_
 simp only [pick,pQ];iterate 1 (go_big_quiet_step (fail))
 refine wpQuiet_nil ⟨?_,?_⟩
 · exact cQ
 refine wpRest_act rfl ?_;go_wp2;refine onN_mk (wpQ_nil ⟨chk_nil,wpRest_nil ?_⟩);go_wp2;go_ret;refine⟨rfl,((((HST7.out.setCell _ _).setCell _ _).setCell _ _).setCell _ _).setCell _ _,?_⟩
 have hs9:=refAt_open r s (gs.set j g) ⟨av,fl,false⟩ ⟨.slice (some ⟨b,0,none⟩) s.counts.length c,.slice (some ⟨b2,0,none⟩) s.counts.length c2,.slice (some ⟨b3,0,none⟩) s.counts.length c3,xs.set j (.slice a8 g.items.length c8,.slice a9 g.data.length c9),hh⟩ (OwnL.of1 W8.out)
 have h10:=OwnL.of1 (refH_put r s gs fl _ ⟨.slice (some ⟨b,0,none⟩) s.counts.length c,.slice (some ⟨b2,0,none⟩) s.counts.length c2,.slice (some ⟨b3,0,none⟩) s.counts.length c3,av,xs,hh,ws⟩ HOK.out HIB.out.1 HIB.out.2 HFT.out j hs9.pull8);exact h10.end3 (A3:=F)
end
end Go.Proofs.YtbobcmimkonnoaaGreat.Hy
namespace Go.Proofs.YtbobcmimkonnoaaGreat.Jy
open ChangeShapes WideShapes ChangeAt RowKit Sl Cop D2 M3 Q3 D4 M2 N2 E4 G4 E6 J4 L6 M7 Q7 U7 X7 K9 Q9 U9 Z9 U4 Gy B9 Z7 Cy
section
variable(r:Nat)(s:PoolS)(gs:List PageV)(fl:Int)(l:List (List Int × List PageV))
theorem rmakeH_ok(j:Nat)(hj:j<s.counts.length)(hm1:s.state ((j:Int)+1)=1)(hle:∀k,s.state k=1→(j:Int)+1≤k)(h:Hp)(pv:Value)(g:PageV)(hpg:PageIn h pv g)(hck:checkP g=0)(hl:l.length≤1048576)(F:Pr)(w:World)(hF:Sat ((RefH r s gs fl l).star ((Pr.own h).star F)) w):
 Calls Tryz.prog 94 #[.pointer (some ⟨r,0,none⟩),pv] w fun e w'=>e= .returned (.tuple #[.int .i64 ((j:Int)+1),.int .i64 0])∧Stays w w'∧
  Sat ((RefH r (takenC s j) (gs.set j g) fl (l++ [(s.counts,gs)])).star ((Pr.own h).star F)) w':=by
 obtain⟨vi,vd,rfl,hi,hd⟩:=id hpg;obtain⟨ai,ci,rfl,_,_⟩:=items_rd hi;obtain⟨ad,cd,rfl⟩:=bytes_shape hd;have ho2:Only w (w.alloc (pageC g.kind g.level (.slice ai g.items.length ci) (.slice ad g.data.length cd) g.next)):=(Only.refl w).alloc _;have hs:=(OwnL.in2 hF).alloc (pageC g.kind g.level (.slice ai g.items.length ci) (.slice ad g.data.length cd) g.next)
 have CK:=hQ (rcheck_any g h _ hpg _ (hs.le (a:=h)));rw [hck] at CK;have c1:=hs.facts;simp only [CellsAt,Nat.reduceAdd,and_true] at c1;have HO:=hQ ho2;have HFT:=hQ (fit_of_check hck);have HPG:=hQ hpg;have HS:=hQ hs;have HLL:=hQ hl;have HJ:=hQ hj;have HM:=hQ (And.intro hm1 hle);have hm0:((j:Int)+1 == 0)=false:=beq_eq_false_iff_ne.2 (by omega)
 have hn2:(s.counts.length:Int)≤65536:=by
  obtain⟨y,ok,_⟩:=refH_iff.1 hF;have:=ok.now.n2
  omega
 clear hF hi hd ho2 hs hpg hck hl hm1 hle;go_enter Tryz.func94,Tryz.ntmps94
 go_wp2_with fail
 refine CK.out.mono ?_;rintro e w1 ⟨rfl,ho3⟩;have hs1:=HS.out.ext ho3.heap;obtain⟨aa',ca',F',hA⟩:=refH_refA (hs1.pull1 (A1:=RefH r s gs fl l));have LO:=hQ (rlowest_any r s gs ⟨.slice aa' l.length ca',fl,false⟩ _ _ hA);have AC:=hQ (ract_any r s gs fl l _ _ HLL.out (hs1.pull1 (A1:=RefH r s gs fl l)));have HST1:=hQ (HO.out.st.trans ho3.st);clear ho3 c1 CK hs1 HS HO hA;go_wp2_with fail
 refine LO.out.mono ?_;rintro e w0 ⟨rfl,m,rfl,hmm⟩
 have hmi:m=(j:Int)+1:=by
  rcases hmm with⟨_,hno⟩ | ⟨h1,h2⟩
  · exact absurd HM.out.1 (hno _)
  · have:=h2 _ HM.out.1
    have:=HM.out.2 _ h1
    omega
 clear hmm;subst hmi;go_wp2_with fail
 refine AC.out.mono ?_;rintro e w2 ⟨rfl,st2,hs2⟩;obtain⟨⟨cv,lv,pv,av,xs,hh,ws⟩,ok,hs3⟩:=refH_iff.1 hs2;have hs4:=(OwnL.in7 hs3).flat;dsimp only at hs4;have hAt0:=refAt_close r s gs ⟨av,fl,false⟩ ⟨cv,lv,pv,xs,hh⟩ hs4.pull5;obtain⟨b,c,b2,c2,b3,c3,⟨e1,e2,e3⟩,⟨q1,q2,q3⟩,⟨k1,f1⟩,_,_,_,zr,zb,zb2,zb3⟩:=ref_all ok.now hAt0 (j:=j) hj;obtain⟨b',c',e1',_,_,wc⟩:=ref_wr_count hAt0 hj;dsimp only at e1 e2 e3 e1'
 rw [e1] at e1';cases (Value.slice.inj e1').1;subst e1 e2 e3;have T5:Sat ((RefAt r (takenC s j) gs ⟨av,fl,false⟩ ⟨.slice (some ⟨b,0,none⟩) s.counts.length c,.slice (some ⟨b2,0,none⟩) s.counts.length c2,.slice (some ⟨b3,0,none⟩) s.counts.length c3,xs,hh⟩).star _) _:=wc 1
 have hs5:=refAt_open r (takenC s j) gs ⟨av,fl,false⟩ ⟨.slice (some ⟨b,0,none⟩) s.counts.length c,.slice (some ⟨b2,0,none⟩) s.counts.length c2,.slice (some ⟨b3,0,none⟩) s.counts.length c3,xs,hh⟩ (OwnL.of1 T5)
 have ok1:HOk (takenC s j) gs (l++ [(s.counts,gs)]) ⟨.slice (some ⟨b,0,none⟩) s.counts.length c,.slice (some ⟨b2,0,none⟩) s.counts.length c2,.slice (some ⟨b3,0,none⟩) s.counts.length c3,av,xs,hh,ws⟩:=⟨rok_counts ok.now (by rw [List.length_set]) (fun c0 hc=>by
  rcases List.mem_or_eq_of_mem_set hc with hc | hc
  · exact ok.now.c0 c0 hc
  · rw [hc];decide),ok.was,ok.l⟩
 have HST2:=hQ ((HST1.out.trans st2).setCell ⟨b,j,none⟩ (.int .i64 1));have HS5:=hQ hs5;have HOK:=hQ ok1;clear hs2 hs3 hs4 hAt0 ok ok1 st2 AC HST1 wc e1' T5 hs5 LO;generalize s.counts.getD j 0=cj at*;go_wp2_with fail
 have U5:=HST2.out;have hs4:=HS5.out;clear HST2 HS5 q1 q2 q3 k1 f1 zr zb zb2 zb3;generalize w2.setCell ⟨b,j,none⟩ (.int .i64 1)=w5 at*;have elen:(takenC s j).counts.length=s.counts.length:=List.length_set
 have hAt:=refAt_close r (takenC s j) gs ⟨av,fl,false⟩ ⟨.slice (some ⟨b,0,none⟩) s.counts.length c,.slice (some ⟨b2,0,none⟩) s.counts.length c2,.slice (some ⟨b3,0,none⟩) s.counts.length c3,xs,hh⟩ hs4.pull5;obtain⟨_,_,_,_,_,_,⟨_,_,e3⟩,⟨_,_,q3⟩,_,_,_,_,zr,_,_,zb3⟩:=ref_all HOK.out.now hAt (j:=j) (by rw [elen];exact hj);dsimp only at e3;rw [elen] at e3 q3;cases e3;have c1:=hs4.facts
 simp only [CellsAt,Nat.reduceAdd,and_true] at c1;have CP:=hQ (copypage_any h _ g HPG.out (by have:=HFT.out.n;omega) (fun y hy=>by have:=fit_keys HFT.out y hy;omega) (by have:=HFT.out.d;omega) _ w5.drew (hs4.drew.pull1 (A1:=Pr.own h)));have HST2:=hQ U5;clear hs4 hAt U5;refine wS 36 [0,1,2,3,4,5,6] [(7,[8],[0,1,2,3,4,5]),(9,[],[])] ?_;refine wpQ_all _ rfl rfl ?_;simp only [pick,pQ]
 iterate 7 (go_big_quiet_step (fail))
 refine wpQuiet_nil ?_;refine wpRest_act rfl ?_;go_wp2_with fail
 refine CP.out.mono ?_;rintro e w6 ⟨pv,h',rfl,hpv,hs7,st7⟩;obtain⟨vi,vd,rfl,hit,hby⟩:=id hpv;obtain⟨a8,c8,rfl,_,_⟩:=items_rd hit;obtain⟨a9,c9,rfl⟩:=bytes_shape hby;have hs8:=OwnL.of2 hs7;have hAt:=refAt_close r (takenC s j) gs ⟨av,fl,false⟩ ⟨.slice (some ⟨b,0,none⟩) s.counts.length c,.slice (some ⟨b2,0,none⟩) s.counts.length c2,.slice (some ⟨b3,0,none⟩) s.counts.length c3,xs,hh⟩ hs8.pull5
 obtain⟨b9,d9,epv,hcl,wr8⟩:=ref_wr_page HOK.out.now.pgs.len hAt (j:=j) (by rw [HOK.out.now.gl,elen];exact HJ.out);cases (Value.slice.inj epv).1;obtain⟨g0,u0,k0⟩:=hcl 0 (by omega);obtain⟨g1,u1,k1⟩:=hcl 1 (by omega);obtain⟨g2,u2,k2⟩:=hcl 2 (by omega);obtain⟨g3,u3,k3⟩:=hcl 3 (by omega);obtain⟨g4,u4,k4⟩:=hcl 4 (by omega);rw [Nat.add_zero] at g0 k0
 have W8:=hQ (wr8 g (.slice a8 g.items.length c8) (.slice a9 g.data.length c9));have HST7:=hQ (HST2.out.drew.trans st7);have HIB:=hQ (And.intro hit hby);clear c1 q3 zr zb3;have c1:=hs8.facts;simp only [CellsAt,Nat.reduceAdd,and_true] at c1;have zb3:=World.block_lt_of_cell? _ _ k0;clear hs7 hs8 hAt wr8 hcl hpv hit hby CP epv st7;go_wp2;refine onN_mk ?_;refine wpQ_all _ rfl rfl ?_
 simp only [pick,pQ];iterate 1 (go_big_quiet_step (fail))
 refine wpQuiet_nil ⟨?_,?_⟩
 · exact cQ
 refine wpRest_act rfl ?_;go_wp2;refine onN_mk (wpQ_nil ⟨chk_nil,wpRest_nil ?_⟩);go_wp2;go_ret2;refine⟨rfl,((((HST7.out.setCell _ _).setCell _ _).setCell _ _).setCell _ _).setCell _ _,?_⟩
 have hs9:=refAt_open r (takenC s j) (gs.set j g) ⟨av,fl,false⟩ ⟨.slice (some ⟨b,0,none⟩) s.counts.length c,.slice (some ⟨b2,0,none⟩) s.counts.length c2,.slice (some ⟨b3,0,none⟩) s.counts.length c3,xs.set j (.slice a8 g.items.length c8,.slice a9 g.data.length c9),hh⟩ (OwnL.of1 W8.out)
 have h10:=OwnL.of1 (refH_put r (takenC s j) gs fl _ ⟨.slice (some ⟨b,0,none⟩) s.counts.length c,.slice (some ⟨b2,0,none⟩) s.counts.length c2,.slice (some ⟨b3,0,none⟩) s.counts.length c3,av,xs,hh,ws⟩ HOK.out HIB.out.1 HIB.out.2 HFT.out j hs9.pull8);exact h10.end3 (A3:=F)
end
end Go.Proofs.YtbobcmimkonnoaaGreat.Jy
namespace Go.Proofs.YtbobcmimkonnoaaGreat.Ky
open ChangeShapes WideShapes ChangeAt RowKit Sl Cop D2 M3 Q3 D4 M2 N2 E4 G4 E6 J4 L6 M7 K9 Q9 U4 B9
section
variable(r:Nat)(s:PoolS)(gs:List PageV)(fl:Int)(l:List (List Int × List PageV))
theorem rmakeH_bad(h:Hp)(pv:Value)(g:PageV)(hpg:PageIn h pv g)(hck:checkP g≠0)(F:Pr)(w:World)(hF:Sat ((RefH r s gs fl l).star ((Pr.own h).star F)) w):
 Calls Tryz.prog 94 #[.pointer (some ⟨r,0,none⟩),pv] w fun e w'=>e= .returned (.tuple #[.int .i64 0,.int .i64 (checkP g)])∧Only w w':=by
 obtain⟨vi,vd,rfl,hi,hd⟩:=id hpg;obtain⟨ai,ci,rfl,_,_⟩:=items_rd hi;obtain⟨ad,cd,rfl⟩:=bytes_shape hd;have ho2:Only w (w.alloc (pageC g.kind g.level (.slice ai g.items.length ci) (.slice ad g.data.length cd) g.next)):=(Only.refl w).alloc _;have hs:=(OwnL.in2 hF).alloc (pageC g.kind g.level (.slice ai g.items.length ci) (.slice ad g.data.length cd) g.next)
 have CK:=hQ (rcheck_any g h _ hpg _ (hs.le (a:=h)));have c1:=hs.facts;simp only [CellsAt,Nat.reduceAdd,and_true] at c1;have HO:=hQ ho2;obtain⟨er,her⟩:∃er,checkP g=er:=⟨_,rfl⟩;rw [her] at CK hck ⊢;have hb:(er != 0)=true:=by rw [bne_iff_ne];exact hck
 clear hF hi hd ho2 hs hpg her hck;go_enter Tryz.func94,Tryz.ntmps94
 go_wp2_with fail
 refine CK.out.mono ?_;rintro e w1 ⟨rfl,ho3⟩;have HO3:=hQ ho3;clear ho3 c1 CK;go_wp2;go_ret2;exact⟨rfl,HO.out.trans HO3.out⟩
theorem rmakeH_full(h:Hp)(pv:Value)(g:PageV)(hpg:PageIn h pv g)(hck:checkP g=0)(hno:∀m,s.state m≠1)(F:Pr)(w:World)(hF:Sat ((RefH r s gs fl l).star ((Pr.own h).star F)) w):
 Calls Tryz.prog 94 #[.pointer (some ⟨r,0,none⟩),pv] w fun e w'=>e= .returned (.tuple #[.int .i64 0,.int .i64 12])∧Only w w':=by
 obtain⟨vi,vd,rfl,hi,hd⟩:=id hpg;obtain⟨ai,ci,rfl,_,_⟩:=items_rd hi;obtain⟨ad,cd,rfl⟩:=bytes_shape hd;have ho2:Only w (w.alloc (pageC g.kind g.level (.slice ai g.items.length ci) (.slice ad g.data.length cd) g.next)):=(Only.refl w).alloc _;have hs:=(OwnL.in2 hF).alloc (pageC g.kind g.level (.slice ai g.items.length ci) (.slice ad g.data.length cd) g.next)
 have CK:=hQ (rcheck_any g h _ hpg _ (hs.le (a:=h)));rw [hck] at CK;have c1:=hs.facts;simp only [CellsAt,Nat.reduceAdd,and_true] at c1;have HS:=hQ hs;have HO:=hQ ho2;have HNO:=hQ hno;clear hF hi hd ho2 hs hpg hck hno;go_enter Tryz.func94,Tryz.ntmps94
 go_wp2_with fail
 refine CK.out.mono ?_;rintro e w1 ⟨rfl,ho3⟩;have hs1:=HS.out.ext ho3.heap;obtain⟨aa',ca',F',hA⟩:=refH_refA (hs1.pull1 (A1:=RefH r s gs fl l));have LO:=hQ (rlowest_any r s gs ⟨.slice aa' l.length ca',fl,false⟩ _ _ hA);have HO3:=hQ ho3;clear ho3 c1 CK hs1 HS hA;go_wp2_with fail
 refine LO.out.mono ?_;rintro e w0 ⟨rfl,m,rfl,(⟨rfl,_⟩ | ⟨hm,_⟩)⟩
 · go_wp2
   go_ret2;exact⟨rfl,HO.out.trans HO3.out⟩
 · exact absurd hm (HNO.out m)
end
end Go.Proofs.YtbobcmimkonnoaaGreat.Ky
namespace Go.Proofs.YtbobcmimkonnoaaGreat.Ly
open ChangeShapes WideShapes ChangeAt RowKit Sl Cop D2 M3 Q3 U3 D4 M2 N2 E4 E6 J4 L6 M7 K9 Q9 B9 E9
section
variable(r:Nat)(s:PoolS)(gs:List PageV)(fl:Int)(l:List (List Int × List PageV))
theorem refH_refA2 {F:Pr}{w:World}(o:Sat ((RefH r s gs fl l).star F) w):
 ∃aa ca X,Sat ((RefA r s gs ⟨.slice aa l.length ca,fl,false⟩).star (Pr.star X F)) w:=by
 obtain⟨y,ok,o2⟩:=refH_iff.1 o;have o3:=OwnL.in7 o2;obtain⟨aa,ca,e,_⟩:=Row.read (o3.pull1 (A1:=Row 165 2 y.av y.ws.length (y.ws.flatMap wasCells)));rw [ok.len] at e;have h:=o3.pull5 (A1:=Pr.pts r (refHC s.refs y.cv y.lv y.pv y.av fl)) (A2:=IntsRow y.cv s.counts) (A3:=BoolsRow y.lv s.last) (A4:=PgRow y.pv y.xs gs) (A5:=Pr.own y.h)
 refine⟨aa,ca,(Row 165 2 y.av y.ws.length (y.ws.flatMap wasCells)).star (big WasRow y.ws),refA_iff.2 ⟨y.rx,ok.now,h.perm ?_⟩⟩;unfold RefAt;simp only [starL,Pr.star_assoc,Pr.star_emp,e]
theorem refA_refH {F:Pr}{w:World}(o:Sat ((RefA r s gs ⟨.slice none 0 0,fl,false⟩).star F) w):Sat ((RefH r s gs fl []).star F) w:=by
 obtain⟨x,ok,h⟩:=refA_iff.1 o;refine refH_iff.2 ⟨⟨x.cv,x.lv,x.pv,.slice none 0 0,x.xs,x.h,[]⟩,⟨ok,fun a ha=>absurd ha (by simp),rfl⟩,h.perm ?_⟩;unfold RefAt;simp only [HParts,List.length_nil,List.flatMap_nil,big_nil,Row.nil,Pr.star_assoc,Pr.emp_star]
theorem rsettleH_any(hb: -1099511627776≤fl∧fl+l.length≤1099511627776)(F:Pr)(w:World)(hF:Sat ((RefH r s gs fl l).star F) w):
 Calls Tryz.prog 58 #[.pointer (some ⟨r,0,none⟩)] w fun e w'=>e= .returned (.tuple #[])∧Stays w w'∧
  Sat ((RefH r { s with last:=lastsOf s.counts } (gsK s gs s.counts.length) (fl+l.length) []).star F) w':=by
 obtain⟨aa,ca,X,hA⟩:=refH_refA2 r s gs fl l hF;refine(rsettle_any r s gs ⟨.slice aa l.length ca,fl,false⟩ aa l.length ca rfl hb _ _ hA).mono ?_;rintro e w' ⟨rfl,st,hs⟩;exact⟨rfl,st,refA_refH r _ _ _ (hs.perm (B:=X.star ((RefA r { s with last:=lastsOf s.counts } (gsK s gs s.counts.length) ⟨.slice none 0 0,fl+l.length,false⟩).star F)) (by rw [Pr.left_comm])).right⟩
theorem rmarkH_any(hb: -1099511627776≤fl∧fl+l.length≤1099511627776)(F:Pr)(w:World)(hF:Sat ((RefH r s gs fl l).star F) w):
 Calls Tryz.prog 55 #[.pointer (some ⟨r,0,none⟩)] w fun e w'=>e= .returned (.int .i64 (fl+l.length))∧∃k,w'=w.drewN k:=by
 obtain⟨aa,ca,X,hA⟩:=refH_refA2 r s gs fl l hF;exact rmark_any r s gs ⟨.slice aa l.length ca,fl,false⟩ aa l.length ca rfl hb _ _ hA
end
end Go.Proofs.YtbobcmimkonnoaaGreat.Ly
namespace Go.Proofs.YtbobcmimkonnoaaGreat.My
open ChangeShapes WideShapes ChangeAt RowKit Sl Cop D2 M3 Q3 D4 M2 N2 E4 G4 P4 S4 V4 X4 Z4 E5 E6 G6 J4 L6 P6 M7 Q7 K9 Q9
theorem rread_x(r:Nat)(s:PoolS)(gs:List PageV)(hush:RTail)(x:RX)(ok:ROk s gs x)(n:Int)(F:Pr)(w:World)(h:Sat ((RefAt r s gs hush x).star F) w)(h0:s.count n≠0):
 Calls Tryz.prog 45 #[.pointer (some ⟨r,0,none⟩),.int .i64 n] w fun e w'=>
  Stays w w'∧∃pv,e= .returned (.tuple #[pv,.int .i64 0])∧∃h',PageIn h' pv (pgAt gs n)∧Sat ((Pr.own h').star ((RefAt r s gs hush x).star F)) w':=by
 have ht:s.there n:=by
  by_cases ht:s.there n
  · exact ht
  · exact absurd (by unfold PoolS.count;rw [if_neg ht]) h0
 have hF:=refAt_refA r s gs hush ok h;have ho:Only w (w.alloc (pageC 0 0 (.slice none 0 0) (.slice none 0 0) 0)):=(Only.refl w).alloc _
 have hpos:decide (0<s.count n)=true:=by
  rw [decide_eq_true_eq];obtain⟨j,rfl,hj⟩:=there_idx ht;rw [count_idx hj] at h0 ⊢;have:=ok.c0 s.counts[j] (List.getElem_mem hj)
  simp [hj] at h0 ⊢
  omega
 have C:=hQ (rthere_any r s gs hush n _ _ (hF.only ho));rw [hpos] at C;obtain⟨j,rfl,hj⟩:=there_idx ht;obtain⟨ac,cc,al,cl,ap,cp,⟨q1,q2,q3,_⟩,z,_,rd⟩:=ref_rd ok h;obtain⟨_,_,b,g,vi,vd,rfl,hg,hpg,c0,c1,c2,c3,c4⟩:=rd j hj;have zb:=World.block_lt_of_cell? _ _ c0;have hn2:=ok.n2;have hgm:g∈gs:=List.mem_of_getElem? hg;have hfit:=ok.fit g hgm
 have epg:pgAt gs ((j:Int)+1)=g:=by unfold pgAt;rw [show ((j:Int)+1).toNat-1=j by omega,List.getD_eq_getElem?_getD,hg];rfl
 rw [epg];obtain⟨_,_,epv,hit,hby⟩:=id hpg;simp only [pageV,Value.agg.injEq,Array.mk.injEq,List.cons.injEq,and_true,true_and] at epv;obtain⟨rfl,rfl⟩:=epv;obtain⟨a1,d1,rfl,_,_⟩:=items_rd hit;obtain⟨a2,d2,rfl⟩:=bytes_shape hby
 have h2:=(h.alloc (pageC 0 0 (.slice none 0 0) (.slice none 0 0) 0)).perm (B:=(Pr.own x.h).star ((Pr.pts w.heap.size (pageC 0 0 (.slice none 0 0) (.slice none 0 0) 0)).star ((Pr.pts r (refC s.refs x.cv x.lv x.pv hush)).star ((IntsRow x.cv s.counts).star ((BoolsRow x.lv s.last).star ((PgRow x.pv x.xs gs).star F)))))) (by unfold RefAt;ac_rfl)
 have D:=hQ (copypage_any x.h _ g hpg (by have:=hfit.n;omega) (fun y hy=>by have:=fit_keys hfit y hy;omega) (by have:=hfit.d;omega) _ _ h2);have HO:=hQ ho;have OK:=hQ ok;clear rd h hF h2 hit hby hpg ok ho ht h0 hpos hg hgm hfit epg;go_enter Tryz.func45,Tryz.ntmps45
 go_wp2_with fail
 refine C.out.mono ?_;rintro e w1 ⟨rfl,rfl⟩;go_wp2_with fail
 refine D.out.mono ?_;rintro e w1 ⟨pv2,h',rfl,hp',h3,hst⟩;obtain⟨pk,pl,ai,mi,ci,ad,md,cd,nx,rfl⟩:=page_shape hp';have h4:=h3.perm (B:=(Pr.pts w.heap.size (pageC 0 0 (.slice none 0 0) (.slice none 0 0) 0)).star ((Pr.own h').star ((RefAt r s gs hush x).star F))) (by unfold RefAt;ac_rfl);obtain⟨f0,f1,f2,f3,f4,⟨z0,z1,z2,z3,z4⟩,zz⟩:=pts5 h4
 have s6:=((((h4.setCell (i:=0) (.int .i64 pk)).setCell (i:=1) (.int .i64 pl)).setCell (i:=2) (.slice ai mi ci)).setCell (i:=3) (.slice ad md cd)).setCell (i:=4) (.int .i64 nx);have s7:Sat ((Pr.pts w.heap.size (pageC pk pl (.slice ai mi ci) (.slice ad md cd) nx)).star ((Pr.own h').star ((RefAt r s gs hush x).star F))) _:=s6;have S7:=hQ s7;have HST:=hQ (HO.out.st.trans hst);have HP:=hQ hp'
 clear h3 h4 s6 s7 hst hp' C D;go_wp2;refine bodyPost_ret (results_cell_row_tmp rfl _ _ w.heap.size _ rfl (run_loadVar_row _ w.heap.size _ _ _ _ _ S7.out.pts_heap Tryz.underlying31 rfl infoPage)) rfl ?_;exact⟨((((HST.out.setCell _ _).setCell _ _).setCell _ _).setCell _ _).setCell _ _,_,rfl,h',HP.out,S7.out.right⟩
theorem rreadH_some(r:Nat)(s:PoolS)(gs:List PageV)(fl:Int)(l:List (List Int × List PageV))(n:Int)(h0:s.count n≠0)(F:Pr)(w:World)(hF:Sat ((RefH r s gs fl l).star F) w):
 Calls Tryz.prog 45 #[.pointer (some ⟨r,0,none⟩),.int .i64 n] w fun e w'=>
  Stays w w'∧∃pv,e= .returned (.tuple #[pv,.int .i64 0])∧∃h',PageIn h' pv (pgAt gs n)∧Sat ((Pr.own h').star ((RefH r s gs fl l).star F)) w':=by
 obtain⟨y,ok,h⟩:=refH_iff.1 hF;rw [hparts_at] at h;refine(rread_x r s gs ⟨y.av,fl,false⟩ y.rx ok.now n _ w h h0).mono ?_;rintro e w' ⟨st,pv,rfl,h',hp,hs⟩;refine⟨st,pv,rfl,h',hp,?_⟩;rw [Pr.left_comm];refine refH_iff.2 ⟨y,ok,?_⟩;rw [hparts_at];exact hs.perm (by ac_rfl)
theorem rreadH_none(r:Nat)(s:PoolS)(gs:List PageV)(fl:Int)(l:List (List Int × List PageV))(n:Int)(h0:s.count n=0)(F:Pr)(w:World)(hF:Sat ((RefH r s gs fl l).star F) w):
 Calls Tryz.prog 45 #[.pointer (some ⟨r,0,none⟩),.int .i64 n] w fun e w'=>e= .returned (.tuple #[zeroPage,.int .i64 15])∧Only w w':=by
 obtain⟨aa,ca,F',hA⟩:=refH_refA hF;exact rread_none r s gs ⟨.slice aa l.length ca,fl,false⟩ n _ _ hA h0
end Go.Proofs.YtbobcmimkonnoaaGreat.My
namespace Go.Proofs.YtbobcmimkonnoaaGreat.Ny
open ChangeShapes WideShapes ChangeAt RowKit Sl Cop D2 M3 Q3 D4 M2 N2 E4 G4 E6 J4 L6 M7 Q7 K9
theorem rcount_any(r:Nat)(s:PoolS)(gs:List PageV)(hush:RTail)(n:Int)(F:Pr)(w:World)(hF:Sat ((RefA r s gs hush).star F) w):
 Calls Tryz.prog 46 #[.pointer (some ⟨r,0,none⟩),.int .i64 n] w fun e w'=>e= .returned (.int .i64 (s.count n))∧w=w':=by
 obtain⟨x,ok,h⟩:=refA_iff.1 hF;obtain⟨ac,cc,al,cl,ap,cp,⟨q1,q2,q3,_⟩,z,_,rd⟩:=ref_rd ok h;have IS:=hQ (ris_any r s gs hush n F w hF);have hn2:=ok.n2;by_cases ht:s.there n
 · rw [decide_eq_true ht] at IS
   obtain⟨j,rfl,hj⟩:=there_idx ht;obtain⟨⟨b,rfl,c0⟩,_⟩:=rd j hj;rw [count_idx hj];have zb:=World.block_lt_of_cell? _ _ c0;generalize s.counts.getD j 0=c at*;clear rd hF h ok ht;go_enter Tryz.func46,Tryz.ntmps46
   go_wp2_with fail
   refine IS.out.mono ?_;rintro e w1 ⟨rfl,rfl⟩;go_wp2;go_ret;exact⟨rfl,rfl⟩
 · rw [decide_eq_false ht] at IS
   have e:s.count n=0:=by unfold PoolS.count;rw [if_neg ht]
   rw [e];clear rd hF h ok ht e;go_enter Tryz.func46,Tryz.ntmps46
   go_wp2_with fail
   refine IS.out.mono ?_;rintro e w1 ⟨rfl,rfl⟩;go_wp2;go_ret;exact⟨rfl,rfl⟩
abbrev refO(r:Nat)(refs:Int)(y:HX)(fl:Int):Pr:=Pr.pts r (refHC refs y.cv y.lv y.pv y.av fl)
def RRest(s:PoolS)(gs:List PageV)(y:HX):Pr:=(BoolsRow y.lv s.last).star ((PgRow y.pv y.xs gs).star ((Pr.own y.h).star ((Row 165 2 y.av y.ws.length (y.ws.flatMap wasCells)).star (big WasRow y.ws))))
theorem refH_open {r:Nat}{s:PoolS}{gs:List PageV}{fl:Int}{l:List (List Int × List PageV)}{L R:List Pr}{w:World}(o:OwnL L w) [Pull (RefH r s gs fl l) L R]:∃y,HOk s gs l y∧OwnL (refO r s.refs y fl :: IntsRow y.cv s.counts :: RRest s gs y :: R) w:=by
 obtain⟨y,ok,h⟩:=refH_iff.1 (o.pull1 (A1:=RefH r s gs fl l));exact⟨y,ok,⟨h.perm (by unfold RRest;simp only [HParts,starL,Pr.star_assoc])⟩⟩
theorem refH_shut {r:Nat}{s:PoolS}{gs:List PageV}{fl:Int}{l:List (List Int × List PageV)}{y:HX}(ok:HOk s gs l y){L R1 R2 R3:List Pr}{w:World}(o:OwnL L w) [Pull (refO r s.refs y fl) L R1] [Pull (IntsRow y.cv s.counts) R1 R2] [Pull (RRest s gs y) R2 R3]:OwnL (RefH r s gs fl l :: R3) w:=
 ⟨refH_iff.2 ⟨y,ok,(o.pull3 (A1:=refO r s.refs y fl) (A2:=IntsRow y.cv s.counts) (A3:=RRest s gs y)).perm (by unfold RRest;simp only [HParts,Pr.star_assoc])⟩⟩
def VRest(s:VaultS)(x:VX):Pr:=(MapA Tryz.prog 3 x.mb x.f).star ((Row 158 2 x.av s.acts.length (actCells x.axs)).star (Pr.own x.h))
abbrev vaultQ(v:Nat)(s:VaultS)(x:VX):Pr:=Pr.pts v (.cells #[.pointer (some ⟨x.p,0,none⟩),.map (some x.mb),x.av,.int .i64 s.floor] 71)
theorem vault_open {v:Nat}{s:VaultS}{L R:List Pr}{w:World}(o:OwnL L w) [Pull (VaultA v s) L R]:∃x,VOk s x∧OwnL (vaultQ v s x :: PoolA x.p s.pool :: VRest s x :: R) w:=by
 obtain⟨x,ok,h⟩:=vaultA_iff.1 (o.pull1 (A1:=VaultA v s));exact⟨x,ok,⟨h.perm (by unfold VaultAt VRest;simp only [starL];ac_rfl)⟩⟩
theorem vault_shut {v:Nat}{s:VaultS}{x:VX}(ok:VOk s x){L R1 R2 R3:List Pr}{w:World}(o:OwnL L w) [Pull (vaultQ v s x) L R1] [Pull (PoolA x.p s.pool) R1 R2] [Pull (VRest s x) R2 R3]:OwnL (VaultA v s :: R3) w:=
 ⟨vaultA_iff.2 ⟨x,ok,(o.pull3 (A1:=vaultQ v s x) (A2:=PoolA x.p s.pool) (A3:=VRest s x)).perm (by unfold VaultAt VRest;ac_rfl)⟩⟩
end Go.Proofs.YtbobcmimkonnoaaGreat.Ny
