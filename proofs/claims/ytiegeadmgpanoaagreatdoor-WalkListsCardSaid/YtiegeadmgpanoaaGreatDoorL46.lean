/- The program's Floor in a tree that stands; the conditions stand as hypotheses. -/
import Derived.Test.YtiegeadmgpanoaaGreatDoorL41
import Derived.Test.YtiegeadmgpanoaaGreatDoorL42
import Derived.Test.YtiegeadmgpanoaaGreatDoorL40
set_option maxRecDepth 100000
set_option maxHeartbeats 16000000
namespace Go.fB
def leK(key:List Int)(x:en):Bool:=decide (eX x.key key≤0)
end Go.fB
namespace Go.Proofs.YtiegeadmgpanoaaGreatDoor.D2
open ChangeShapes WideShapes ChangeAt RowKit Sl fB Go.Shelf L3 Z3 E4 X5 M8 Y8 D9
attribute [local go_sem] Oper.semAt_some
def P':Option Hr→Obj
 | none=> .cells #[.slice none 0 0,.slice none 0 0,.int .i64 0,.int .i64 0] 89
 | some x=> .cells #[x.1.1,x.1.2,.int .i64 x.2.child,.int .i64 x.2.size] 89
def Qa:Option Hr→Pr
 | none=>Pr.emp
 | some x=>rowsOf x
def FI(TB KB A6 BB FB:Nat)(root dT items:Int)(kv:Value)(key:List Int)(hk:Hp)(F:Pr)(pre:List Hr):Pr:=
 (Pr.pure (∀y∈pre.map (·.2),eX y.key key≤0)).star ((Pr.pts TB (eT root dT items)).star ((Pr.pts KB (.cells #[kv] 42)).star ((Pr.pts A6 (Av (.slice none 0 0) (.slice none 0 0))).star ((Pr.pts BB (P' pre.getLast?)).star
   ((Pr.pts FB (.cells #[.bool pre.getLast?.isSome] 4)).star ((Qa pre.getLast?).star ((Pr.own hk).star F)))))))
def FX(TB KB A6 BB FB:Nat)(root dT items:Int)(kv:Value)(key:List Int)(hk:Hp)(F:Pr)(c:Code)(pre:List Hr):Pr:=
 Pr.ex fun p:List Hr=>(Pr.pure (c= .exit 0∧(∀y∈p.map (·.2),eX y.key key≤0)∧∃x:Hr,pre=p++ [x]∧¬eX x.2.key key≤0)).star ((Pr.pts TB (eT root dT items)).star ((Pr.pts KB (.cells #[kv] 42)).star ((Pr.pts A6 (Av (.slice none 0 0) (.slice none 0 0))).star
  ((Pr.pts BB (P' p.getLast?)).star ((Pr.pts FB (.cells #[.bool p.getLast?.isSome] 4)).star ((Qa p.getLast?).star ((Pr.own hk).star F)))))))
end Go.Proofs.YtiegeadmgpanoaaGreatDoor.D2
namespace Go.fB
theorem Az {look:Int→Option dR}{root dT items:Int}{L:List en}(h:kK look root dT items L):∀x∈L,oM x.key=true∧x.key.length≤24:=by
 intro x hx
 have hk:oM x.key=true:=by
  rcases h with⟨_,_,_,rfl⟩ | ⟨_,_,lv,_,_,hT⟩
  · cases hx
  · exact(Bj (sN hT x hx).1).2.2
 exact⟨hk,(of_decide_eq_true hk).2⟩
def geK(key:List Int)(x:en):Bool:=decide (0≤eX x.key key)
end Go.fB
namespace Go.Proofs.YtiegeadmgpanoaaGreatDoor.D2
open ChangeShapes WideShapes ChangeAt RowKit Sl fB Go.Shelf L3 Z3 E4 X5 M8 Y8 D9 X6
attribute [local go_sem] Oper.semAt_some
theorem UQ(look:Int→Option dR){zs:List fY}{L:List en}(h:zs.map (·.2)=L.map (jy look)){i:Nat}(h1:i<zs.length)(h2:i<L.length):zs[i].2=(L[i].key,nq look L[i]):=by
 have h3:(zs.map (·.2))[i]? =(L.map (jy look))[i]? :=by rw [h]
 rw [aO,aO,ag h1,ag h2] at h3;exact Option.some.inj h3
theorem Ej(h1 h2:Hp)(a b c d:Value)(A B:List Int)(ha:Bytes h1 a A)(hb:Bytes h1 b B)(hc:Bytes h2 c A)(hd:Bytes h2 d B)(hn:A.length≤9000000000000000000)(hm:B.length≤9000000000000000000)(w:World)(l1:h1.le w)(l2:h2.le w):
 Calls Tryz.prog 19 #[Hv a b,Hv c d] w fun e w'=>e= .returned (.bool true)∧eV w w':=by
 have ho0:=((eV.refl w).alloc (Av a b)).alloc (Av c d);have C1:=hQ (fun wx (ho:eV w wx)=>oP h1 h2 a c A ha hc hn wx (l1.only ho) (l2.only ho));have C2:=hQ (fun wx (ho:eV w wx)=>oP h1 h2 b d B hb hd hm wx (l1.only ho) (l2.only ho));obtain⟨p1,q1,rfl⟩:=eB ha;obtain⟨p2,q2,rfl⟩:=eB hb;obtain⟨p3,q3,rfl⟩:=eB hc;obtain⟨p4,q4,rfl⟩:=eB hd
 have wj:=hQ ho0;clear ha hb hc hd l1 l2 ho0;go_enter Tryz.func19,Tryz.ntmps19
 go_wp2_with fail
 refine(C1.af _ wj.af).mono ?_;rintro e w1 ⟨rfl,zA⟩;have c0:=World.cell?_alloc_new;have k1:w1.cell? ⟨w.heap.size,1,none⟩=some (.slice p2 B.length q2):=zA.cell (by go_simp);have k2:w1.cell? ⟨w.heap.size+1,1,none⟩=some (.slice p4 B.length q4):=zA.cell (by go_simp);have C5:=hQ (wj.af.trans zA);clear zA c0;go_wp2_with fail
 refine(C2.af _ C5.af).mono ?_;rintro e w2 ⟨rfl,G7⟩;have vH:=hQ (C5.af.trans G7);clear G7;go_wp2;go_ret;exact⟨rfl,vH.af⟩
end Go.Proofs.YtiegeadmgpanoaaGreatDoor.D2
namespace Go.Proofs.YtiegeadmgpanoaaGreatDoor.D2
open ChangeShapes WideShapes ChangeAt RowKit Sl fB Go.Shelf L3 Z3 E4 X5 M8 Y8 D9 X6
attribute [local go_sem] Oper.semAt_some
theorem AA {h:Hp}{a:Option Addr}{c:Nat}{zs:List fY}(hp:gj h 2 (.slice a zs.length c) zs.length (zs.flatMap il)){i:Nat}(hi:i<zs.length):
 ∃b off,a=some ⟨b,off,none⟩∧∀w,h.le w→w.cell? ⟨b,off+i*2,none⟩=some zs[i].1.1∧w.cell? ⟨b,off+i*2+1,none⟩=some zs[i].1.2:=by
 obtain⟨hlen,a',c',e,h1,h2,hc⟩:=hp;cases e;obtain⟨b,off,ea,hcell⟩:=hc (by omega);refine⟨b,off,ea,fun w hw=> ?_⟩
 have at':∀j,j<2→∀v,(il zs[i])[j]? =some v→w.cell? ⟨b,off+i*2+j,none⟩=some v:=by
  intro j hj v hv;have h3:=hcell (i*2+j) (by omega);have h4:=nL il 2 (fun _=>rfl) zs i j hi hj;rw [hv] at h4;rw [cN];exact Hp.kG hw (h3.trans h4)
 exact⟨at' 0 (by omega) _ rfl,at' 1 (by omega) _ rfl⟩
theorem J9(r:Nat)(s:ef)(gs:List dR)(hush:iJ)(x0:RX)(BJ:yk s gs x0)(look:Int→Option dR)(hl:kT s gs look)(j6:iT look)(root dT items:Int)(L:List en)(hT:kK look root dT items L)(rv:Value)(rr:fw)(hr:Hp)(uw:gJ hr rv rr)(F:Pr)(w:World)(hF:dS [eE r s gs hush x0,Pr.own hr,F] w):
 Calls Tryz.prog 32 #[.pointer (some ⟨r,0,none⟩),pJ root dT items,rv] w fun e w'=>dN w w'∧∃o zs,e= .returned (.tuple #[o,.int .i64 0])∧zs.map (·.2)=(L.filter fun x=>iV rr x.key).map (jy look)∧dS [eN o zs,big d_ zs,eE r s gs hush x0,Pr.own hr,F] w':=by
 obtain⟨lo,hi,rfl,hlo,mK⟩:=id uw;obtain⟨al,cl,el,_⟩:=eL hlo;obtain⟨ah,ch,eh,_⟩:=eL mK;have HRI:=hQ uw;have hs0:=hF.alloc (eT root dT items);have hs1:=hs0.alloc (dO lo hi rr.op);rw [show (w.alloc (eT root dT items)).heap.size=w.heap.size+1 by simp] at hs1;have ig:=hQ hs1;have eR:=hQ (((dN.refl w).alloc (eT root dT items)).alloc (dO lo hi rr.op))
 have HT:=hQ (And.intro hT (And.intro hl (And.intro j6 BJ)));clear hF hs0 hs1 uw hlo mK hT hl j6 BJ;subst el eh;go_enter Tryz.func32,Tryz.ntmps32
 go_upto_region 1 with fail
 have U1:=ig.af;have U2:=eR.af;clear ig eR;generalize (w.alloc (eT root dT items)).alloc (dO (.slice al rr.lo.length cl) (.slice ah rr.hi.length ch) rr.op)=w0 at*;generalize w.heap.size+1=RB at*;generalize w.heap.size=TB at*
 have AL:=hQ (ML r s gs hush x0 HT.af.2.2.2 look HT.af.2.1 HT.af.2.2.1 root dT items L HT.af.1 _ _ (dS.Ii (U1.ej (A1:=eE r s gs hush x0))));have eR:=hQ U2;have c1:=U1.fx;clear U1 U2;go_wp2_with fail
 refine AL.af.mono ?_;rintro e w1 ⟨fN,ov,zs,rfl,hzs,hs1⟩;have hs2:=hs1.flat;obtain⟨ao,co,rfl⟩:=Row.shape (hs2.ej (A1:=eN ov zs));obtain⟨hz,hrow,fP⟩:=hs2.arena (eN (.slice ao zs.length co) zs);have hzl:zs.length=L.length:=by have:=congrArg List.length hzs;simpa using this
 have aae:(zs.length:Int)≤68719476736:=by have:=vn HT.af.2.2.1 HT.af.1;omega
 have HZ:=hQ (And.intro (Row.jh hrow) (And.intro hzs hzl));have j8:=hQ (fP.to (M:= [big d_ zs,Pr.own hz,eE r s gs hush x0,Pr.own hr,Pr.pts TB (eT root dT items),Pr.pts RB (dO (.slice al rr.lo.length cl) (.slice ah rr.hi.length ch) rr.op),F]));have eQ:=hQ (eR.af.trans fN);obtain⟨i0,lk,hz0,hz1,jg⟩:=info_parts uC;clear hs1 hs2 fP hrow hzs hzl fN AL eR c1
 go_wp2_with fail
 go_loopg [9,10] zs.length (fun k o i wr=> ∃(q:Nat) (os:List fY),q+k=zs.length∧i= .int .i64 q∧Hid (os.map (·.2)=((L.take q).filter fun x=>iV rr x.key).map (jy look))∧Hid (os.length≤q)∧dN w wr∧dS [eN o os,big d_ os,big d_ (zs.drop q),Pr.own hz,eE r s gs hush x0,Pr.own hr,Pr.pts TB (eT root dT items),Pr.pts RB (dO (.slice al rr.lo.length cl) (.slice ah rr.hi.length ch) rr.op),F] wr)
 case atStart=>
  refine⟨0,[],Nat.zero_add _,rfl,hQ rfl,hQ (aD _),eQ.af,?_⟩;have h1:=(j8.af.emp).nothing d_;rw [← Row.nil 49 2] at h1;exact h1.to (M:= [Row 49 2 (.slice none 0 0) 0 [],big d_ [],big d_ zs,Pr.own hz,eE r s gs hush x0,Pr.own hr,Pr.pts TB (eT root dT items),Pr.pts RB (dO (.slice al rr.lo.length cl) (.slice ah rr.hi.length ch) rr.op),F])
 case round=>
  obtain⟨q,os,hqk,rfl,hos,Sp,hst,hs⟩:=hrel;rename World=>wr
  clear j8 eQ;obtain⟨oa,oc,rfl⟩:=Row.shape (hs.ej (A1:=eN u9 os));rcases aB q zs.length with hlt | hge
  · obtain⟨k0,qn⟩:∃k0,k0+1=gk:=⟨gk-1,by omega⟩
    have oZ:q<L.length:=by have:=HZ.af.2.2;omega
    have Ss:(q:Int)<(zs.length:Int):=by omega
    obtain⟨b,off,rfl,hc⟩:=AA HZ.af.1 hlt;have hzz:=UQ look HZ.af.2.1 hlt oZ;have aaM:=(Az HT.af.1 _ (aE oZ)).2;have Ox:zs.drop q=zs[q] :: zs.drop (q+1):=aQ hlt
    have P7:(L.take (q+1)).filter (fun x=>iV rr x.key)=(L.take q).filter (fun x=>iV rr x.key)++ [L[q]].filter (fun x=>iV rr x.key):=by rw [aF oZ,cG]
    rw [Ox] at hs;have fp:=hs.sE d_ zs[q] (zs.drop (q+1));generalize zs[q]=z at*;obtain⟨⟨y1,y2⟩,z2⟩:=z;dsimp only at hzz hc;subst hzz;have hsh:dS [dM y1 L[q].key,dM y2 (nq look L[q])] wr:=⟨((fp.ER (A1:=d_ ((y1,y2),(L[q].key,nq look L[q])))).perm (B:=(dM y1 L[q].key).star ((dM y2 (nq look L[q])).star Pr.emp)) (by rw [Pr.ei];rfl))⟩
    obtain⟨ak,ck,rfl⟩:=Row.shape (hsh.ej (A1:=dM y1 L[q].key));obtain⟨av,cv,rfl⟩:=Row.shape (hsh.ej (A1:=dM y2 (nq look L[q])));generalize L[q]=X at*;obtain⟨d0,d1⟩:=hc wr fp.le;have zb:=ay _ _ d0;simp only at zb;have c1:=fp.fx
    obtain⟨ax,hax,ny⟩:=(fp.jk (Pr.own hr) (d_ ((.slice ak X.key.length ck,.slice av (nq look X).length cv),(X.key,nq look X)))).arena ((Pr.own hr).star (d_ ((.slice ak X.key.length ck,.slice av (nq look X).length cv),(X.key,nq look X))));have O6:=hQ hax;obtain⟨x1,x2,hx1,hx2,s1,s2⟩:=fF hax
    obtain⟨x3,x4,GV,Yr,s3,s4⟩:=fF (show ((dM (.slice ak X.key.length ck) X.key).star (dM (.slice av (nq look X).length cv) (nq look X))) x2 from hx2);have hsub:hr.sub ax:=by have e:x1=hr:=hx1;rw [← e];exact s1
    have HA:=hQ (Dz ax _ _ rr X.key (HRI.af.sub hsub) (((Row.jh GV).sub s3).sub s2) (by omega) wr.drew ny.drew.le);have O':=hQ ny;have fa:=hQ hst;have HC:=hQ hc;have Kj:=hQ P7;have aaN:(os.length:Int)≤68719476736:=by have:=Sp.af;omega
    clear hs fp hsh ny hax hx1 hx2 s1 s2 GV Yr s3 s4 hsub hst hc Ox P7;obtain⟨B1,RZ⟩:∃B,iV rr X.key=B:=⟨_,rfl⟩;have HB1:=hQ RZ;rw [RZ] at HA;clear RZ;go_wp2_with fail
    refine wS 35 [0,1,2,3,4,5] [(6,[],[1,2,3,4])] ?_;refine dY _ rfl rfl ?_;simp only [pick,pQ];iterate 6 (go_big_quiet_step (fail))
    refine wpQuiet_nil ?_;refine dK rfl ?_;go_wp2_with fail
    refine HA.af.mono ?_;rintro e w3 ⟨rfl,wR⟩;have gu:dS _ w3:=(⟨O'.af.drew.sat.only wR⟩:dS _ w3).back ((Pr.own hr).star (d_ ((.slice ak X.key.length ck,.slice av (nq look X).length cv),(X.key,nq look X)))) O6.af;have gQ:=gu.norm;have gg:=hQ (fa.af.drew.trans wR.st);clear c1 d0 d1 zb;obtain⟨d0,d1⟩:=HC.af w3 gQ.le;have zb:=ay _ _ d0
    simp only at zb;have c1:=gQ.fx
    have mY:=hQ (gQ.to (M:= [eN (.slice oa os.length oc) os,big d_ os,d_ ((.slice ak X.key.length ck,.slice av (nq look X).length cv),(X.key,nq look X)),big d_ (zs.drop (q+1)),Pr.own hz,eE r s gs hush x0,Pr.own hr,Pr.pts TB (eT root dT items),Pr.pts RB (dO (.slice al rr.lo.length cl) (.slice ah rr.hi.length ch) rr.op),F]));clear gu gQ wR HA O' fa
    go_wp2;refine dQ ?_;refine dU ⟨?_,?_⟩
    · exact cQ
    refine dW ?_;cases B1 with
    | false=>
      go_wp2;go_roundg k0
      case measure=>omega
      case rel=>
       refine⟨q+1,os,by omega,congrArg (Value.int .i64) (by omega),hQ ?_,hQ (by have:=Sp.af;omega),gg.af,mY.af.to⟩;rw [Kj.af,hos.af,dt (by rw [HB1.af];simp),List.filter_nil,aV]
    | true=>
      generalize hVL:(nq look X).length=nv at*;generalize hKL:X.key.length=nk at*;have HKV:=hQ (And.intro hKL hVL);clear hKL hVL;have hal:=mY.af.alloc (.cells [Value.slice ak nk ck,.slice av nv cv].toArray 49);have A1:=hQ (hal.ej (A1:=eN (.slice oa os.length oc) os));have hnew:=hQ (eW w3 [.slice ak nk ck,.slice av nv cv] 49 _ rfl)
      have ij:=hQ (gg.af.alloc (.cells [Value.slice ak nk ck,.slice av nv cv].toArray 49));clear hal
      go_wp2_with (first
       | (at_builtin
          refine eu rfl _ _ _ rfl 49 i0 _ 2 48 Tryz.underlying60 lk hz0 hz1 jg rfl _ _ _ rfl A1.af ⟨w3.heap.size,0,none⟩ 1 1 [.slice ak nk ck,.slice av nv cv] rfl rfl hnew.af (by simp [Value.oneCell']) (by simp only [maxLen];omega) (by omega) ?_
          intro v7 w7 gZ lC _
          obtain⟨a7,c7,e7,_,_⟩:=Row.read gZ
          subst e7
          have rQ:=hQ (dS.kS gZ)
          have iN:=hQ (ij.af.eH lC)
          clear gZ lC A1 hnew ij))
      go_roundg k0
      case measure=>omega
      case rel=>
       have h8:=rQ.af.snoc d_ os ((.slice ak nk ck,.slice av nv cv),(X.key,nq look X))
       have h9:=h8.to (M:= [Row 49 2 (.slice a7 (os.length+1) c7) (os.length+1) (os.flatMap il++ [.slice ak nk ck,.slice av nv cv]),big d_ (os++ [((.slice ak nk ck,.slice av nv cv),(X.key,nq look X))]),big d_ (zs.drop (q+1)),Pr.own hz,eE r s gs hush x0,Pr.own hr,Pr.pts TB (eT root dT items),Pr.pts RB (dO (.slice al rr.lo.length cl) (.slice ah rr.hi.length ch) rr.op),F])
       refine⟨q+1,os++ [((.slice ak nk ck,.slice av nv cv),(X.key,nq look X))],by omega,congrArg (Value.int .i64) (by omega),hQ ?_,hQ (by rw [au];have:=Sp.af;simp only [List.length_singleton];omega),iN.af,⟨h9.sat.perm ?_⟩⟩
       · rw [Kj.af,aI,hos.af,du (by exact HB1.af),List.filter_nil,aI]
         rfl
       · simp only [eN,au,List.length_singleton,aN,aX,cV,aV]
         rfl
  · have Ss:¬(q:Int)<(zs.length:Int):=by omega
    have HE:=hQ (hs.to (M:= [eN (.slice oa os.length oc) os,big d_ os,eE r s gs hush x0,Pr.own hr,F]));have QV:=hQ hst;have HOS:=hQ (show os.map (·.2)=(L.filter fun x=>iV rr x.key).map (jy look) from by rw [hos.af,bS (by have:=HZ.af.2.2;omega)]);clear hs hst;go_wp2;go_ret2;exact⟨QV.af,.slice oa os.length oc,rfl,os,HOS.af,HE.af⟩
end Go.Proofs.YtiegeadmgpanoaaGreatDoor.D2
namespace Go.Proofs.YtiegeadmgpanoaaGreatDoor.D2
open ChangeShapes WideShapes ChangeAt RowKit Sl fB Go.Shelf Z3 E4
attribute [local go_sem] Oper.semAt_some
theorem B6(ha hb:Hp)(va vb:Value)(xs ys:List fY)(h1:jm ha va xs)(h2:jm hb vb ys)(he:xs.map (·.2)=ys.map (·.2))(hl:xs.length≤68719476736)(hn:∀x∈xs,x.2.1.length≤65536∧x.2.2.length≤65536)(w:World)(l1:ha.le w)(l2:hb.le w):
 Calls Tryz.prog 33 #[va,vb] w fun e w'=>e= .returned (.bool true)∧eV w w':=by
 have NR:ys.length=xs.length:=by have:=congrArg List.length he;simpa using this.symm
 obtain⟨a,ca,rfl,_,_,rda⟩:=pK h1;obtain⟨b,cb,rfl,_,_,rdb⟩:=pK h2;rw [NR];have hli:(xs.length:Int)≤68719476736:=by omega
 have RDA:=hQ rda;have RDB:=hQ rdb;have HH:=hQ (And.intro h1.2 (And.intro h2.2 (And.intro l1 (And.intro l2 (And.intro he (And.intro hn NR))))));have hne:((xs.length:Int) != (xs.length:Int))=false:=by simp
 clear rda rdb h1 h2 he hn l1 l2 NR;go_enter Tryz.func33,Tryz.ntmps33
 go_wp2;go_loopg [5] (xs.length) (fun k i wr=> ∃q:Nat,q+k=xs.length∧i= .int .i64 q∧eV w wr)
 case atStart=>exact⟨0,Nat.zero_add _,rfl,eV.refl _⟩
 case round=>
  obtain⟨q,hqk,rfl,ho⟩:=hrel;rename World=>wr
  rcases aB q xs.length with hlt | hge
  · obtain⟨k0,qn⟩:∃k0,k0+1=gk:=⟨gk-1,by omega⟩
    have oZ:q<ys.length:=by have:=HH.af.2.2.2.2.2.2;omega
    obtain⟨b1,o1,k1,n1,k2,n2,rfl,e1,e2,c1⟩:=RDA.af q hlt;obtain⟨b2,o2,k3,n3,k4,n4,rfl,e3,e4,c2⟩:=RDB.af q oZ;obtain⟨p1,p2⟩:=HH.af.1 _ (aE hlt);obtain⟨p3,p4⟩:=HH.af.2.1 _ (aE oZ);obtain⟨m1,m2⟩:=HH.af.2.2.2.2.2.1 _ (aE hlt)
    have ee:xs[q].2=ys[q].2:=by
     have h3:(xs.map (·.2))[q]? =(ys.map (·.2))[q]? :=by rw [HH.af.2.2.2.2.1]
     rw [aO,aO,ag hlt,ag oZ] at h3;exact Option.some.inj h3
    rw [e1] at p1;rw [e2] at p2;rw [e3, ← ee] at p3;rw [e4, ← ee] at p4;rw [← ee] at c2;obtain⟨d0,d1⟩:=c1 wr (HH.af.2.2.1.only ho);obtain⟨d2,d3⟩:=c2 wr (HH.af.2.2.2.1.only ho);have z1:=ay _ _ d0;have z2:=ay _ _ d2;simp only at z1 z2;have Ss:(q:Int)<(xs.length:Int):=by omega
    have EP:=hQ (Ej ha hb _ _ _ _ xs[q].2.1 xs[q].2.2 p1 p2 p3 p4 (by omega) (by omega) wr.drew (HH.af.2.2.1.only (ho.trans (eV.refl wr).drew)) (HH.af.2.2.2.1.only (ho.trans (eV.refl wr).drew)));have Sf:=hQ (And.intro c1 c2);have HO:=hQ ho;clear e1 e2 e3 e4 p1 p2 p3 p4 m1 m2 ee ho oZ c1 c2;generalize xs[q].2.1.length=u1 at*;generalize xs[q].2.2.length=u2 at*
    generalize xs[q].2.1=U1 at*;generalize xs[q].2.2=U2 at*;go_wp2_with fail
    refine wS 27 [0,1,2,3,4,5,6,7] [(8,[9],[0,1,2,4,5,6])] ?_;refine dY _ rfl rfl ?_;simp only [pick,pQ];iterate 8 (go_big_quiet_step (fail))
    refine wpQuiet_nil ?_;refine dK rfl ?_;go_wp2_with fail
    refine EP.af.mono ?_;rintro e w3 ⟨rfl,wR⟩;have wm:=hQ (HO.af.trans ((eV.refl wr).drew.trans wR));clear d0 d1 d2 d3 z1 z2;obtain⟨d0,d1⟩:=Sf.af.1 w3 (HH.af.2.2.1.only wm.af);obtain⟨d2,d3⟩:=Sf.af.2 w3 (HH.af.2.2.2.1.only wm.af);have z1:=ay _ _ d0;have z2:=ay _ _ d2;simp only at z1 z2;clear wR EP HO;go_wp2;refine dQ ?_
    refine dY _ rfl rfl ?_;simp only [pick,pQ];iterate 1 (go_big_quiet_step (fail))
    refine wpQuiet_nil ⟨?_,?_⟩
    · exact cQ
    refine dW ?_;go_wp2;go_roundg k0
    case measure=>omega
    case rel=>exact⟨q+1,by omega,congrArg (Value.int .i64) (by omega),wm.af⟩
  · have Ss:¬(q:Int)<(xs.length:Int):=by omega
    have HO:=hQ ho;clear ho;go_wp2;go_ret;exact⟨rfl,HO.af⟩
end Go.Proofs.YtiegeadmgpanoaaGreatDoor.D2
namespace Go.fB
theorem yG {look:Int→Option dR}{N:Nat}:∀(k:Nat) (out:List Int) (n:Int),out.length≤N→(iz look N k out n).1.length≤N
 | 0,out,n,h=>h
 | k+1,out,n,h=>by
   unfold iz;split
   · exact h
   · cases look n with
     | none=>exact aG _
     | some g=>
       dsimp only;split
       · exact aG _
       · split
         · rename_i h1 _ h2
           refine yG k _ _ ?_;rw [au];have:=h2.1
           omega
         · exact aG _
theorem Al(look:Int→Option dR)(size child:Int)(value:List Int):(iI look size child value).1.length≤3840:=by
 unfold iI;by_cases hb:size<0∨3840<size∨(size≤32∧(value.length:Int)≠size)
 · rw [if_pos hb];exact aG _
 · rw [if_neg hb]
   by_cases Hj:size≤32
   · rw [if_pos Hj];show value.length≤3840;omega
   · rw [if_neg Hj]
     have:=yG (look:=look) (N:=size.toNat) size.toNat [] child (aG _)
     omega
end Go.fB
