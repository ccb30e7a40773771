/- What the law of WalkLists keeps: ranges handed in, walks handed out; the conditions stand as hypotheses. -/
import Derived.Test.YtiegeadmgpanoaaGreatDoorL45
import Derived.Test.YtiegeadmgpanoaaGreatDoorL46
import Derived.Test.YtiegeadmgpanoaaGreatDoorL44
import Derived.Test.YtiegeadmgpanoaaGreatDoorL43
set_option maxRecDepth 100000
set_option maxHeartbeats 16000000
namespace Go.Proofs.YtiegeadmgpanoaaGreatDoor.D2
open ChangeShapes WideShapes ChangeAt RowKit Sl fB Go.Shelf Deep Z3 E4 V5 Q8 X5
abbrev Es:=(Value × Value) × fw
def rX(x:Es):List Value:= [x.1.1,x.1.2,.bool x.2.op]
def yH(h:Hp)(v:Value)(l:List Es):Prop:=gj h 3 v l.length (l.flatMap rX)∧∀x∈l,Bytes h x.1.1 x.2.lo∧Bytes h x.1.2 x.2.hi
theorem J_ {h:Hp}{v:Value}{l:List Es}(hp:yH h v l):∃a c,v= .slice a l.length c∧l.length≤c∧c≤maxLen∧∀i (_:i<l.length),∃b off k1 n1 k2 n2,a=some ⟨b,off,none⟩∧
 l[i].1.1= .slice k1 l[i].2.lo.length n1∧l[i].1.2= .slice k2 l[i].2.hi.length n2∧∀w,h.le w→w.cell? ⟨b,off+i*3,none⟩=some (.slice k1 l[i].2.lo.length n1)∧w.cell? ⟨b,off+i*3+1,none⟩=some (.slice k2 l[i].2.hi.length n2)∧w.cell? ⟨b,off+i*3+2,none⟩=some (.bool l[i].2.op):=by
 obtain⟨⟨hlen,a,c,e,h1,h2,hc⟩,hb⟩:=hp;refine⟨a,c,e,h1,h2,fun i hi=> ?_⟩;obtain⟨b,off,ea,hcell⟩:=hc (by omega);obtain⟨p1,p2⟩:=hb l[i] (aE hi);obtain⟨k1,n1,e1⟩:=eB p1;obtain⟨k2,n2,e2⟩:=eB p2;refine⟨b,off,k1,n1,k2,n2,ea,e1,e2,fun w hw=> ?_⟩
 have at':∀j,j<3→∀v,(rX l[i])[j]? =some v→w.cell? ⟨b,off+i*3+j,none⟩=some v:=by
  intro j hj v hv;have h3:=hcell (i*3+j) (by omega);have h4:=nL rX 3 (fun _=>rfl) l i j hi hj;rw [hv] at h4;rw [cN];exact Hp.kG hw (h3.trans h4)
 have q0:=at' 0 (by omega) _ rfl;have q1:=at' 1 (by omega) _ rfl;have q2:=at' 2 (by omega) _ rfl;rw [e1] at q0;rw [e2] at q1;exact⟨q0,q1,q2⟩
structure nu where
 tb:Nat
 sb:Nat
 pv:Value
 a:Hp
 zs:List fY
def gi(x:nu):Value:= .func (.func 95) #[] #[.pointer (some ⟨x.tb,0,none⟩)]
def ic(x:nu):Pr:=gR x.tb x.sb 99 x.pv x.a
def iq(x:nu):Pr:=gR x.tb x.sb 97 x.pv x.a
def gU(x:Value × List fY):Pr:=(eN x.1 x.2).star (big d_ x.2)
def vW(look:Int→Option dR)(L:List en)(x:Es):List (List Int × List Int):=(L.filter fun y=>iV x.2 y.key).map (jy look)
structure rp(look:Int→Option dR)(L:List en)(rs:List Es)(S B:List nu)(Wn:List (Value × List fY)):Prop where
 s:S.map (fun x=>x.zs.map (·.2))=rs.map (vW look L)
 b:B.map (fun x=>x.zs.map (·.2))=rs.map (vW look L)
 w:Wn.map (fun x=>x.2.map (·.2))=rs.map (vW look L)
 si:∀x∈S,jm x.a x.pv x.zs
 bi:∀x∈B,jm x.a x.pv x.zs
theorem rp.nil(look:Int→Option dR)(L:List en):rp look L [] [] [] []:=⟨rfl,rfl,rfl,fun x hx=>(by cases hx),fun x hx=>(by cases hx)⟩
theorem rp.snoc {look:Int→Option dR}{L:List en}{rs:List Es}{S B:List nu}{Wn:List (Value × List fY)}(h:rp look L rs S B Wn){r:Es}{s b:nu}{y:Value × List fY}
 (h1:s.zs.map (·.2)=vW look L r) (h2:b.zs.map (·.2)=vW look L r) (h3:y.2.map (·.2)=vW look L r) (h4:jm s.a s.pv s.zs) (h5:jm b.a b.pv b.zs):rp look L (rs++ [r]) (S++ [s]) (B++ [b]) (Wn++ [y]):=by
 refine⟨?_,?_,?_,fun x hx=> ?_,fun x hx=> ?_⟩
 · rw [aI,aI,h.s];simp only [aT,aZ,h1]
 · rw [aI,aI,h.b];simp only [aT,aZ,h2]
 · rw [aI,aI,h.w];simp only [aT,aZ,h3]
 · rcases aK.1 hx with hx | hx
   · exact h.si x hx
   · rw [aC.1 hx];exact h4
 · rcases aK.1 hx with hx | hx
   · exact h.bi x hx
   · rw [aC.1 hx];exact h5
theorem rp.lens {look:Int→Option dR}{L:List en}{rs:List Es}{S B:List nu}{Wn:List (Value × List fY)}(h:rp look L rs S B Wn):S.length=rs.length∧B.length=rs.length∧Wn.length=rs.length:=by
 refine⟨?_,?_,?_⟩
 · simpa using congrArg List.length h.s
 · simpa using congrArg List.length h.b
 · simpa using congrArg List.length h.w
theorem B7 {α β γ:Type}{f:α→γ}{g:β→γ}{xs:List α}{ys:List β}(h:xs.map f=ys.map g){i:Nat}(h1:i<xs.length)(h2:i<ys.length):f xs[i]=g ys[i]:=by
 have h3:(xs.map f)[i]? =(ys.map g)[i]? :=by rw [h]
 rw [aO,aO,ag h1,ag h2] at h3;exact Option.some.inj h3
theorem kR {look:Int→Option dR}{root dT items:Int}{L:List en}(h:kK look root dT items L){zs:List fY}{r:Es}(hz:zs.map (·.2)=vW look L r):zs.length≤L.length∧∀x∈zs,x.2.1.length≤65536∧x.2.2.length≤65536:=by
 constructor
 · have h1:=congrArg List.length hz
   unfold vW at h1;simp only [aH] at h1;rw [h1];exact bX _ _
 · intro x hx
   have h1:x.2∈zs.map (·.2):=List.mem_map_of_mem hx;rw [hz] at h1;obtain⟨y,hy,e⟩:=bH.1 h1;rw [← e];have h2:=(Az h y (bm.1 hy).1).2;have h3:(nq look y).length≤3840:=Al _ _ _ _;exact⟨by show y.key.length≤ _;omega,by show (nq look y).length≤ _;omega⟩
section
variable {H:Type}{enc:TypeId × Value→H}
instance:Inhabited Es:=⟨((.slice none 0 0,.slice none 0 0),⟨[],[],false⟩)⟩
theorem Pb {W:World}{base n:Nat}{v:Value}{x:DataW H × List MemPlace}(h:DataW.trod enc Tryz.prog W base (fun _=>true) true n 4 [v]=some x):∃b,v= .bool b:=by
 cases n with
 | zero=>simp [DataW.trod] at h
 | succ n=>
   unfold DataW.trod at h;rw [Tryz.underlying4] at h;cases v with
   | bool b=>exact⟨b,rfl⟩
   | _=>simp at h
theorem M5 {W:World}{base n:Nat}{cs:List Value}{x:DataW H × List MemPlace}(h:DataW.trod enc Tryz.prog W base (fun _=>true) true n 64 cs=some x):
 ∃y:Es,cs=rX y∧(Bytes (ik W) y.1.1 y.2.lo∧Bytes (ik W) y.1.2 y.2.hi)∧wT y.2∧(Small x.1 64→y.2.lo.length≤reachBytes∧y.2.hi.length≤reachBytes):=by
 obtain⟨xs,m,rfl,rfl,hl,hlen,hf⟩:=DataW.trod_struct Tryz.underlying64 h;rw [rj] at hl;match cs,hl with
 | [c0,c1,c2],_=>
   match xs,hlen with
   | [x0,x1,x2],_=>
     have f0:=hf 0 _ rfl;have f1:=hf 1 _ rfl;have f2:=hf 2 _ rfl;simp only [List.getElem?_cons_zero,List.getElem?_cons_succ] at f0 f1 f2;obtain⟨K,hk,uk,sk⟩:=qY f0;obtain⟨V,hv,uv,sv⟩:=qY f1;obtain⟨b,rfl⟩:=Pb f2;refine⟨((c0,c1),⟨K,V,b⟩),rfl,⟨hk,hv⟩,⟨uk,uv⟩,fun hw=>⟨sk fun m hm=>hw m ?_,sv fun m hm=>hw m ?_⟩⟩
     · simp only [DataW.weights,Tryz.underlying64,aT,aZ,DataW.weightsEach,aK]
       exact .inl hm
     · simp only [DataW.weights,Tryz.underlying64,aT,aZ,DataW.weightsEach,aK]
       exact .inr (.inl hm)
theorem J' {W:World}{base:Nat}{v:Value}{d:DataW H}{p:List MemPlace}(hval:Value.okWide Tryz.prog W .any base 72 v)(h:DataW.Trod enc Tryz.prog W 0 (fun _=>true) true 72 v d p):
 ∃l:List Es,yH (ik W) v l∧(∀x∈l,wT x.2)∧(Small d 72→∀x∈l,x.2.lo.length≤reachBytes∧x.2.hi.length≤reachBytes):=by
 obtain⟨a,len,cap,rfl⟩:=okWide_slice Tryz.underlying72 hval;obtain⟨n,hn⟩:=h;obtain⟨len,n',C,D,Pl,hC,hr,hs⟩:=wV Tryz.underlying72 rj (by omega) hn;obtain⟨Y,hY⟩:=choose_lt (α:=Es) (n:=len) (p:=fun i y=>C i=rX y∧(Bytes (ik W) y.1.1 y.2.lo∧Bytes (ik W) y.1.2 y.2.hi)∧wT y.2∧(Small (D i) 64→y.2.lo.length≤reachBytes∧y.2.hi.length≤reachBytes)) (fun i hi=>M5 (hC i hi).2)
 refine⟨(List.range len).map Y,⟨?_,?_⟩,?_,fun hw=> ?_⟩
 · have e1:(List.range len).flatMap C=((List.range len).map Y).flatMap rX:=by
    rw [List.flatMap_map];exact flatMap_congr_range fun i hi=>(hY i hi).1
   rw [← e1];simpa using hr
 · intro x hx
   obtain⟨i,hi,rfl⟩:=bH.1 hx;exact(hY i (aP.1 hi)).2.1
 · intro x hx
   obtain⟨i,hi,rfl⟩:=bH.1 hx;exact(hY i (aP.1 hi)).2.2.1
 · intro x hx
   obtain⟨i,hi,rfl⟩:=bH.1 hx;exact(hY i (aP.1 hi)).2.2.2 ((hs hw).2 i (aP.1 hi))
end
end Go.Proofs.YtiegeadmgpanoaaGreatDoor.D2
namespace Go.Proofs.YtiegeadmgpanoaaGreatDoor.D2
open ChangeShapes WideShapes ChangeAt RowKit Sl fB Go.Shelf Z3 E4
theorem H9(v:Nat)(u:eC)(rm:vS u)(G:Pr)(W:World)(h:dS [dZ v u,G] W):
 Calls Tryz.prog 38 #[.pointer (some ⟨v,0,none⟩),.agg #[.int .i64 3,.int .i64 0,.slice none 0 0,.slice (some ⟨W.heap.size,0,none⟩) 1 1,.int .i64 0]] (W.alloc (.cells #[.int .u8 1] 5)) fun e w'=>dN W w'∧∃n er:Int,e= .returned (.tuple #[.int .i64 n,.int .i64 er])∧
  ((er=12∧dS [dZ v u,G] w')∨(er=0∧1≤n∧n≤65536∧∃u':eC,vS u'∧u'.pool.many 1+1=u.pool.many 1∧dS [dZ v u',G] w')):=by
 have h1:=h.alloc (.cells #[.int .u8 1] 5);have h2:=h1.turn (Pr.pts W.heap.size (.cells #[.int .u8 1] 5)) (dM (.slice (some ⟨W.heap.size,0,none⟩) 1 1) [1]) (fe rfl (by simp [maxLen]));obtain⟨hp,NQ,h3⟩:=h2.arena (dM (.slice (some ⟨W.heap.size,0,none⟩) 1 1) [1])
 have hg:fV hp (.agg (fW (.slice none 0 0) (.slice (some ⟨W.heap.size,0,none⟩) 1 1) 0)) (nG [1] 0):=⟨_,_,rfl,⟨[],rfl,gj.nil _ _,fun i hx hl=>absurd hx (Nat.not_lt_zero i)⟩,Row.jh NQ⟩;refine(E4.nZ v u rm hp _ _ hg _ _ (h3.iQ (A1:=dZ v u) (A2:=Pr.own hp))).mono ?_;rintro e w' ⟨st,n,er,rfl,(⟨rfl,hs⟩ | ⟨rfl,g1,g2,u',r',m',hs⟩)⟩
 · exact⟨((dN.refl W).alloc _).trans st,n,12,rfl,.inl ⟨rfl,(dS.mH hs).to⟩⟩
 · exact⟨((dN.refl W).alloc _).trans st,n,0,rfl,.inr ⟨rfl,g1,g2,u',r',m',(dS.mH hs).to⟩⟩
theorem yI {look:Int→Option dR}{root dT items:Int}{L:List en}(hT:kK look root dT items L){rs:List Es}{S B:List nu}{Wn:List (Value × List fY)}(hk:rp look L rs S B Wn)(hL:L.length≤32768)(i:Nat)(h1:i<S.length)(h3:i<Wn.length)(k:Int)(F:Pr)(w:World)
 (hF:dS [big ic S,big gU Wn,F] w):
 Calls Tryz.prog 30 #[.func (.func 95) #[] #[.pointer (some ⟨S[i].tb,0,none⟩)],Wn[i].1,.bool false,.int .i64 k] w fun e w'=>e= .returned (.bool true)∧dN w w'∧dS [big ic S,big gU Wn,F] w':=by
 have hl:=hk.lens;have hr:i<rs.length:=by omega
 have z1:=B7 hk.s h1 hr;have z2:=B7 hk.w h3 hr;have p1:=hk.si _ (aE h1);obtain⟨q1,q2⟩:=kR hT z1;obtain⟨q3,q4⟩:=kR hT z2;have h4:=(hF.take ic S i h1).take gU Wn i h3;have h5:dS ((eN Wn[i].1 Wn[i].2).star (big d_ Wn[i].2) :: _) w:=h4;obtain⟨hw,UR,h6⟩:=h5.arena ((eN Wn[i].1 Wn[i].2).star (big d_ Wn[i].2))
 have IT:tm Tryz.prog 95 #[.pointer (some ⟨S[i].tb,0,none⟩)] E4.wo (E4.Sv (lQ false (Wn[i].2.map (·.2)))) (fun xs=>xs.length=(lQ false (Wn[i].2.map (·.2))).length) (fun xs=>xs.length≤(lQ false (Wn[i].2.map (·.2))).length) d_ (ic S[i]):=
  Ay S[i].tb S[i].sb S[i].pv S[i].a S[i].zs p1 (by omega) q2 (Wn[i].2.map (·.2)) (z1.trans z2.symm)
 refine(uF S[i].tb Wn[i].2 false (ic S[i]) IT hw _ (oJ UR) (by omega) q4 k _ w (dS.xp (h6.iQ (A1:=ic S[i]) (A2:=Pr.own hw)))).mono ?_;rintro e w' ⟨rfl,st,hs⟩;refine⟨rfl,st,?_⟩;have h7:=(hs.flat.back ((eN Wn[i].1 Wn[i].2).star (big d_ Wn[i].2)) UR);have h8:dS (gU Wn[i] :: _) w':=h7;have h9:=h8.give gU Wn i h3 Wn[i]
 have h10:=h9.give ic S i h1 S[i];rw [dD,dD] at h10;exact h10.to
theorem Gw {look:Int→Option dR}{root dT items:Int}{L:List en}(hT:kK look root dT items L){rs:List Es}{S B:List nu}{Wn:List (Value × List fY)}(hk:rp look L rs S B Wn)(hL:L.length≤32768)(i:Nat)(h1:i<B.length)(h3:i<Wn.length)(k:Int)(F:Pr)(w:World)
 (hF:dS [big iq B,big gU Wn,F] w):
 Calls Tryz.prog 30 #[.func (.func 95) #[] #[.pointer (some ⟨B[i].tb,0,none⟩)],Wn[i].1,.bool true,.int .i64 k] w fun e w'=>e= .returned (.bool true)∧dN w w'∧dS [big iq B,big gU Wn,F] w':=by
 have hl:=hk.lens;have hr:i<rs.length:=by omega
 have z1:=B7 hk.b h1 hr;have z2:=B7 hk.w h3 hr;have p1:=hk.bi _ (aE h1);obtain⟨q1,q2⟩:=kR hT z1;obtain⟨q3,q4⟩:=kR hT z2;have h4:=(hF.take iq B i h1).take gU Wn i h3;have h5:dS ((eN Wn[i].1 Wn[i].2).star (big d_ Wn[i].2) :: _) w:=h4;obtain⟨hw,UR,h6⟩:=h5.arena ((eN Wn[i].1 Wn[i].2).star (big d_ Wn[i].2))
 have IT:tm Tryz.prog 95 #[.pointer (some ⟨B[i].tb,0,none⟩)] E4.wo (E4.Sv (lQ true (Wn[i].2.map (·.2)))) (fun xs=>xs.length=(lQ true (Wn[i].2.map (·.2))).length) (fun xs=>xs.length≤(lQ true (Wn[i].2.map (·.2))).length) d_ (iq B[i]):=
  Ax B[i].tb B[i].sb B[i].pv B[i].a B[i].zs p1 (by omega) q2 (Wn[i].2.map (·.2)) (z1.trans z2.symm)
 refine(uF B[i].tb Wn[i].2 true (iq B[i]) IT hw _ (oJ UR) (by omega) q4 k _ w (dS.xp (h6.iQ (A1:=iq B[i]) (A2:=Pr.own hw)))).mono ?_;rintro e w' ⟨rfl,st,hs⟩;refine⟨rfl,st,?_⟩;have h7:=(hs.flat.back ((eN Wn[i].1 Wn[i].2).star (big d_ Wn[i].2)) UR);have h8:dS (gU Wn[i] :: _) w':=h7;have h9:=h8.give gU Wn i h3 Wn[i];have h10:=h9.give iq B i h1 B[i]
 rw [dD,dD] at h10;exact h10.to
end Go.Proofs.YtiegeadmgpanoaaGreatDoor.D2
