/- Kids of any page, the program's and the document's; the conditions stand as hypotheses. -/
import Derived.Test.YtiegeadmgpanoaaGreatDoorL23
import Derived.Test.YtiegeadmgpanoaaGreatDoorL22
set_option maxRecDepth 100000
set_option maxHeartbeats 16000000
namespace Go.fB
def qe(g:dR)(x:en):Bool:=(g.kind == 2) || ((g.kind == 1) && (x.child != 0))
def jI(g:dR)(k:Nat):List Int:=((g.items.take k).filter (qe g)).map (·.child)
def lF(g:dR):List Int:=jI g g.items.length++(if(g.kind == 3) && (g.next != 0) then [g.next] else [])
theorem zX {g:dR}{k:Nat}(hk:k<g.items.length)(h:qe g g.items[k]=true):jI g (k+1)=jI g k++ [g.items[k].child]:=by
 unfold jI;rw [aF hk,cG,aI];simp [h]
theorem Du {g:dR}{k:Nat}(hk:k<g.items.length)(h:qe g g.items[k]=false):jI g (k+1)=jI g k:=by
 unfold jI;rw [aF hk,cG,aI];simp [h]
theorem ve(g:dR)(k:Nat):(jI g k).length≤k:=by
 unfold jI;rw [aH];exact bK (bX _ _) (by rw [aW];omega)
theorem yf(g:dR):(lF g).length≤g.items.length+1:=by
 unfold lF;rw [au];have:=ve g g.items.length
 split<;>simp<;>omega
end Go.fB
namespace Go.Proofs.YtiegeadmgpanoaaGreatDoor.D2
open ChangeShapes WideShapes ChangeAt RowKit Sl fB L3 Z3 E4
theorem nX {v':Value}{l:List Int}{z:Int}{F:Pr}{w:World}(h:Sat ((Row 3 1 v' (l.length+1) (l.map (Value.int .i64)++ [.int .i64 z])).star F) w):Sat ((dX v' (l++ [z])).star F) w:=by
 unfold dX;rw [au,aI];exact h
theorem LJ(h:Hp)(v:Value)(g:dR)(hv:fV h v g)(hn:g.items.length≤65536)(F:Pr)(w:World)(hF:Sat ((Pr.own h).star F) w):
 Calls Tryz.prog 103 #[v] w fun e w'=> ∃v',e= .returned v'∧Sat ((dX v' (lF g)).star ((Pr.own h).star F)) w'∧dN w w':=by
 obtain⟨vi,vd,rfl,hi,hd⟩:=hv;obtain⟨ai,ci,rfl,_,rd⟩:=fL hi;obtain⟨ad,cd,rfl⟩:=eB hd;have h1:=hF.alloc (dV g.kind g.level (.slice ai g.items.length ci) (.slice ad g.data.length cd) g.next);have H1:=hQ h1;have RD:=hQ rd;have eR:=hQ ((dN.refl w).alloc (dV g.kind g.level (.slice ai g.items.length ci) (.slice ad g.data.length cd) g.next))
 have Oo:(g.items.length:Int)≤65536:=by omega
 obtain⟨i0,lk,hz0,hz1,jg⟩:=info_parts mA;clear hF h1 hi hd rd;go_enter Tryz.func103,Tryz.ntmps103
 go_wp2;go_loopw [3,9] (fun l i wr=> ∃k:Nat,k≤g.items.length∧i= .int .i64 k∧dN w wr∧Sat ((dX l (jI g k)).star ((Pr.pts w.heap.size (dV g.kind g.level (.slice ai g.items.length ci) (.slice ad g.data.length cd) g.next)).star ((Pr.own h).star F))) wr) (fun _ i _=>g.items.length-(intOf i).toNat)
 case atStart=>
  refine⟨0,aG _,rfl,eR.af,?_⟩;show Sat ((Row 3 1 (.slice none 0 0) 0 []).star _) _
  rw [Row.nil,Pr.fK];exact H1.af
 case round=>
  obtain⟨k,hk,rfl,hst,hs⟩:=hrel;clear H1 eR;obtain⟨al,cl,rfl,_,_⟩:=Row.read hs;obtain⟨p0,p1,p2,p3,p4,_,pz⟩:=lM hs.right;have hkl:=ve g k;rcases aB k g.items.length with hlt | hge
  · obtain⟨b,off,ak,ck,av,cv,rfl,hbk,qR,hc⟩:=RD.af k hlt
    obtain⟨c0,c1,c2,c3⟩:=hc wr hs.right.right.own;have z0:=ay _ _ c0;have ou:=hQ (fun h=>zX (g:=g) hlt h);have tQ:=hQ (fun h=>Du (g:=g) hlt h);have kH:qe g g.items[k]=((g.kind == 2) || ((g.kind == 1) && (g.items[k].child != 0))):=rfl
    have nM:=hQ (hst.alloc (eG (.slice ak g.items[k].key.length ck) (.slice av g.items[k].value.length cv) g.items[k].child g.items[k].size));have QG:=hQ ((hs.alloc (eG (.slice ak g.items[k].key.length ck) (.slice av g.items[k].value.length cv) g.items[k].child g.items[k].size)).right);rw [kH] at ou tQ;clear hs hst hc kH hbk qR;generalize g.items[k]=y at*
    have app:∀wx:World,Sat ((dX (.slice al (jI g k).length cl) (jI g k)).star ((Pr.pts w.heap.size (dV g.kind g.level (.slice (some ⟨b,off,none⟩) g.items.length ci) (.slice ad g.data.length cd) g.next)).star ((Pr.own h).star F))) wx→
     Sat ((Row 3 1 (.slice al (jI g k).length cl) (jI g k).length ((jI g k).map (Value.int .i64))).star ((Pr.pts w.heap.size (dV g.kind g.level (.slice (some ⟨b,off,none⟩) g.items.length ci) (.slice ad g.data.length cd) g.next)).star ((Pr.own h).star F))) (wx.alloc (.cells [.int .i64 y.child].toArray 3)):=fun wx hx=>(hx.alloc _).right
    have A1:=hQ (app _ QG.af);have hnew:=hQ (eW (wr.alloc (eG (.slice ak y.key.length ck) (.slice av y.value.length cv) y.child y.size)) [.int .i64 y.child] 3 (wr.heap.size+1) (by simp));clear app;by_cases hk2:g.kind=2
    · have hb2:(g.kind == 2)=true:=beq_iff_eq.2 hk2
      rw [hb2] at ou tQ;clear tQ hk2
      go_wp2_with (at_builtin;refine eu rfl _ _ _ rfl 3 i0 (.int .i64 0) 1 8 Tryz.underlying22 lk hz0 hz1 jg rfl _ _ _ rfl A1.af ⟨wr.heap.size+1,0,none⟩ 1 1 [.int .i64 y.child] rfl rfl hnew.af (by simp [Value.oneCell']) (by simp only [maxLen];omega) (by omega) ?_;intro v7 w4 fp mD _;obtain⟨Ke,Kf,xJ,_,_⟩:=Row.read fp;subst xJ;have lZ:=hQ fp;have qx:=hQ ((nM.af.alloc _).eH mD);clear fp mD)
      go_roundw
      case rel=>exact⟨k+1,by omega,congrArg (Value.int .i64) (by omega),qx.af,by rw [ou.af rfl];exact nX lZ.af⟩
      case measure=>simp [intOf];omega
    · have hb2:(g.kind == 2)=false:=beq_eq_false_iff_ne.2 hk2
      rw [hb2] at ou tQ;clear hk2;by_cases hk1:g.kind=1
      · have hb1:(g.kind == 1)=true:=beq_iff_eq.2 hk1
        rw [hb1] at ou tQ;clear hk1;by_cases hch:y.child=0
        · have yg:(y.child != 0)=false:=by rw [bne_eq_false_iff_eq];exact hch
          rw [yg] at tQ;clear ou hch A1;go_wp2;go_roundw
          case rel=>exact⟨k+1,by omega,congrArg (Value.int .i64) (by omega),nM.af,by rw [tQ.af rfl];exact QG.af⟩
          case measure=>simp [intOf];omega
        · have yg:(y.child != 0)=true:=by rw [bne_iff_ne];exact hch
          rw [yg] at ou;clear tQ hch
          go_wp2_with (at_builtin;refine eu rfl _ _ _ rfl 3 i0 (.int .i64 0) 1 8 Tryz.underlying22 lk hz0 hz1 jg rfl _ _ _ rfl A1.af ⟨wr.heap.size+1,0,none⟩ 1 1 [.int .i64 y.child] rfl rfl hnew.af (by simp [Value.oneCell']) (by simp only [maxLen];omega) (by omega) ?_;intro v7 w4 fp mD _;obtain⟨Ke,Kf,xJ,_,_⟩:=Row.read fp;subst xJ;have lZ:=hQ fp;have qx:=hQ ((nM.af.alloc _).eH mD);clear fp mD)
          go_roundw
          case rel=>exact⟨k+1,by omega,congrArg (Value.int .i64) (by omega),qx.af,by rw [ou.af rfl];exact nX lZ.af⟩
          case measure=>simp [intOf];omega
      · have hb1:(g.kind == 1)=false:=beq_eq_false_iff_ne.2 hk1
        rw [hb1] at ou tQ;clear hk1 ou A1;go_wp2;go_roundw
        case rel=>exact⟨k+1,by omega,congrArg (Value.int .i64) (by omega),nM.af,by rw [tQ.af rfl];exact QG.af⟩
        case measure=>simp [intOf];omega
  · have u_:k=g.items.length:=by omega
    subst u_;have Ou:lF g=jI g g.items.length++(if(g.kind == 3) && (g.next != 0) then [g.next] else []):=rfl;have HS:=hQ hs;have F6:=hQ Ou;clear hs Ou;by_cases hk3:g.kind=3
    · have yg:(g.kind == 3)=true:=beq_iff_eq.2 hk3
      rw [yg] at F6;by_cases hnx:g.next=0
      · have zu:(g.next != 0)=false:=by rw [bne_eq_false_iff_eq];exact hnx
        rw [zu] at F6;clear hnx hk3;go_wp2;go_ret;refine⟨_,rfl,?_,hst⟩;rw [F6.af,if_neg (by decide),aV];exact(HS.af.perm (Pr.eD _ _ _)).right
      · have zu:(g.next != 0)=true:=by rw [bne_iff_ne];exact hnx
        rw [zu] at F6
        have A1:=hQ (show Sat ((Row 3 1 (.slice al (jI g g.items.length).length cl) (jI g g.items.length).length ((jI g g.items.length).map (Value.int .i64))).star ((Pr.pts w.heap.size (dV g.kind g.level (.slice ai g.items.length ci) (.slice ad g.data.length cd) g.next)).star ((Pr.own h).star F))) (wr.alloc (.cells [.int .i64 g.next].toArray 3)) from(HS.af.alloc _).right)
        have hnew:=hQ (eW wr [.int .i64 g.next] 3 _ rfl);clear hnx hk3
        go_wp2_with (at_builtin;refine eu rfl _ _ _ rfl 3 i0 (.int .i64 0) 1 8 Tryz.underlying22 lk hz0 hz1 jg rfl _ _ _ rfl A1.af ⟨wr.heap.size,0,none⟩ 1 1 [.int .i64 g.next] rfl rfl hnew.af (by simp [Value.oneCell']) (by simp only [maxLen];omega) (by omega) ?_;intro v7 w4 fp mD _;obtain⟨Ke,Kf,xJ,_,_⟩:=Row.read fp;subst xJ;have lZ:=hQ fp;have qx:=hQ ((hst.alloc (.cells [.int .i64 g.next].toArray 3)).eH mD);clear fp mD)
        go_ret;refine⟨_,rfl,?_,qx.af⟩;rw [F6.af,if_pos (by decide)];exact((nX lZ.af).perm (Pr.eD _ _ _)).right
    · have yg:(g.kind == 3)=false:=beq_eq_false_iff_ne.2 hk3
      rw [yg] at F6;clear hk3;go_wp2;go_ret;refine⟨_,rfl,?_,hst⟩;rw [F6.af,if_neg (by simp),aV];exact(HS.af.perm (Pr.eD _ _ _)).right
end Go.Proofs.YtiegeadmgpanoaaGreatDoor.D2
namespace Go.fB
def Bv(cs:List Int)(n b:Int):List Int:=cs.set (n.toNat-1) (jH cs n+b)
inductive mJ (get : Int → dR) : List Int → List Int → Int → List Int → Prop where
  | nil (cs : List Int) : mJ get [] cs 0 cs
  | none (n : Int) (t cs : List Int) : jH cs n = 0 → mJ get (n :: t) cs 15 cs
  | more (n : Int) (t cs : List Int) (e : Int) (c : List Int) : jH cs n ≠ 0 → jH (Bv cs n (-1)) n ≠ 0 → mJ get t (Bv cs n (-1)) e c → mJ get (n :: t) cs e c
  | last (n : Int) (t cs : List Int) (e : Int) (c : List Int) : jH cs n ≠ 0 → jH (Bv cs n (-1)) n = 0 → mJ get (lF (get n) ++ t) (Bv cs n (-1)) e c → mJ get (n :: t) cs e c
theorem mJ.append {get:Int→dR}{l cs:List Int}{e:Int}{c:List Int}(h:mJ get l cs e c):∀ {t:List Int} {e2:Int} {c2:List Int},e=0→mJ get t c e2 c2→mJ get (l++t) cs e2 c2:=by
 induction h with
 | nil cs=>intro t e2 c2 _ h2;exact h2
 | none n t cs h0=>intro t' e2 c2 h;cases h
 | more n t cs e c h1 h2 h3 ih=>intro t' e2 c2 he g;exact .more _ _ _ _ _ h1 h2 (ih he g)
 | last n t cs e c h1 h2 h3 ih=>
   intro t' e2 c2 he g;have:=ih he g
   rw [bZ] at this;exact .last _ _ _ _ _ h1 h2 this
theorem mJ.fail {get:Int→dR}{l cs:List Int}{e:Int}{c:List Int}(h:mJ get l cs e c):∀ {t:List Int},e≠0→mJ get (l++t) cs e c:=by
 induction h with
 | nil cs=>intro t h;exact absurd rfl h
 | none n t cs h0=>intro t' _;exact .none _ _ _ h0
 | more n t cs e c h1 h2 h3 ih=>intro t' he;exact .more _ _ _ _ _ h1 h2 (ih he)
 | last n t cs e c h1 h2 h3 ih=>
   intro t' he;have:=ih (t:=t') he
   rw [bZ] at this;exact .last _ _ _ _ _ h1 h2 this
def nP(cs:List Int):Nat:=(cs.map Int.toNat).sum
theorem Ov(cs:List Nat):∀(i v:Nat) (hi:i<cs.length),(cs.set i v).sum+cs[i]=cs.sum+v:=by
 induction cs with
 | nil=>intro i v hi;simp at hi
 | cons x cs ih=>
   intro i v hi;cases i with
   | zero=>simp only [List.set_cons_zero,List.sum_cons,List.getElem_cons_zero];omega
   | succ i=>
     have:=ih i v (by simpa using hi)
     simp only [List.set_cons_succ,List.sum_cons,List.getElem_cons_succ];omega
theorem LM {cs:List Int}{n b:Int}(hn:1≤n∧n≤cs.length)(h0:0≤jH cs n)(h1:0≤jH cs n+b):(nP (Bv cs n b):Int)=nP cs+b:=by
 unfold nP Bv;rw [bN];have hi:n.toNat-1<(cs.map Int.toNat).length:=by rw [aH];omega
 have h:=Ov (cs.map Int.toNat) (n.toNat-1) (jH cs n+b).toNat hi;rw [bQ] at h
 have hc:cs[n.toNat-1]'(by omega)=jH cs n:=by
  unfold jH;rw [if_pos hn,az,ag (by omega)];rfl
 rw [hc] at h;omega
theorem zY:∀(N:Nat) (l:List Int),l.Nodup→(∀x∈l,1≤x∧x≤N)→l.length≤N
 | 0,l,_,h=>by
   cases l with
   | nil=>exact aD _
   | cons x l=>have:=h x (by simp);omega
 | N+1,l,hn,h=>by
   have h1:=zY N (l.erase ((N:Int)+1)) (hn.erase _) (fun x hx=>by
    have h2:=List.Nodup.mem_erase_iff hn |>.1 hx
    have h3:=h x h2.2
    have:x≠(N:Int)+1:=h2.1
    omega)
   have h4:=List.length_erase (a:=((N:Int)+1)) (l:=l);split at h4<;>omega
end Go.fB
namespace Go.Proofs.YtiegeadmgpanoaaGreatDoor.D2
open ChangeShapes WideShapes ChangeAt RowKit Sl fB L3 Z3 E4
theorem Ji(h:Hp)(v:Value)(g:dR)(hv:fV h v g)(hn:g.items.length≤65536)(F:Pr)(w:World)(hF:Sat ((Pr.own h).star F) w):
 Calls Tryz.prog 88 #[v] w fun e w'=> ∃v',e= .returned v'∧Sat ((dX v' (lF g)).star ((Pr.own h).star F)) w'∧dN w w':=by
 obtain⟨vi,vd,rfl,hi,hd⟩:=hv;obtain⟨ai,ci,rfl,_,rd⟩:=fL hi;obtain⟨ad,cd,rfl⟩:=eB hd;have h1:=hF.alloc (dV g.kind g.level (.slice ai g.items.length ci) (.slice ad g.data.length cd) g.next);have h2:=h1.alloc (.cells #[] 3);rw [show (w.alloc (dV g.kind g.level (.slice ai g.items.length ci) (.slice ad g.data.length cd) g.next)).heap.size=w.heap.size+1 by simp] at h2
 have h3:Sat ((dX (.slice (some ⟨w.heap.size+1,0,none⟩) 0 0) []).star ((Pr.pts w.heap.size (dV g.kind g.level (.slice ai g.items.length ci) (.slice ad g.data.length cd) g.next)).star ((Pr.own h).star F))) _:=
  Row.mk' (T:=3) (k:=1) (n:=0) (cap:=0) (xs:= []) (sp:= []) (by simp) (by simp) (aD _) (by simp) (by simpa using h2)
 have H1:=hQ h3;have RD:=hQ rd;have eR:=hQ (((dN.refl w).alloc (dV g.kind g.level (.slice ai g.items.length ci) (.slice ad g.data.length cd) g.next)).alloc (.cells #[] 3));have Oo:(g.items.length:Int)≤65536:=by omega
 obtain⟨i0,lk,hz0,hz1,jg⟩:=info_parts mA;clear hF h1 h2 h3 hi hd rd;go_enter Tryz.func88,Tryz.ntmps88
 go_wp2;go_loopw [3,4] (fun l i wr=> ∃k:Nat,k≤g.items.length∧i= .int .i64 k∧dN w wr∧Sat ((dX l (jI g k)).star ((Pr.pts w.heap.size (dV g.kind g.level (.slice ai g.items.length ci) (.slice ad g.data.length cd) g.next)).star ((Pr.own h).star F))) wr) (fun _ i _=>g.items.length-(intOf i).toNat)
 case atStart=>exact⟨0,aG _,rfl,eR.af,H1.af⟩
 case round=>
  obtain⟨k,hk,rfl,hst,hs⟩:=hrel;clear H1 eR;obtain⟨al,cl,rfl,_,_⟩:=Row.read hs;obtain⟨p0,p1,p2,p3,p4,_,pz⟩:=lM hs.right;have hkl:=ve g k;rcases aB k g.items.length with hlt | hge
  · obtain⟨b,off,ak,ck,av,cv,rfl,hbk,qR,hc⟩:=RD.af k hlt
    obtain⟨c0,c1,c2,c3⟩:=hc wr hs.right.right.own;have z0:=ay _ _ c0;have ou:=hQ (fun h=>zX (g:=g) hlt h);have tQ:=hQ (fun h=>Du (g:=g) hlt h);have kH:qe g g.items[k]=((g.kind == 2) || ((g.kind == 1) && (g.items[k].child != 0))):=rfl;have nM:=hQ hst;have QG:=hQ hs;rw [kH] at ou tQ;clear hs hst hc kH hbk qR;generalize g.items[k]=y at*
    have A1:=hQ (show Sat ((Row 3 1 (.slice al (jI g k).length cl) (jI g k).length ((jI g k).map (Value.int .i64))).star ((Pr.pts w.heap.size (dV g.kind g.level (.slice (some ⟨b,off,none⟩) g.items.length ci) (.slice ad g.data.length cd) g.next)).star ((Pr.own h).star F))) (wr.alloc (.cells [.int .i64 y.child].toArray 3)) from(QG.af.alloc _).right)
    have hnew:=hQ (eW wr [.int .i64 y.child] 3 _ rfl);by_cases hk2:g.kind=2
    · have hb2:(g.kind == 2)=true:=beq_iff_eq.2 hk2
      rw [hb2] at ou tQ;clear tQ hk2
      go_wp2_with (at_builtin;refine eu rfl _ _ _ rfl 3 i0 (.int .i64 0) 1 8 Tryz.underlying22 lk hz0 hz1 jg rfl _ _ _ rfl A1.af ⟨wr.heap.size,0,none⟩ 1 1 [.int .i64 y.child] rfl rfl hnew.af (by simp [Value.oneCell']) (by simp only [maxLen];omega) (by omega) ?_;intro v7 w4 fp mD _;obtain⟨Ke,Kf,xJ,_,_⟩:=Row.read fp;subst xJ;have lZ:=hQ fp;have qx:=hQ ((nM.af.alloc _).eH mD);clear fp mD)
      go_roundw
      case rel=>exact⟨k+1,by omega,congrArg (Value.int .i64) (by omega),qx.af,by rw [ou.af rfl];exact nX lZ.af⟩
      case measure=>simp [intOf];omega
    · have hb2:(g.kind == 2)=false:=beq_eq_false_iff_ne.2 hk2
      rw [hb2] at ou tQ;clear hk2;by_cases hk1:g.kind=1
      · have hb1:(g.kind == 1)=true:=beq_iff_eq.2 hk1
        rw [hb1] at ou tQ;clear hk1;by_cases hch:y.child=0
        · have yg:(y.child != 0)=false:=by rw [bne_eq_false_iff_eq];exact hch
          rw [yg] at tQ;clear ou hch A1;go_wp2;go_roundw
          case rel=>exact⟨k+1,by omega,congrArg (Value.int .i64) (by omega),nM.af,by rw [tQ.af rfl];exact QG.af⟩
          case measure=>simp [intOf];omega
        · have yg:(y.child != 0)=true:=by rw [bne_iff_ne];exact hch
          rw [yg] at ou;clear tQ hch
          go_wp2_with (at_builtin;refine eu rfl _ _ _ rfl 3 i0 (.int .i64 0) 1 8 Tryz.underlying22 lk hz0 hz1 jg rfl _ _ _ rfl A1.af ⟨wr.heap.size,0,none⟩ 1 1 [.int .i64 y.child] rfl rfl hnew.af (by simp [Value.oneCell']) (by simp only [maxLen];omega) (by omega) ?_;intro v7 w4 fp mD _;obtain⟨Ke,Kf,xJ,_,_⟩:=Row.read fp;subst xJ;have lZ:=hQ fp;have qx:=hQ ((nM.af.alloc _).eH mD);clear fp mD)
          go_roundw
          case rel=>exact⟨k+1,by omega,congrArg (Value.int .i64) (by omega),qx.af,by rw [ou.af rfl];exact nX lZ.af⟩
          case measure=>simp [intOf];omega
      · have hb1:(g.kind == 1)=false:=beq_eq_false_iff_ne.2 hk1
        rw [hb1] at ou tQ;clear hk1 ou A1;go_wp2;go_roundw
        case rel=>exact⟨k+1,by omega,congrArg (Value.int .i64) (by omega),nM.af,by rw [tQ.af rfl];exact QG.af⟩
        case measure=>simp [intOf];omega
  · have u_:k=g.items.length:=by omega
    subst u_;have Ou:lF g=jI g g.items.length++(if(g.kind == 3) && (g.next != 0) then [g.next] else []):=rfl;have HS:=hQ hs;have F6:=hQ Ou;clear hs Ou;by_cases hk3:g.kind=3
    · have yg:(g.kind == 3)=true:=beq_iff_eq.2 hk3
      rw [yg] at F6;by_cases hnx:g.next=0
      · have zu:(g.next != 0)=false:=by rw [bne_eq_false_iff_eq];exact hnx
        rw [zu] at F6;clear hnx hk3;go_wp2;go_ret;refine⟨_,rfl,?_,hst⟩;rw [F6.af,if_neg (by decide),aV];exact(HS.af.perm (Pr.eD _ _ _)).right
      · have zu:(g.next != 0)=true:=by rw [bne_iff_ne];exact hnx
        rw [zu] at F6
        have A1:=hQ (show Sat ((Row 3 1 (.slice al (jI g g.items.length).length cl) (jI g g.items.length).length ((jI g g.items.length).map (Value.int .i64))).star ((Pr.pts w.heap.size (dV g.kind g.level (.slice ai g.items.length ci) (.slice ad g.data.length cd) g.next)).star ((Pr.own h).star F))) (wr.alloc (.cells [.int .i64 g.next].toArray 3)) from(HS.af.alloc _).right)
        have hnew:=hQ (eW wr [.int .i64 g.next] 3 _ rfl);clear hnx hk3
        go_wp2_with (at_builtin;refine eu rfl _ _ _ rfl 3 i0 (.int .i64 0) 1 8 Tryz.underlying22 lk hz0 hz1 jg rfl _ _ _ rfl A1.af ⟨wr.heap.size,0,none⟩ 1 1 [.int .i64 g.next] rfl rfl hnew.af (by simp [Value.oneCell']) (by simp only [maxLen];omega) (by omega) ?_;intro v7 w4 fp mD _;obtain⟨Ke,Kf,xJ,_,_⟩:=Row.read fp;subst xJ;have lZ:=hQ fp;have qx:=hQ ((hst.alloc (.cells [.int .i64 g.next].toArray 3)).eH mD);clear fp mD)
        go_ret;refine⟨_,rfl,?_,qx.af⟩;rw [F6.af,if_pos (by decide)];exact((nX lZ.af).perm (Pr.eD _ _ _)).right
    · have yg:(g.kind == 3)=false:=beq_eq_false_iff_ne.2 hk3
      rw [yg] at F6;clear hk3;go_wp2;go_ret;refine⟨_,rfl,?_,hst⟩;rw [F6.af,if_neg (by simp),aV];exact(HS.af.perm (Pr.eD _ _ _)).right
end Go.Proofs.YtiegeadmgpanoaaGreatDoor.D2
namespace Go.fB
theorem nY(s:ef)(n:Int):s.count n=jH s.counts n:=by
 unfold ef.count jH ef.there;rfl
theorem qf(s:ef)(n b:Int):(s.did n b).counts=Bv s.counts n b:=by
 show s.counts.set (n.toNat-1) (s.count n+b)=_
 rw [nY];rfl
structure qu(s t:eC)(was:List (Int × Option dR)):Prop where
 mid:vE s t was
 on:t.on=fun m=>if t.pool.state m=1 then none else s.on m
 nd:(was.map Prod.fst).Nodup
 wz:∀y∈was,t.pool.there y.1∧t.pool.count y.1=0
 len:t.pool.counts.length=s.pool.counts.length
theorem qu.refl {s:eC}(hb:FQ s):qu s s []:=by
 refine⟨vE.refl s,?_,List.nodup_nil,fun y hy=>(by cases hy),rfl⟩;funext m
 by_cases h:s.pool.state m=1
 · rw [if_pos h];exact hb m h
 · rw [if_neg h]
theorem qu.Tw {s t:eC}{was:List (Int × Option dR)}(h:qu s t was){n:Int}(hn:t.pool.there n)(h0:t.pool.count n≠0):was.length<t.pool.counts.length:=by
 have h1:(n :: was.map Prod.fst).Nodup:=List.nodup_cons.2 ⟨fun hm=>by
  obtain⟨y,hy,rfl⟩:=bH.1 hm
  exact h0 (h.wz y hy).2,h.nd⟩
 have h2:=zY t.pool.counts.length _ h1 (fun x hx=>by
  rcases aR.1 hx with rfl | hx
  · exact hn
  · obtain⟨y,hy,rfl⟩:=bH.1 hx
    exact(h.wz y hy).1)
 simp only [List.length_cons,aH] at h2;omega
theorem qu.did {s t:eC}{was:List (Int × Option dR)}(h:qu s t was)(ok:hU t.pool){n:Int}(h0:t.pool.count n≠0)(h1:(t.pool.did n (-1)).state n≠1):qu s { t with pool:=t.pool.did n (-1) } was:=by
 have ht:=lg h0;have hb:=m_ ok n;refine⟨h.mid.did ht hb.1 hb.2 (by omega),?_,h.nd,fun y hy=> ?_,?_⟩
 · show t.on=_
   rw [h.on];funext m
   have hs:=rD (b:= -1) (m:=m) ht;show (if t.pool.state m=1 then _ else _)=(if(t.pool.did n (-1)).state m=1 then _ else _)
   by_cases hm:m=n
   · subst hm
     have h2:t.pool.state m≠1:=fun e=>h0 (jd ok e)
     rw [if_neg h2,if_neg h1]
   · rw [hs,if_neg hm]
 · have h2:=h.wz y hy
   have hc:=pn (b:= -1) (m:=y.1) ht;refine⟨uT.2 h2.1,?_⟩;show (t.pool.did n (-1)).count y.1=0
   rw [hc];by_cases hm:y.1=n
   · rw [hm] at h2;exact absurd h2.2 h0
   · rw [if_neg hm];exact h2.2
 · show (t.pool.counts.set _ _).length=_
   rw [aU];exact h.len
theorem qu.freed {s t:eC}{was:List (Int × Option dR)}(h:qu s t was)(ok:hU t.pool){n:Int}(h0:t.pool.count n≠0)(h1:(t.pool.did n (-1)).count n=0)(h2:(t.pool.did n (-1)).state n=1):
 qu s { t with pool:=t.pool.did n (-1),on:=fun m=>if m=n then none else t.on m } (was++ [(n,t.on n)]):=by
 have ht:=lg h0;have hb:=m_ ok n;have hw:=h.Tw ht h0;have rH:=ok.n2;have hnb:1≤n∧n≤65536:=⟨ht.1,by have:=ht.2;omega⟩;have XL:=(h.mid.did (n:=n) (b:= -1) ht hb.1 hb.2 (by omega)).set (n:=n) none hnb (by omega);refine⟨XL,?_,?_,fun y hy=> ?_,?_⟩
 · funext m
   have hs:=rD (b:= -1) (m:=m) ht;show (if m=n then none else t.on m)=(if(t.pool.did n (-1)).state m=1 then none else s.on m)
   by_cases hm:m=n
   · subst hm
     rw [if_pos rfl,if_pos h2]
   · rw [if_neg hm,hs,if_neg hm,h.on]
 · rw [aI,aT,aZ]
   refine List.nodup_append.2 ⟨h.nd,by simp,fun a ha b hb2=> ?_⟩;rw [aC] at hb2;subst hb2;obtain⟨y,hy,rfl⟩:=bH.1 ha;intro e;exact h0 (e ▸ (h.wz y hy).2)
 · have hc:=pn (b:= -1) (m:=y.1) ht
   rcases aK.1 hy with hy | hy
   · have h3:=h.wz y hy
     refine⟨uT.2 h3.1,?_⟩;show (t.pool.did n (-1)).count y.1=0
     rw [hc];by_cases hm:y.1=n
     · rw [hm] at h3;exact absurd h3.2 h0
     · rw [if_neg hm];exact h3.2
   · rw [aC] at hy
     subst hy;exact⟨uT.2 ht,h1⟩
 · show (t.pool.counts.set _ _).length=_
   rw [aU];exact h.len
def eC.get(s:eC)(n:Int):dR:=(s.on n).getD ⟨0,0,[],[],0⟩
structure zZ(s t:eC):Prop where
 acts:t.pool.floor+t.pool.acts.length+nP t.pool.counts≤s.pool.floor+s.pool.acts.length+nP s.pool.counts
 sum:nP t.pool.counts≤nP s.pool.counts
theorem zZ.refl(s:eC):zZ s s:=⟨aY _,aD _⟩
theorem zZ.trans {a b c:eC}(h:zZ a b)(k:zZ b c):zZ a c:=⟨Int.le_trans k.acts h.acts,bK k.sum h.sum⟩
theorem zZ.did {t:eC}(ok:hU t.pool){n:Int}(h0:t.pool.count n≠0)(on:Int→Option dR):zZ t { t with pool:=t.pool.did n (-1),on:=on }∧nP (t.pool.did n (-1)).counts<nP t.pool.counts:=by
 have ht:=lg h0;have hb:=m_ ok n;have hs:=LM (cs:=t.pool.counts) (n:=n) (b:= -1) ht (by rw [← nY];exact hb.1) (by rw [← nY];omega);rw [← qf] at hs;refine⟨⟨?_,?_⟩,by omega⟩
 · show t.pool.floor+((t.pool.acts++ [(n,(-1:Int))]).length:Nat)+(nP (t.pool.did n (-1)).counts:Nat)≤ _
   rw [au];simp only [List.length_singleton];omega
 · show nP (t.pool.did n (-1)).counts≤ _
   omega
end Go.fB
namespace Go.Proofs.YtiegeadmgpanoaaGreatDoor.D2
open ChangeShapes WideShapes ChangeAt RowKit Sl fB L3 Z3
theorem Dv {v:Nat}{s:eC}{ab:Nat}{mark:Int}{was:List (Int × Option dR)}{F:Pr}{w:World}(h:Sat ((td v s ab mark was).star F) w):hU s.pool:=by
 obtain⟨x,wv,ws,ok,oL,hF⟩:=j3.1 h
 have h1:Sat ((eP x.p s.pool).star ((Pr.pts v (.cells #[.pointer (some ⟨x.p,0,none⟩),.map (some x.mb),x.av,.int .i64 s.floor] 108)).star
  ((((fD Tryz.prog 3 x.mb x.f).star ((Row 169 2 x.av s.acts.length (eI x.kA)).star (Pr.own x.h)))).star (((Pr.pts ab (.cells #[.int .i64 mark,wv] 169)).star (Row 194 7 wv ws.length (ws.flatMap gI.cells))).star F)))) w:=hF.perm (by unfold kr fc;ac_rfl)
 exact(kM h1).1
theorem Ow(v:Nat)(s:eC)(ab:Nat)(mark:Int)(was:List (Int × Option dR))(n:Int)(hs:s.pool.state n≠1)(F:Pr)(w:World)(hF:Sat ((td v s ab mark was).star F) w):
 Calls Tryz.prog 104 #[.pointer (some ⟨v,0,none⟩),.pointer (some ⟨ab,0,none⟩),.int .i64 n] w fun e w'=>e= .returned (.tuple #[])∧w=w':=by
 obtain⟨x,wv,ws,ok,oL,hF⟩:=j3.1 hF
 have h1:Sat ((eP x.p s.pool).star ((Pr.pts v (.cells #[.pointer (some ⟨x.p,0,none⟩),.map (some x.mb),x.av,.int .i64 s.floor] 108)).star
  ((((fD Tryz.prog 3 x.mb x.f).star ((Row 169 2 x.av s.acts.length (eI x.kA)).star (Pr.own x.h)))).star (((Pr.pts ab (.cells #[.int .i64 mark,wv] 169)).star (Row 194 7 wv ws.length (ws.flatMap gI.cells))).star F)))) w:=hF.perm (by unfold kr fc;ac_rfl)
 have qv:w.cell? ⟨v,0,none⟩=some (.pointer (some ⟨x.p,0,none⟩)):=by rw [cell_of_heap h1.right.dL];rfl
 have HP:=hQ (x' x.p s.pool n _ w h1);have hb:(s.pool.state n == 1)=false:=beq_eq_false_iff_ne.2 hs;clear h1 hF hs;generalize s.pool.state n=sn at*;go_enter Tryz.func104,Tryz.ntmps104
 go_wp2_with fail
 refine HP.af.mono ?_;rintro e w1 ⟨rfl,rfl⟩;go_wp2;first | refine bodyPost_ret (results_none rfl _ _ _) rfl ?_ | go_end0
 exact⟨rfl,rfl⟩
theorem LP(v:Nat)(s:eC)(ab:Nat)(mark:Int)(was:List (Int × Option dR))(n:Int)(hn:1≤n∧n≤65536)(hl:was.length≤65536)(F:Pr)(w:World)(hF:Sat ((td v s ab mark was).star F) w):
 Calls Tryz.prog 104 #[.pointer (some ⟨v,0,none⟩),.pointer (some ⟨ab,0,none⟩),.int .i64 n] w fun e w'=>
  e= .returned (.tuple #[])∧Sat ((td v { s with on:=fun m=>if m=n∧s.pool.state n=1 then none else s.on m } ab mark (if s.pool.state n=1 then was++ [(n,s.on n)] else was)).star F) w'∧dN w w':=by
 by_cases hs:s.pool.state n=1
 · refine(QC v s ab mark was n hn hs hl F w hF).mono ?_
   rintro e w' ⟨h1,h2,h3⟩;refine⟨h1,?_,h3⟩;simp only [hs,and_true,if_true];exact h2
 · refine(Ow v s ab mark was n hs F w hF).mono ?_
   rintro e w' ⟨h1,rfl⟩;refine⟨h1,?_,dN.refl _⟩;simp only [hs,and_false,if_false];exact hF
theorem Jj {h:Hp}{f:Int→Option Value}{on:Int→Option dR}(hO:po h f on)(n:Int):fV h ((f n).getD jY) ((on n).getD ⟨0,0,[],[],0⟩):=by
 have:=hO n
 cases hy:on n with
 | none=>
   rw [hy] at this;dsimp only at this;rw [this];exact⟨_,_,rfl,tN (aG _),gj.nil _ _⟩
 | some g=>
   rw [hy] at this;obtain⟨v,e1,e2⟩:=this;rw [e1];exact e2
theorem LR(v ab:Nat)(mark:Int)(s0:eC)(hfit:∀n g,s0.on n=some g→g.items.length≤65535):∀(M:Nat) (s:eC) (was:List (Int × Option dR)) (n:Int) (F:Pr) (w:World),
 nP s.pool.counts<M→qu s0 s was→s.pool.floor+s.pool.acts.length+nP s.pool.counts<1099511627776→Sat ((td v s ab mark was).star F) w→
 Calls Tryz.prog 65 #[.pointer (some ⟨v,0,none⟩),.pointer (some ⟨ab,0,none⟩),.int .i64 n] w fun e w'=>
  dN w w'∧∃er t W,e= .returned (.int .i64 er)∧mJ s0.get [n] s.pool.counts er t.pool.counts∧qu s0 t W∧zZ s t∧Sat ((td v t ab mark W).star F) w':=by
 intro M;induction M with
 | zero=>intro s was n F w hM;omega
 | succ M ih=>
   intro s was n F w hM hd hb hF;have j6:=Dv hF;obtain⟨x,wv,ws,ok,oL,vg⟩:=j3.1 hF
   have h1:Sat ((eP x.p s.pool).star ((Pr.pts v (.cells #[.pointer (some ⟨x.p,0,none⟩),.map (some x.mb),x.av,.int .i64 s.floor] 108)).star
    ((((fD Tryz.prog 3 x.mb x.f).star ((Row 169 2 x.av s.acts.length (eI x.kA)).star (Pr.own x.h)))).star (((Pr.pts ab (.cells #[.int .i64 mark,wv] 169)).star (Row 194 7 wv ws.length (ws.flatMap gI.cells))).star F)))) w:=vg.perm (by unfold kr fc;ac_rfl)
   have qv:w.cell? ⟨v,0,none⟩=some (.pointer (some ⟨x.p,0,none⟩)):=by rw [cell_of_heap h1.right.dL];rfl
   have HD:=hQ (S0 x.p s.pool n _ w h1 (by omega));have Wq:=hQ hd;have HM:=hQ (And.intro hM hb);have HF:=hQ hF;by_cases h0:s.pool.count n=0
   · have HC:=hQ (show jH s.pool.counts n=0 from by rw [← nY];exact h0)
     clear vg h1 hF hd hM hb ok oL j6 ih;go_enter Tryz.func65,Tryz.ntmps65
     go_wp2_with fail
     refine HD.af.mono ?_;rintro e w1 (⟨rfl,_,rfl⟩ | ⟨_,hne,_⟩)
     · go_wp2
       go_ret;exact⟨dN.refl _,15,s,was,rfl,.none _ _ _ HC.af,Wq.af,zZ.refl s,HF.af⟩
     · exact absurd h0 hne
   · have IZ:=lg h0
     have hnb:1≤n∧n≤65536:=⟨IZ.1,by have:=IZ.2;have:=j6.n2;omega⟩;have Wr:=m_ j6 n
     have Ws:(s.pool.did n (-1)).count n=s.pool.count n-1:=by
      have:=pn (b:= -1) (m:=n) IZ
      rw [if_pos rfl] at this;exact this
     have HC:=hQ (show jH s.pool.counts n≠0 from by rw [← nY];exact h0);have F5:=hQ (show jH (Bv s.pool.counts n (-1)) n=s.pool.count n-1 from by rw [← qf, ← nY];exact Ws);have F7:=hQ j6;have QH:=hQ h0;have ZH:=hQ Ws;by_cases Dw:s.pool.count n-1=0
     ·
      obtain⟨g,hg⟩:∃g,(s.on n).getD ⟨0,0,[],[],0⟩=g:=⟨_,rfl⟩;have oK:=Jj ok.on n;rw [hg] at oK
      have QI:s.on n=s0.on n:=by
       rw [hd.on];exact if_neg (fun e=>h0 (jd j6 e))
      have hget:s0.get n=g:=by rw [← hg,QI];rfl
      have hgl:g.items.length≤65535:=by
       rw [← hg,QI];cases hk:s0.on n with
       | none=>exact aG _
       | some g2=>exact hfit n g2 hk
      obtain⟨vi,vd,qy,hi,wG⟩:=id oK;obtain⟨ai,ci,XM,_,_⟩:=fL hi;obtain⟨ad,cd,XN⟩:=eB wG;rw [qy,XM,XN] at oK;have Nh:=hQ (show (x.f n).getD jY=fX g.kind g.level (.slice ai g.items.length ci) (.slice ad g.data.length cd) g.next from by rw [qy,XM,XN]);have F8:=hQ oK;have HX:=hQ (And.intro ok oL);have Tx:=hQ hget;have QJ:=hQ hgl
      have Sg:=hQ (show was.length≤65536 from by have:=hd.Tw IZ h0;have:=j6.n2;omega);have HKS:=hQ (show (lF g).length≤65536 from by have:=yf g;omega);have HIH:=hQ ih;clear vg h1 hF hd hM hb ok oL j6 ih oK hi wG qy XM XN hg QI hget hgl Wr Ws IZ;rw [Dw] at HD;have LS:=hQ Dw;clear Dw;go_enter Tryz.func65,Tryz.ntmps65
      go_wp2_with fail
      refine HD.af.mono ?_;rintro e w1 (⟨_,he,_⟩ | ⟨rfl,_,h2,hst⟩)
      · exact absurd he h0
      have h3:Sat ((fD Tryz.prog 3 x.mb x.f).star ((Pr.pts v (.cells #[.pointer (some ⟨x.p,0,none⟩),.map (some x.mb),x.av,.int .i64 s.floor] 108)).star ((eP x.p (s.pool.did n (-1))).star
       ((((Row 169 2 x.av s.acts.length (eI x.kA)).star (Pr.own x.h))).star (((Pr.pts ab (.cells #[.int .i64 mark,wv] 169)).star (Row 194 7 wv ws.length (ws.flatMap gI.cells))).star F))))) w1:=h2.perm (by ac_rfl)
      have q1:w1.cell? ⟨v,1,none⟩=some (.map (some x.mb)):=by rw [cell_of_heap h3.right.dL];rfl
      have HK:=hQ (LJ x.h _ g F8.af (by have:=QJ.af;omega) _ w1 (h3.perm (B:=(Pr.own x.h).star ((fD Tryz.prog 3 x.mb x.f).star ((Pr.pts v (.cells #[.pointer (some ⟨x.p,0,none⟩),.map (some x.mb),x.av,.int .i64 s.floor] 108)).star ((eP x.p (s.pool.did n (-1))).star
       ((Row 169 2 x.av s.acts.length (eI x.kA)).star (((Pr.pts ab (.cells #[.int .i64 mark,wv] 169)).star (Row 194 7 wv ws.length (ws.flatMap gI.cells))).star F)))))) (by ac_rfl)))
      have H3:=hQ h3;clear h2 h3 qv HD;go_wp2_with (first | (at_lookup;refine nb rfl _ _ _ false rfl Tryz.underlying3 Tryz.underlying105 jY (nV _) n hnb rfl rfl H3.af ?_;rw [Nh.af]) | (go_at_call 103;refine HK.af.mono ?_))
      rintro e w2 ⟨kv,rfl,h4,jq⟩;obtain⟨kl,hkl⟩:∃kl,lF g=kl:=⟨_,rfl⟩;rw [hkl] at h4;have ZI:=hQ hkl;have hkb:(kl.length:Int)≤65536:=by rw [← hkl];have:=HKS.af;omega
      obtain⟨ak,ck,ek,_,_⟩:=Row.read h4;subst ek;obtain⟨ok,oL⟩:=HX.af;have h5:Sat ((td v { s with pool:=s.pool.did n (-1) } ab mark was).star ((dX (.slice ak kl.length ck) kl).star F)) w2:=j3.2 ⟨x,wv,ws,⟨ok.on,ok.acts,ok.f0,ok.fb⟩,oL,h4.perm (by unfold kr fc;dsimp only;ac_rfl)⟩;have FR:=hQ (LP v { s with pool:=s.pool.did n (-1) } ab mark was n hnb Sg.af _ w2 h5)
      have lK:=hQ (hst.trans jq);clear h4 h5 ok oL hst jq HK H3 q1 hkl;go_wp2_with fail
      refine FR.af.mono ?_;rintro e w3 ⟨rfl,h6,mP⟩
      have key:∃s2 W2,Sat ((td v s2 ab mark W2).star ((dX (.slice ak kl.length ck) kl).star F)) w3∧qu s0 s2 W2∧s2.pool=s.pool.did n (-1)∧zZ s s2:=by
       by_cases hs1:(s.pool.did n (-1)).state n=1
       · refine⟨_,_,h6,?_,rfl,(zZ.did F7.af QH.af _).1⟩
         have zq:=Wq.af.freed F7.af QH.af (by rw [ZH.af];exact LS.af) hs1;simp only [hs1,and_true,if_true];exact zq
       · refine⟨_,_,h6,?_,rfl,(zZ.did F7.af QH.af _).1⟩
         simp only [hs1,and_false,if_false];exact Wq.af.did F7.af QH.af hs1
      obtain⟨s2,W2,h7,zq,QK,LU⟩:=key;have j8:=hQ (lK.af.trans mP);have h8:=h7.perm (B:=(dX (.slice ak kl.length ck) kl).star ((td v s2 ab mark W2).star F)) (by ac_rfl);have HI:=hQ h8;have Tt:=hQ (And.intro zq LU)
      have ZJ:nP s2.pool.counts<M:=by
       have:=(zZ.did F7.af QH.af s.on).2
       rw [QK];have:=HM.af.1
       omega
      have hb2:s2.pool.floor+s2.pool.acts.length+nP s2.pool.counts<1099511627776:=by
       have:=LU.acts
       have:=HM.af.2
       omega
      have ZK:=hQ (And.intro ZJ hb2);have ZL:s2.pool.counts=Bv s.pool.counts n (-1):=by rw [QK,qf]
      have ZM:=hQ ZL;clear h6 h7 h8 zq LU FR ZJ hb2 ZL QK lK mP;go_wp2
      go_loopw [42] (fun i wr=> ∃(k:Nat) (t:eC) (W:List (Int × Option dR)),k≤kl.length∧i= .int .i64 k∧dN w wr∧Hid (qu s0 t W)∧Hid (mJ s0.get (kl.take k) s2.pool.counts 0 t.pool.counts)∧Hid (zZ s2 t)∧Sat ((dX (.slice ak kl.length ck) kl).star ((td v t ab mark W).star F)) wr) (fun i _=>kl.length-(intOf i).toNat)
      case atStart=>exact⟨0,s2,W2,aG _,rfl,j8.af,hQ Tt.af.1,hQ (.nil _),hQ (zZ.refl _),HI.af⟩
      case round=>
       obtain⟨k,t,W,hk,rfl,CQ,mV,Ox,hft,fp⟩:=hrel;clear HI;rcases aB k kl.length with hlt | hge
       · obtain⟨_,_,e7,_,ZN⟩:=Row.read fp
         obtain⟨rfl,_,rfl⟩:=Value.slice.inj e7;obtain⟨b7,xJ,Tz⟩:=ZN (by omega);clear ZN e7;subst xJ
         have q7:wr.cell? ⟨b7,k,none⟩=some (.int .i64 kl[k]):=by
          rw [(Tz k (by omega)).1];simp [hlt]
         have z7:=ay _ _ q7;have IH:=hQ (HIH.af t W kl[k] _ wr (by have:=hft.af.sum;have:=ZK.af.1;omega) mV.af (by have:=hft.af.acts;have:=ZK.af.2;omega) (fp.perm (Pr.eD _ _ _)));have Kj:=hQ (show kl.take (k+1)=kl.take k++ [kl[k]] from aF hlt)
         have HDK:=hQ (show kl=kl.take k++kl[k] :: kl.drop (k+1) from by
          rw [← aQ hlt,dc])
         have ij:=hQ CQ;clear fp Tz CQ;generalize kl[k]=kn at*;go_wp2_with fail
         refine IH.af.mono ?_;rintro e w5 ⟨xC,er,t2,W3,rfl,TA,hd3,PW,h8⟩;have H8:=hQ h8;have iM:=hQ (ij.af.trans xC);have HR:=hQ (And.intro TA (And.intro hd3 PW));clear h8 xC IH TA hd3 PW;by_cases PX:er=0
         · subst PX
           go_wp2;go_roundw
           case rel=>
            refine⟨k+1,t2,W3,by omega,congrArg (Value.int .i64) (by omega),iM.af,hQ HR.af.2.1,hQ ?_,hQ (hft.af.trans HR.af.2.2),H8.af.perm (Pr.eD _ _ _)⟩;rw [Kj.af];exact Ox.af.append rfl HR.af.1
           case measure=>simp [intOf];omega
         · have hne:(er != 0)=true:=by rw [bne_iff_ne];exact PX
           have HER:=hQ PX;clear PX;go_wp2;go_ret;refine⟨iM.af,er,t2,W3,rfl,?_,HR.af.2.1,Tt.af.2.trans (hft.af.trans HR.af.2.2),(H8.af.perm (Pr.eD _ _ _)).right⟩;refine .last _ _ _ _ _ HC.af (by rw [F5.af];exact LS.af) ?_;rw [Tx.af,ZI.af,aV, ← ZM.af];have h9:=Ox.af.append rfl (HR.af.1.fail (t:=kl.drop (k+1)) HER.af)
           rw [show kl.take k++([kn]++kl.drop (k+1))=kl from HDK.af.symm] at h9;exact h9
       · have hke:k=kl.length:=by omega
         subst hke;have lZ:=hQ fp;clear fp;go_wp2;go_ret;refine⟨CQ,0,t,W,rfl,?_,mV.af,Tt.af.2.trans hft.af,lZ.af.right⟩;refine .last _ _ _ _ _ HC.af (by rw [F5.af];exact LS.af) ?_;rw [Tx.af,ZI.af,aV, ← ZM.af];have h9:=Ox.af;rw [bE] at h9;exact h9
     ·
      have hgt:0<s.pool.count n-1:=by omega
      have HX:=hQ (And.intro ok oL);have ZO:=hQ Dw;clear vg h1 hF hd hM hb ok oL j6 ih Wr Ws IZ Dw;go_enter Tryz.func65,Tryz.ntmps65
      go_wp2_with fail
      refine HD.af.mono ?_;rintro e w1 (⟨_,he,_⟩ | ⟨rfl,_,h2,hst⟩)
      · exact absurd he h0
      obtain⟨ok,oL⟩:=HX.af;have h5:Sat ((td v { s with pool:=s.pool.did n (-1) } ab mark was).star F) w1:=j3.2 ⟨x,wv,ws,⟨ok.on,ok.acts,ok.f0,ok.fb⟩,oL,h2.perm (by unfold kr fc;dsimp only;ac_rfl)⟩;have H5:=hQ h5;clear h2 h5 ok oL HD qv;go_wp2;go_ret;have XO:=Dv H5.af
      refine⟨hst,0,{ s with pool:=s.pool.did n (-1) },was,rfl,?_,Wq.af.did F7.af QH.af (fun e=> ?_),(zZ.did F7.af QH.af s.on).1,H5.af⟩
      · refine .more _ _ _ _ _ HC.af (by rw [F5.af];exact ZO.af) ?_
        rw [← qf];exact .nil _
      · have h9:=jd XO e
        have h10:=ZH.af;rw [h9] at h10;exact ZO.af h10.symm
end Go.Proofs.YtiegeadmgpanoaaGreatDoor.D2
namespace Go.Proofs.YtiegeadmgpanoaaGreatDoor.D2
open ChangeShapes WideShapes ChangeAt RowKit Sl fB L3 Z3
theorem Jk(v ab:Nat)(mark:Int)(VB NB:Nat)(s:eC)(n:Int)(hb:FQ s)(hfit:∀n g,s.on n=some g→g.items.length≤65535)(hm:s.pool.floor+s.pool.acts.length+nP s.pool.counts<1099511627776)(F:Pr)(w:World)
 (hF:Sat ((td v s ab mark []).star ((Pr.pts VB (.cells #[.pointer (some ⟨v,0,none⟩)] 27)).star ((Pr.pts NB (.cells #[.int .i64 n] 3)).star F))) w):
 Calls Tryz.prog 64 #[.pointer (some ⟨ab,0,none⟩),.pointer (some ⟨VB,0,none⟩),.pointer (some ⟨NB,0,none⟩)] w fun e w'=>
  dN w w'∧∃z:Int × eC × List (Int × Option dR),(mJ s.get [n] s.pool.counts z.1 z.2.1.pool.counts∧qu s z.2.1 z.2.2∧zZ s z.2.1)∧e= .returned (.int .i64 z.1)∧Sat ((td v z.2.1 ab mark z.2.2).star F) w':=by
 have q1:w.cell? ⟨VB,0,none⟩=some (.pointer (some ⟨v,0,none⟩)):=by rw [cell_of_heap hF.right.dL];rfl
 have q2:w.cell? ⟨NB,0,none⟩=some (.int .i64 n):=by rw [cell_of_heap hF.right.right.dL];rfl
 have D:=hQ (LR v ab mark s hfit (nP s.pool.counts+1) s [] n _ w (cf _) (qu.refl hb) hm hF);clear hF hb hfit hm;go_enter Tryz.func64,Tryz.ntmps64
 go_wp2_with fail
 refine D.af.mono ?_;rintro e w1 ⟨hst,er,t,W,rfl,h1,h2,h3,h4⟩;have h5:=h4.perm (B:=((Pr.pts VB (.cells #[.pointer (some ⟨v,0,none⟩)] 27)).star (Pr.pts NB (.cells #[.int .i64 n] 3))).star ((td v t ab mark W).star F)) (by ac_rfl);have H5:=hQ h5.right;have HR:=hQ (And.intro h1 (And.intro h2 h3));clear h1 h2 h3 h4 h5;go_wp2;go_ret;exact⟨hst,(er,t,W),HR.af,rfl,H5.af⟩
theorem Jl(v:Nat)(s:eC)(n:Int)(hb:FQ s)(hfit:∀n g,s.on n=some g→g.items.length≤65535)(hm:s.pool.floor+s.pool.acts.length+nP s.pool.counts<1099511627776)(hvm:s.floor+s.acts.length<1099511627776)(F:Pr)(w:World)
 (hF:Sat ((dZ v s).star F) w):
 Calls Tryz.prog 36 #[.pointer (some ⟨v,0,none⟩),.int .i64 n] w fun e w'=>
  dN w w'∧∃er t W,e= .returned (.int .i64 er)∧mJ s.get [n] s.pool.counts er t.pool.counts∧qu s t W∧zZ s t∧Sat ((if er=0 then dZ v (t.tY ⟨s.pool.mark,W⟩) else dZ v s).star F) w':=by
 have es:(w.alloc (.cells #[.pointer (some ⟨v,0,none⟩)] 27)).heap.size=w.heap.size+1:=by simp
 have h1:=(hF.alloc (.cells #[.pointer (some ⟨v,0,none⟩)] 27)).alloc (.cells #[.int .i64 n] 3);rw [es] at h1;have h2:=h1.perm (B:=(dZ v s).star ((Pr.pts w.heap.size (.cells #[.pointer (some ⟨v,0,none⟩)] 27)).star ((Pr.pts (w.heap.size+1) (.cells #[.int .i64 n] 3)).star F))) (by ac_rfl)
 have D:=hQ (QF v s 64 #[.pointer (some ⟨w.heap.size,0,none⟩),.pointer (some ⟨w.heap.size+1,0,none⟩)] (fun z:Int × eC × List (Int × Option dR)=>z.1)
  (fun z=>mJ s.get [n] s.pool.counts z.1 z.2.1.pool.counts∧qu s z.2.1 z.2.2∧zZ s z.2.1) (fun z=>z.2.1) (fun z=>z.2.2) (fun _=>F) _ _ h2 hvm (fun _ _=>rfl) (fun z hz=>hz.2.1.mid) (fun ab wx hwx=>
    Jk v ab s.pool.mark w.heap.size (w.heap.size+1) s n hb hfit hm F wx hwx))
 have eR:=hQ (((dN.refl w).alloc (.cells #[.pointer (some ⟨v,0,none⟩)] 27)).alloc (.cells #[.int .i64 n] 3));clear h1 h2 hF hb hfit hm es;go_enter Tryz.func36,Tryz.ntmps36
 go_wp2_with fail
 refine D.af.mono ?_;rintro e w1 ⟨hst,⟨er,t,W⟩,hR,rfl,h3⟩;have H3:=hQ h3;have HR:=hQ hR;clear h3 hR;go_wp2;go_ret;exact⟨eR.af.trans hst,er,t,W,rfl,HR.af.1,HR.af.2.1,HR.af.2.2,H3.af⟩
end Go.Proofs.YtiegeadmgpanoaaGreatDoor.D2
