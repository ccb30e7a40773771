/- The library's Backward and All over pairs, their iterators; the conditions stand as hypotheses. -/
import Derived.Test.YtiegeadmgpanoaaGreatDoorL39
set_option maxRecDepth 100000
set_option maxHeartbeats 16000000
namespace Go.Proofs.YtiegeadmgpanoaaGreatDoor.D2
open ChangeShapes WideShapes ChangeAt RowKit Sl fB Go.Shelf Z3 E4
attribute [local go_sem] Oper.semAt_some
def jm(h:Hp)(v:Value)(zs:List fY):Prop:=gj h 2 v zs.length (zs.flatMap il)∧∀z∈zs,Bytes h z.1.1 z.2.1∧Bytes h z.1.2 z.2.2
theorem jm.sub {a b:Hp}(hs:a.sub b){v:Value}{zs:List fY}(h:jm a v zs):jm b v zs:=⟨h.1.sub hs,fun z hz=>⟨(h.2 z hz).1.sub hs,(h.2 z hz).2.sub hs⟩⟩
theorem pK {h:Hp}{v:Value}{zs:List fY}(hp:jm h v zs):∃a c,v= .slice a zs.length c∧zs.length≤c∧c≤maxLen∧∀i (_:i<zs.length),∃b off k1 n1 k2 n2,a=some ⟨b,off,none⟩∧
 zs[i].1.1= .slice k1 zs[i].2.1.length n1∧zs[i].1.2= .slice k2 zs[i].2.2.length n2∧∀w,h.le w→w.cell? ⟨b,off+i*2,none⟩=some (.slice k1 zs[i].2.1.length n1)∧w.cell? ⟨b,off+i*2+1,none⟩=some (.slice k2 zs[i].2.2.length n2):=by
 obtain⟨⟨hlen,a,c,e,h1,h2,hc⟩,hb⟩:=hp;refine⟨a,c,e,h1,h2,fun i hi=> ?_⟩;obtain⟨b,off,ea,hcell⟩:=hc (by omega);obtain⟨p1,p2⟩:=hb zs[i] (aE hi);obtain⟨k1,n1,e1⟩:=eB p1;obtain⟨k2,n2,e2⟩:=eB p2;refine⟨b,off,k1,n1,k2,n2,ea,e1,e2,fun w hw=> ?_⟩
 have at':∀j,j<2→∀v,(il zs[i])[j]? =some v→w.cell? ⟨b,off+i*2+j,none⟩=some v:=by
  intro j hj v hv;have h3:=hcell (i*2+j) (by omega);have h4:=nL il 2 (fun _=>rfl) zs i j hi hj;rw [hv] at h4;rw [cN];exact Hp.kG hw (h3.trans h4)
 have q0:=at' 0 (by omega) _ rfl;have q1:=at' 1 (by omega) _ rfl;rw [e1] at q0;rw [e2] at q1;exact⟨q0,q1⟩
theorem oJ {zs:List fY}{v:Value}{a:Hp}(h:((eN v zs).star (big d_ zs)) a):jm a v zs:=by
 obtain⟨x,y,hx,hy,s1,s2⟩:=fF h;refine⟨(Row.jh hx).sub s1,fun z hz=> ?_⟩;obtain⟨i,hi,rfl⟩:=bF hz;rw [ES d_ zs i hi] at hy;obtain⟨b,c,hb,_,s3,_⟩:=fF hy;obtain⟨d,e,hd,he,s5,s6⟩:=fF (show ((dM zs[i].1.1 zs[i].2.1).star (dM zs[i].1.2 zs[i].2.2)) b from hb);exact⟨(((Row.jh hd).sub s5).sub s3).sub s2,(((Row.jh he).sub s6).sub s3).sub s2⟩
abbrev MF(X:fY)(k1:Option Addr)(n1:Nat)(k2:Option Addr)(n2:Nat):Obj:= .cells #[.slice k1 X.2.1.length n1,.slice k2 X.2.2.length n2] 49
def J0(x:Int × fY):Array Value:= #[.int .i64 x.1,Hv x.2.1.1 x.2.1.2]
def Uu(zs:List fY)(pre:List (Int × fY))(x:Int × fY):Prop:= ∃i,∃hi:i<zs.length,pre.length+i+1=zs.length∧x=((i:Int),zs[i])
def Uv(zs:List fY)(pre:List (Int × fY))(x:Int × fY):Prop:= ∃hi:pre.length<zs.length,x=((pre.length:Int),zs[pre.length])
def gP(sb:Nat)(pv:Value)(h:Hp):Pr:=(Pr.pts sb (.cells #[pv] 60)).star (Pr.own h)
theorem lO {sb:Nat}{aw:Option Addr}{n cw:Nat}{h:Hp}{A:Pr}{wr:World}(hs:Sat (A.star (gP sb (.slice aw n cw) h)) wr):wr.cell? ⟨sb,0,none⟩=some (.slice aw n cw)∧sb<wr.heap.size∧h.le wr:=by
 unfold gP at hs;have h1:Sat ((Pr.pts sb (.cells #[.slice aw n cw] 60)).star ((Pr.own h).star A)) wr:=hs.perm (by ac_rfl);exact⟨by rw [cell_of_heap h1.dL];rfl,h1.lt,h1.right.own⟩
theorem J1(sb:Nat)(pv:Value)(h:Hp)(zs:List fY)(hi:jm h pv zs)(Nr:zs.length≤140737488355328):
 vu Tryz.prog 97 #[.pointer (some ⟨sb,0,none⟩)] J0 (Uu zs) (fun xs=>xs.length=zs.length) (fun xs=>xs.length≤zs.length) (gP sb pv h):=by
 intro l' J Jx W hY h0;refine(callsIn_wide (n:=3)).1 ?_;refine callsIn_of_wp Tryz.func97 rfl trivial ?_ rfl;simp only [Tryz.ntmps97,bu,List.length_cons,List.length_nil,Nat.reduceAdd,Nat.reduceSub,Array.replicate_succ,Array.replicate_zero,bB,a_,List.nil_append,List.cons_append];obtain⟨aw,cw,rfl,hc1,o7,rd⟩:=pK hi;obtain⟨q1,z1,_⟩:=lO h0
 have hl3:(zs.length:Int)≤140737488355328:=by omega
 have HY:=hQ hY;have H0:=hQ h0;have RD:=hQ rd;clear hY h0 rd hi hc1 o7 Nr;gi_wp2
 gi_loopw [3] (fun i wr=> ∃(r:Nat) (pre:List (Int × fY)),pre.length+r=zs.length∧i= .int .i64 ((r:Int)-1)∧dN W wr∧Sat ((J pre).star (gP sb (.slice aw zs.length cw) h)) wr) (fun i _=>(intOf i+1).toNat)
 case atStart=>exact⟨zs.length,[],by simp,rfl,dN.refl _,H0.af⟩
 case round=>
  obtain⟨r,pre,hr,rfl,hR,hs⟩:=hrel;cases r with
  | zero=>
    gi_wp2
    go_end0
    exact⟨⟨_,rfl⟩,hR,.inl ⟨pre,by simpa using hr,hs⟩⟩
  | succ r=>
    obtain⟨q1,z1,hle⟩:=lO hs;have hlt:r<zs.length:=by omega
    obtain⟨b,off,k1,n1,k2,n2,rfl,e1,e2,hc⟩:=RD.af r hlt;obtain⟨c0,c1⟩:=hc wr hle;have HS:=hQ hs;have HR:=hQ hr;clear hs hc hr;have Ot:(r:Int)<zs.length:=by omega
    obtain⟨X,hX⟩:∃X,zs[r]=X:=⟨_,rfl⟩;have HX:=hQ hX;rw [hX] at c0 c1 e1 e2;clear hX;have HE:=hQ (And.intro e1 e2);clear e1 e2;rw [show ((r+1:Nat):Int)-1=(r:Int) by omega];gi_wp2
    have hy:=HY.af Pr.emp pre ((r:Int),X) _ ⟨r,hlt,by have:=HR.af;omega,by rw [HX.af]⟩ (HS.af.perm (Pr.ei _).symm);unfold J0 at hy;dsimp only at hy;rw [HE.af.1,HE.af.2] at hy;refine na hy ?_;clear hy;rintro e w' ⟨hR',(⟨rfl,hs'⟩ | ⟨rfl,hs'⟩)⟩<;>rw [Pr.ei] at hs'
    · refine⟨_,rfl,?_⟩
      have xg:=hQ hs';clear hs';gi_wp2
      go_roundw
      case rel=>exact⟨r,_,by rw [au];have:=HR.af;simp;omega,rfl,hR.trans hR',xg.af⟩
      case measure=>simp [intOf]
    · refine⟨_,rfl,?_⟩
      have xg:=hQ hs';clear hs';gi_wp2
      refine bodyPost_ret (results_none rfl _ _ _) rfl ?_;exact⟨⟨_,rfl⟩,hR.trans hR',.inr ⟨_,by rw [au];have:=HR.af;simp;omega,xg.af⟩⟩
theorem Yw(sb:Nat)(pv:Value)(h:Hp)(zs:List fY)(hi:jm h pv zs)(Nr:zs.length≤140737488355328):
 vu Tryz.prog 99 #[.pointer (some ⟨sb,0,none⟩)] J0 (Uv zs) (fun xs=>xs.length=zs.length) (fun xs=>xs.length≤zs.length) (gP sb pv h):=by
 intro l' J Jx W hY h0;refine(callsIn_wide (n:=3)).1 ?_;refine callsIn_of_wp Tryz.func99 rfl trivial ?_ rfl;simp only [Tryz.ntmps99,bu,List.length_cons,List.length_nil,Nat.reduceAdd,Nat.reduceSub,Array.replicate_succ,Array.replicate_zero,bB,a_,List.nil_append,List.cons_append];obtain⟨aw,cw,rfl,hc1,o7,rd⟩:=pK hi;obtain⟨q1,z1,_⟩:=lO h0
 have hl3:(zs.length:Int)≤140737488355328:=by omega
 have HY:=hQ hY;have H0:=hQ h0;have RD:=hQ rd;clear hY h0 rd hi hc1 o7 Nr;gi_wp2
 gi_loopw [7] (fun i wr=> ∃pre:List (Int × fY),pre.length≤zs.length∧i= .int .i64 (pre.length:Int)∧dN W wr∧Sat ((J pre).star (gP sb (.slice aw zs.length cw) h)) wr) (fun i _=>zs.length-(intOf i).toNat)
 case atStart=>exact⟨[],aG _,rfl,dN.refl _,H0.af⟩
 case round=>
  obtain⟨pre,hr,rfl,hR,hs⟩:=hrel;rcases aB pre.length zs.length with hlt | hge
  · obtain⟨q1,z1,hle⟩:=lO hs
    obtain⟨b,off,k1,n1,k2,n2,rfl,e1,e2,hc⟩:=RD.af pre.length hlt;obtain⟨c0,c1⟩:=hc wr hle;obtain⟨X,hX⟩:∃X,zs[pre.length]=X:=⟨_,rfl⟩;have HX:=hQ (show ∃h:pre.length<zs.length,zs[pre.length]=X from⟨hlt,hX⟩);rw [hX] at c0 c1 e1 e2;clear hX;have HE:=hQ (And.intro e1 e2);obtain⟨np,Km⟩:∃np,pre.length=np:=⟨_,rfl⟩;rw [Km] at c0 c1 hlt hr;have Re:=hQ Km;have aaC:(np:Int)<zs.length:=by omega
    rw [Km];have HS:=hQ (hs.alloc (MF X k1 n1 k2 n2)).right;have eR:=hQ (hR.alloc (MF X k1 n1 k2 n2));clear hs hc e1 e2 Km hR;gi_wp2
    have hy:=HY.af Pr.emp pre ((np:Int),X) _ ⟨HX.af.1,by rw [HX.af.2,Re.af]⟩ (HS.af.perm (Pr.ei _).symm);unfold J0 at hy;dsimp only at hy;rw [HE.af.1,HE.af.2] at hy;refine na hy ?_;clear hy;rintro e w' ⟨hR',(⟨rfl,hs'⟩ | ⟨rfl,hs'⟩)⟩<;>rw [Pr.ei] at hs'
    · refine⟨_,rfl,?_⟩
      have xg:=hQ hs';clear hs';gi_wp2
      go_roundw
      case rel=>exact⟨_,by rw [au,Re.af];simp only [List.length_singleton];omega,by rw [au,Re.af];exact congrArg (Value.int .i64) (by simp),eR.af.trans hR',xg.af⟩
      case measure=>simp [intOf];omega
    · refine⟨_,rfl,?_⟩
      have xg:=hQ hs';clear hs';gi_wp2
      refine bodyPost_ret (results_none rfl _ _ _) rfl ?_;exact⟨⟨_,rfl⟩,eR.af.trans hR',.inr ⟨_,by rw [au,Re.af];simp;omega,xg.af⟩⟩
  · obtain⟨q1,z1,hle⟩:=lO hs
    have HS:=hQ hs;have eR:=hQ hR;have he:pre.length=zs.length:=by omega
    have aaD:¬(pre.length:Int)<zs.length:=by omega
    have HE:=hQ he;clear hs hR he hr hge;gi_wp2
    go_end0
    exact⟨⟨_,rfl⟩,eR.af,.inl ⟨pre,HE.af,HS.af⟩⟩
end Go.Proofs.YtiegeadmgpanoaaGreatDoor.D2
namespace Go.fB
def eG(c:Int):en:=⟨[c],[c,c],0,2⟩
def fQ:List en:= [eG 97,eG 99,eG 101,eG 103]
def fh:List en:= [eG 109,eG 112,eG 114,eG 116,eG 118]
def MG(l:List en):dR:=⟨1,0,l,[],0⟩
def Rf:dR:=⟨2,1,[⟨[],[],1,0⟩,⟨[109],[],2,0⟩],[],0⟩
def Au:List mG:= [⟨1,MG fQ⟩,⟨2,MG fh⟩,⟨3,Rf⟩]
def Uw:Int→Option dR:=(jw 2 [1,1,1] Au).2
def pL:Int→Option dR:=pq [1,1,1] Uw
theorem uD:(jw 2 [1,1,1] Au).1=0:=by decide+kernel
theorem yC:∀x∈Au,∀y∈x.page.items,U8 y.key:=by simp [Au,MG,Rf,fQ,fh,eG,U8]
def rV(look:Int→Option dR):Nat→Int→List en
 | 0,n=>match look n with
   | some g=>g.items
   | none=> []
 | lv+1,n=>match look n with
   | some g=>(g.items.map fun x=>rV look lv x.child).flatten
   | none=> []
theorem J2 {look:Int→Option dR}{lv:Nat}{n:Int}{q:fw}{L:List en}(h:yS look lv n q L):L=rV look lv n:=by
 induction h with
 | leaf n q g hl _ _=>unfold rV;rw [hl]
 | index lv n q g LL hl hk hlv hlen hT ih=>
   unfold rV;rw [hl];refine congrArg List.flatten (cq (by simp [hlen]) fun i h1 h2=> ?_);rw [ih i h1,bQ,gn (by omega)]
theorem yD {refs:Int}{cs:List Int}{l:List mG}(h:(jw refs cs l).1=0)(hu:∀x∈l,∀y∈x.page.items,U8 y.key):iT (pq cs (jw refs cs l).2):=by
 have hr:=Go.Proofs.YtiegeadmgpanoaaGreatDoor.D2.sX h;refine⟨fun n g hg=> ?_,fun n g hg=> ?_⟩
 · exact xM (P:=fun g=>iU g=0) (fun x _ h=>h) (Go.Proofs.YtiegeadmgpanoaaGreatDoor.D2.rS hr hg).2.1
 · exact xM (P:=fun g=> ∀y∈g.items,U8 y.key) (fun x hx _=>hu x hx) (Go.Proofs.YtiegeadmgpanoaaGreatDoor.D2.rS hr hg).2.1
theorem Ea:iW pL 3 2 9=0:=by decide+kernel
theorem MH:iW pL 3 2 8=4:=by decide+kernel
theorem MJ:kK pL 3 2 9 (fQ++fh):=by
 rcases sg (yD uD yC) Ea with⟨h,_⟩ | ⟨h0,_,_,L,hT,hL⟩
 · cases h
 · have e:L=rV pL 1 3:=J2 hT
   rw [show rV pL 1 3=fQ++fh by rfl] at e;subst e;exact .inr ⟨h0,hL,1,rfl,by omega,hT⟩
theorem Rh:D6 pL (fQ++fh) [112]= [112,112]∧D7 (fQ++fh) [112]=true∧D8 [112]=0:=by decide+kernel
def B5:fw:=⟨[101],[112],false⟩
theorem Ux:((fQ++fh).filter fun x=>iV B5 x.key).map (jy pL)= [([101],[101,101]),([103],[103,103]),([109],[109,109])]:=by decide+kernel
end Go.fB
