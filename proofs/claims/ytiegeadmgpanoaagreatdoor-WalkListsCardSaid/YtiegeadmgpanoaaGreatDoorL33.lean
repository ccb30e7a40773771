/- The document's Spare; the conditions stand as hypotheses. -/
import Derived.Test.YtiegeadmgpanoaaGreatDoorL31
import Derived.Test.YtiegeadmgpanoaaGreatDoorL30
import Derived.Test.YtiegeadmgpanoaaGreatDoorL26
set_option maxRecDepth 100000
set_option maxHeartbeats 16000000
namespace Go.Proofs.YtiegeadmgpanoaaGreatDoor.D2
open ChangeShapes WideShapes ChangeAt RowKit Sl fB L3 Z3
def Hl(i:Nat):Int:=bits .xor .i64 165 (i:Int) % 256
def lW(l:List Int):List Int:=l++(List.range 64).map fun i=>Hl (l.length+i)
theorem jb(l:List Int):(lW l).length=l.length+64:=by simp [lW]
theorem Gg {l:List Int}{k:Nat}(h:k<l.length):(lW l)[k]'(by rw [jb];omega)=l.getD k 0:=by
 unfold lW;rw [bz h];simp [h]
theorem vT {l:List Int}{k:Nat}(h:l.length≤k)(h2:k<l.length+64):(lW l)[k]'(by rw [jb];omega)=Hl k:=by
 unfold lW;rw [bj h];simp only [bQ,dA];rw [show l.length+(k-l.length)=k by omega]
abbrev iK(b:Nat)(l:List Int):Pr:=Row 5 1 (.slice (some ⟨b,0,none⟩) (l.length+64) (l.length+64)) (l.length+64) ((lW l).map (Value.int .u8))
theorem JH {F:Pr}{w:World}(T:Nat)(z:Value)(n:Nat)(hn:n≤maxLen)(h:Sat F w):
 Sat ((Row T 1 (.slice (some ⟨w.heap.size,0,none⟩) n n) n (List.replicate n z)).star F) (w.alloc (.cells (madeCells #[z] n) T)):=qO T z n hn h
theorem pI(h:Hp)(v:Value)(l:List Int)(F:Pr)(w:World)(hF:Sat ((Pr.own h).star F) w)(hx:Bytes h v l)(hn:l.length≤140737488351232):
 Calls Tryz.prog 13 #[v] w fun e w'=> ∃b,e= .returned (.slice (some ⟨b,0,none⟩) l.length (l.length+64))∧Sat ((iK b l).star ((Pr.own h).star F)) w'∧dN w w':=by
 obtain⟨a,c,rfl,r1⟩:=eL hx;obtain⟨i0,hi,hz0,hz1,jg⟩:=info_parts kY
 have hmk:∀wx:World,(Instr.makeSlice 42 (.int .i64 ((l.length:Int)+64)) (.int .i64 ((l.length:Int)+64))).run Tryz.prog wx= .ok (.slice (some ⟨wx.heap.size,0,none⟩) (l.length+64) (l.length+64)) (wx.alloc (.cells (madeCells #[.int .u8 0] (l.length+64)) 5)):=by
  intro wx;have:=run_make (P:=Tryz.prog) wx 42 5 i0 (.int .u8 0) Tryz.underlying42 hi hz0 .i64 .i64 ((l.length:Int)+64) ((l.length:Int)+64) (by omega) (by omega) (by rw [jg];omega) (by omega)
  rw [hz1,show ((l.length:Int)+64).toNat=l.length+64 by omega,cM] at this;exact this
 have h2:=hQ (JH 5 (.int .u8 0) (l.length+64) (by simp only [maxLen];omega) hF);have R1:=hQ r1;have hn0:(l.length:Int)≤140737488351232:=by omega
 clear hF hx r1;go_enter Tryz.func13,Tryz.ntmps13
 go_wp2;go_loopw [4] (fun i wr=> ∃(k:Nat) (zs:List Int),k≤l.length+64∧i= .int .i64 k∧dN w wr∧zs.length=l.length+64∧Hid (∀i,i<k→zs[i]? =(lW l)[i]?)∧Sat ((Row 5 1 (.slice (some ⟨w.heap.size,0,none⟩) (l.length+64) (l.length+64)) (l.length+64) (zs.map (Value.int .u8))).star ((Pr.own h).star F)) wr) (fun i _=>l.length+64-(intOf i).toNat)
 case atStart=>
  refine⟨0,List.replicate (l.length+64) 0,aG _,rfl,(dN.refl w).alloc _,by simp,hQ (fun i hi=>absurd hi (by omega)),?_⟩;rw [cZ];exact h2.af
 case round=>
  obtain⟨k,zs,hk,rfl,hst,hzl,Hm,hs⟩:=hrel;have sl:=hQ hzl;clear hzl;rcases aB k (l.length+64) with hlt | hge
  · obtain⟨_,_,e,_,hc⟩:=Row.read hs
    cases e;obtain⟨b,eb,hd⟩:=hc (by omega);cases eb
    have k0:∃u,wr.cell? ⟨w.heap.size,k,none⟩=some u:=by
     have:=(hd k (by omega)).1
     rw [ag (by rw [aH,sl.af];omega)] at this;exact⟨_,this⟩
    obtain⟨u,k0⟩:=k0;have kf:=(hd k (by omega)).2;have kz:=ay _ _ k0;clear hc hd;have HS:=hQ hs;have nM:=hQ hst;clear hst;rcases aB k l.length with hl1 | hl1
    · obtain⟨b,off,rfl,c1⟩:=R1.af k hl1
      have q1:=c1 wr hs.right.own;have HLO:=hQ (Gg hl1);clear c1 hs;generalize l.getD k 0=x at*;go_wp2;refine⟨⟨k+1,zs.set k (x),by omega,congrArg (Value.int .i64) (by omega),nM.af.setCell _ _,by rw [aU];exact sl.af,hQ ?_,?_⟩,by simp [intOf];omega⟩
      · have e:x=(lW l)[k]'(by rw [jb];omega):=HLO.af.symm
        rw [e];exact nZ (by rw [jb];exact sl.af) (by rw [jb];exact hlt) Hm.af
      · rw [bN]
        exact Row.set HS.af k (by rw [aH,sl.af];exact hlt) _
    · have HHI:=hQ (vT hl1 hlt)
      clear hs;go_wp2;refine⟨⟨k+1,zs.set k (bits .xor .i64 165 (k:Int) % 256),by omega,congrArg (Value.int .i64) (by omega),nM.af.setCell _ _,by rw [aU];exact sl.af,hQ ?_,?_⟩,by simp [intOf];omega⟩
      · have e:bits .xor .i64 165 (k:Int) % 256=(lW l)[k]'(by rw [jb];omega):=HHI.af.symm
        rw [e];exact nZ (by rw [jb];exact sl.af) (by rw [jb];exact hlt) Hm.af
      · rw [bN]
        exact Row.set HS.af k (by rw [aH,sl.af];exact hlt) _
  · have hkl:k=l.length+64:=by omega
    subst hkl;have e1:zs=lW l:=filled (by rw [jb];exact sl.af) (by intro i hi;rw [jb] at hi;exact Hm.af i hi);subst e1;have HS:=hQ hs;have nM:=hQ hst;clear hs hst Hm sl;go_wp2;go_ret;exact⟨w.heap.size,rfl,HS.af,nM.af⟩
end Go.Proofs.YtiegeadmgpanoaaGreatDoor.D2
namespace Go.Proofs.YtiegeadmgpanoaaGreatDoor.D2
open ChangeShapes WideShapes ChangeAt RowKit Sl fB Q3 X6
structure DL(cs:List Int)(on:Int→Option dR):Prop where
 ok:tO cs on
 full:∀n,jH cs n≠0→∃g,on n=some g
 n2:cs.length≤65536
theorem sX {refs:Int}{cs:List Int}{l:List mG}(h:(jw refs cs l).1=0):DL cs (jw refs cs l).2:=by
 unfold jw at h ⊢;split at h
 · cases h
 · rename_i hr
   rw [if_neg hr];have Xw:i7 cs.length refs=true:=by simpa using hr
   split at h
   · cases h
   · rename_i hb
     rw [if_neg hb];split at h
     · rename_i h1;exact absurd h h1
     · rename_i h1
       rw [if_neg h1];split at h
       · cases h
       · rename_i h2
         rw [if_neg h2];refine⟨K8 (tO.none cs),fun n hn=> ?_,by have:=Go.Proofs.YtiegeadmgpanoaaGreatDoor.D2.l7.1 Xw;omega⟩;cases ho:(lay cs l fun _=>none).2 n with
         | some g=>exact⟨g,rfl⟩
         | none=>exact absurd (rM.2 ⟨n,pB.2 hn,ho⟩) h2
theorem rS {cs:List Int}{on:Int→Option dR}(h:DL cs on){n:Int}{g:dR}(hg:pq cs on n=some g):jH cs n≠0∧on n=some g∧Fit g:=by
 unfold pq at hg;split at hg
 · cases hg
 · rename_i hc
   obtain⟨g2,h2⟩:=h.full n hc;rw [h2] at hg;cases hg;exact⟨hc,h2,h.ok.fit n _ h2⟩
theorem Ak {cs:List Int}{on:Int→Option dR}{n:Int}(hg:pq cs on n=none):jH cs n=0:=by
 unfold pq at hg;split at hg
 · assumption
 · cases hg
theorem DN {refs:Int}{cs:List Int}{on:Int→Option dR}(h:DL cs on):Looks (lN refs cs on) (pq cs on):=by
 constructor
 · intro n hn
   exact(lr refs cs n).trans (Ak hn)
 · intro n g hg
   obtain⟨h1,h2,h3⟩:=rS h hg;have hb:=pY h1;have:=h.n2
   exact⟨by omega,by rw [show (lN refs cs on).pool.count n=jH cs n from lr refs cs n];exact h1,h2,h3⟩
theorem JI {refs:Int}{cs:List Int}{on:Int→Option dR}(h:DL cs on):kT (fA refs cs 0) (jK cs.length on) (pq cs on):=by
 constructor
 · intro n hn
   exact(lr refs cs n).trans (Ak hn)
 · intro n g hg
   obtain⟨h1,h2,h3⟩:=rS h hg;obtain⟨b1,b2⟩:=pY h1;refine⟨by rw [show (fA refs cs 0).count n=jH cs n from lr refs cs n];exact h1,?_,h3⟩;unfold BF jK;rw [az,aO,List.getElem?_range (by omega)];simp only [Option.map_some,Option.getD_some];rw [show (((n.toNat-1:Nat):Int))+1=n by omega,h2];rfl
end Go.Proofs.YtiegeadmgpanoaaGreatDoor.D2
namespace Go.Proofs.YtiegeadmgpanoaaGreatDoor.D2
open ChangeShapes WideShapes ChangeAt RowKit Sl fB L3 Z3
def TW(i:Nat):Int:= -7-(i:Int)
def QR(l:List Int):List Int:=l++(List.range 64).map fun i=>TW (l.length+i)
abbrev Ya(b:Nat)(l:List Int):Pr:=Row 3 1 (.slice (some ⟨b,0,none⟩) (l.length+64) (l.length+64)) (l.length+64) ((QR l).map (Value.int .i64))
end Go.Proofs.YtiegeadmgpanoaaGreatDoor.D2
namespace Go.Proofs.YtiegeadmgpanoaaGreatDoor.D2
open ChangeShapes WideShapes ChangeAt RowKit Sl fB L3 Z3
theorem q' {b:Nat}{l:List Int}{hx:Hp}(h:iK b l hx):Bytes hx (.slice (some ⟨b,0,none⟩) l.length (l.length+64)) l:=by
 obtain⟨_,a,c,e,h1,h2,h3⟩:=Row.jh h;cases e;refine⟨by simp,some ⟨b,0,none⟩,l.length+64,rfl,by omega,h2,fun _=>⟨b,0,rfl,fun i hi=> ?_⟩⟩;obtain⟨b',off,eb,hc⟩:=h3 (by omega);cases eb;rw [hc i (by omega)];have xd:i<l.length:=by omega
 simp [lW,bG,xd]
theorem Mf {b:Nat}{l:List Int}{F:Pr}{w:World}(h:Sat ((iK b l).star F) w){k:Nat}(h1:l.length≤k)(h2:k<l.length+64):w.cell? ⟨b,k,none⟩=some (.int .u8 (Hl k)):=by
 obtain⟨_,_,e,_,hc⟩:=Row.read h;cases e;obtain⟨b',eb,hd⟩:=hc (by omega);cases eb;rw [(hd k (by omega)).1,aO,ag (by rw [jb];exact h2),vT h1 h2];rfl
theorem DO(b:Nat)(l:List Int)(h:Hp)(v:Value)(hx:Bytes h v l)(hn:l.length≤140737488351232)(F:Pr)(w:World)(hF:Sat ((iK b l).star ((Pr.own h).star F)) w):
 Calls Tryz.prog 25 #[.slice (some ⟨b,0,none⟩) l.length (l.length+64),v] w fun e w'=>e= .returned (.bool true)∧eV w w':=by
 obtain⟨a,ha,h2⟩:=hF.sf;have EQ:=hQ (oP a h _ v l (q' ha) hx (by omega) w h2.own h2.right.own);obtain⟨av,cv,rfl⟩:=eB hx;have HF:=hQ hF;have hn0:(l.length:Int)≤140737488351232:=by omega
 clear hF ha h2 hx;go_enter Tryz.func25,Tryz.ntmps25
 go_wp2_with fail
 refine EQ.af.mono ?_;rintro e w1 ⟨rfl,zA⟩;go_wp2_with fail
 go_loopw [6] (fun i wr=> ∃k:Nat,l.length≤k∧k≤l.length+64∧i= .int .i64 k∧eV w wr) (fun i _=>l.length+64-(intOf i).toNat)
 case atStart=>exact⟨l.length,aD _,by omega,rfl,zA⟩
 case round=>
  obtain⟨k,hk1,hk2,rfl,ho⟩:=hrel;rcases aB k (l.length+64) with hlt | hge
  · have q0:=Mf (HF.af.only ho) hk1 hlt
    unfold Hl at q0;go_wp2;go_roundw
    case rel=>exact⟨k+1,by omega,by omega,congrArg (Value.int .i64) (by omega),ho⟩
    case measure=>simp [intOf];omega
  · have hkl:k=l.length+64:=by omega
    subst hkl;go_wp2;go_ret;exact⟨rfl,ho⟩
end Go.Proofs.YtiegeadmgpanoaaGreatDoor.D2
namespace Go.Proofs.YtiegeadmgpanoaaGreatDoor.V7
open ChangeShapes WideShapes ChangeAt RowKit Sl fB L3 D2 Z3 E4
end Go.Proofs.YtiegeadmgpanoaaGreatDoor.V7
namespace Go.Proofs.YtiegeadmgpanoaaGreatDoor.D2
open ChangeShapes WideShapes ChangeAt RowKit Sl fB L3 Z3 E4
abbrev It:=(Value × Value) × en
abbrev Yb(b n c:Nat)(zs:List It):Pr:=Row 89 4 (.slice (some ⟨b,0,none⟩) n c) n (zs.flatMap eZ)
def TY:It:=((.slice none 0 0,.slice none 0 0),⟨[],[],0,0⟩)
def Yc(p:Nat × Nat)(x:en):Value × Value:=(.slice (some ⟨p.1,0,none⟩) x.key.length (x.key.length+64),.slice (some ⟨p.2,0,none⟩) x.value.length (x.value.length+64))
def Yd(i:Nat):It:=((.slice none 0 0,.slice none 0 0),⟨[],[], -5-(i:Int), -9⟩)
def spZ(bs:List (Nat × Nat))(its:List en)(k i:Nat):It:=if i<k then(if h:i<its.length then(Yc (bs.getD i (0,0)) its[i],its[i]) else Yd i) else TY
def spL(bs:List (Nat × Nat))(its:List en)(k:Nat):List It:=(List.range (its.length+2)).map (spZ bs its k)
def OQ(p:(Nat × Nat) × en):Pr:=(iK p.1.1 p.2.key).star (iK p.1.2 p.2.value)
structure WB where
 ib:Nat
 db:Nat
 bs:List (Nat × Nat)
def WB.pv(x:WB)(g:dR):Value:=fX g.kind g.level (.slice (some ⟨x.ib,0,none⟩) g.items.length (g.items.length+2)) (.slice (some ⟨x.db,0,none⟩) g.data.length (g.data.length+64)) g.next
abbrev T0(ib:Nat)(bs:List (Nat × Nat))(its:List en):Pr:=Yb ib (its.length+2) (its.length+2) (spL bs its (its.length+2))
abbrev QS(x:WB)(g:dR):Pr:=(T0 x.ib x.bs g.items).star ((big OQ (x.bs.zip g.items)).star (iK x.db g.data))
end Go.Proofs.YtiegeadmgpanoaaGreatDoor.D2
namespace Go.Proofs.YtiegeadmgpanoaaGreatDoor.D2
open ChangeShapes WideShapes ChangeAt RowKit Sl fB L3 Z3 E4 V7
def x17(z:Int):Int:=bits .xor .u8 z 17
def Ye(k:Nat)(l:List Int):List Int:=(l.take k).map x17++l.drop k
theorem uX {look:Int→Option dR}{N:Nat}:∀(k:Nat) (out:List Int) (n:Int),out.length≤N→(iz look N k out n).1.length≤N
 | 0,out,n,h=>by unfold iz;exact h
 | k+1,out,n,h=>by
   unfold iz;split
   · exact h
   · split
     · simp
     · split
       · simp
       · split
         · rename_i hc
           exact uX k _ _ (by have:=hc.1;rw [au];omega)
         · simp
theorem Al(look:Int→Option dR)(size child:Int)(value:List Int):(iI look size child value).1.length≤3840:=by
 unfold iI;split
 · simp
 · rename_i hb
   split
   · dsimp only;omega
   · exact bK (uX _ _ _ (by simp)) (by omega)
abbrev aar(b k:Nat)(l:List Int):Pr:=Row 5 1 (.slice (some ⟨b,0,none⟩) (l.length+64) (l.length+64)) (l.length+64) ((lW (Ye k l)).map (Value.int .u8))
end Go.Proofs.YtiegeadmgpanoaaGreatDoor.D2
namespace Go.Proofs.YtiegeadmgpanoaaGreatDoor.D2
open ChangeShapes WideShapes ChangeAt RowKit Sl fB L3 Z3 E4 X6
theorem Mg:Fit lj:=⟨by simp,by simp,fun x hx=>by cases hx⟩
theorem Hn:fV Hp.nil jY lj:=⟨_,_,rfl,tN (aG _),gj.nil _ _⟩
theorem rT(v:Nat)(s:eC)(look:Int→Option dR)(hl:Looks s look)(n:Int)(F:Pr)(w:World)(hF:Sat ((dZ v s).star F) w):
 Calls Tryz.prog 45 #[.pointer (some ⟨v,0,none⟩),.int .i64 n] w fun e w'=>
  dN w w'∧∃pv,e= .returned (.tuple #[pv,.int .i64 (if look n=none then 15 else 0)])∧∃h',fV h' pv ((look n).getD lj)∧Sat ((Pr.own h').star ((dZ v s).star F)) w':=by
 cases hn:look n with
 | none=>
   refine(zE v s n F w hF (hl.none n hn)).mono ?_;rintro e w' ⟨rfl,ho⟩;exact⟨ho.st,jY,by simp,Hp.nil,Hn,by rw [oS,Pr.fK];exact hF.only ho⟩
 | some g=>
   obtain⟨h1,h2,h3,h4⟩:=hl.some n g hn;refine(Af v s n h1 g h4 F w hF h2 h3).mono ?_;rintro e w' ⟨hst,pv,rfl,h',hp,hs⟩;exact⟨hst,pv,by simp,h',hp,hs⟩
theorem JJ(r:Nat)(s:ef)(gs:List dR)(hush:iJ)(look:Int→Option dR)(hl:kT s gs look)(n:Int)(F:Pr)(w:World)(hF:Sat ((kJ r s gs hush).star F) w):
 Calls Tryz.prog 46 #[.pointer (some ⟨r,0,none⟩),.int .i64 n] w fun e w'=>
  dN w w'∧∃pv,e= .returned (.tuple #[pv,.int .i64 (if look n=none then 15 else 0)])∧∃h',fV h' pv ((look n).getD lj)∧Sat ((Pr.own h').star ((kJ r s gs hush).star F)) w':=by
 cases hn:look n with
 | none=>
   refine(ym r s gs hush n F w hF (hl.none n hn)).mono ?_;rintro e w' ⟨rfl,ho⟩;exact⟨ho.st,jY,by simp,Hp.nil,Hn,by rw [oS,Pr.fK];exact hF.only ho⟩
 | some g=>
   obtain⟨h2,h3,h4⟩:=hl.some n g hn;refine(Gb r s gs hush n F w hF h2).mono ?_;rintro e w' ⟨hst,pv,rfl,h',hp,hs⟩;exact⟨hst,pv,by simp,h',by rw [h3] at hp;exact hp,hs⟩
theorem y9 {v:Nat}{s:eC}{x:VX}{F:Pr}{w:World}(h:Sat ((fc v s x).star F) w):
 w.cell? ⟨v,0,none⟩=some (.pointer (some ⟨x.p,0,none⟩))∧v<w.heap.size∧Sat ((eP x.p s.pool).star ((Pr.pts v (.cells #[.pointer (some ⟨x.p,0,none⟩),.map (some x.mb),x.av,.int .i64 s.floor] 108)).star
  ((((fD Tryz.prog 3 x.mb x.f).star ((Row 169 2 x.av s.acts.length (eI x.kA)).star (Pr.own x.h)))).star F))) w:=by
 have h2:Sat ((eP x.p s.pool).star ((Pr.pts v (.cells #[.pointer (some ⟨x.p,0,none⟩),.map (some x.mb),x.av,.int .i64 s.floor] 108)).star
  ((((fD Tryz.prog 3 x.mb x.f).star ((Row 169 2 x.av s.acts.length (eI x.kA)).star (Pr.own x.h)))).star F))) w:=h.perm (by unfold fc;ac_rfl)
 exact⟨by rw [cell_of_heap h2.right.dL];rfl,h2.right.lt,h2⟩
theorem y_ {v:Nat}{s:eC}{x:VX}{F X:Pr}{w:World}(h:Sat (X.star ((eP x.p s.pool).star ((Pr.pts v (.cells #[.pointer (some ⟨x.p,0,none⟩),.map (some x.mb),x.av,.int .i64 s.floor] 108)).star
 ((((fD Tryz.prog 3 x.mb x.f).star ((Row 169 2 x.av s.acts.length (eI x.kA)).star (Pr.own x.h)))).star F)))) w):Sat (X.star ((fc v s x).star F)) w:=h.perm (by unfold fc;ac_rfl)
theorem Ho {v:Value}{V:List Int}{F:Pr}{w:World}(h:Sat ((dX v V).star F) w):∃a,r_ a v V∧a.le w:=by
 obtain⟨a,ha,h2⟩:=h.sf;exact⟨a,Row.jh ha,h2.own⟩
end Go.Proofs.YtiegeadmgpanoaaGreatDoor.D2
namespace Go.Proofs.YtiegeadmgpanoaaGreatDoor.D2
open ChangeShapes WideShapes ChangeAt RowKit Sl fB L3 Z3 E4
structure SzP(g:dR):Prop where
 n:g.items.length≤2199023255488
 k:∀x∈g.items,x.key.length≤140737488351232∧x.value.length≤140737488351232
 d:g.data.length≤140737488351232
end Go.Proofs.YtiegeadmgpanoaaGreatDoor.D2
namespace Go.Proofs.YtiegeadmgpanoaaGreatDoor.D2
open ChangeShapes WideShapes ChangeAt RowKit Sl fB L3 Z3 E4
def qg(M:List Int)(n:Int):Option Value:=if n∈M then some (.int .i64 1) else none
theorem JK(n:Int)(M:List Int):(fun m=>if m=n then some (.int .i64 1) else qg M m)=qg (n :: M):=by
 funext m
 unfold qg;by_cases h:m=n
 · subst h;simp
 · by_cases h2:m∈M<;>simp [h,h2]
abbrev Nm(v mb:Nat)(keys:Int):Obj:= .cells #[.pointer (some ⟨v,0,none⟩),.map (some mb),.int .i64 keys] 101
abbrev rf(c v mb:Nat)(s:eC)(M:List Int)(keys:Int)(T:List Pr):List Pr:=dZ v s :: Pr.pts c (Nm v mb keys) :: fD Tryz.prog 3 mb (qg M) :: T
theorem DT(wx:World):(zeroValue 3).run Tryz.prog wx= .ok (.int .i64 0) wx:=by kernel_rfl
theorem rU {h:Hp}{pv:Value}{g:dR}(hp:fV h pv g):∃(iG iE:Option Addr) (gX iF:Nat),pv=fX g.kind g.level (.slice iG g.items.length gX) (.slice iE g.data.length iF) g.next:=by
 obtain⟨vi,vd,rfl,hi,hb⟩:=hp;obtain⟨a1,d1,rfl,_,_⟩:=fL hi;obtain⟨a2,d2,rfl⟩:=eB hb;exact⟨a1,a2,d1,d2,rfl⟩
abbrev ZP:Obj:=dV 0 0 (.slice none 0 0) (.slice none 0 0) 0
theorem vk(c v mb:Nat)(s:eC)(look:Int→Option dR)(hl:Looks s look)(M:List Int)(keys n:Int)(F:Pr)(w:World)(hF:dS (rf c v mb s M keys [F]) w):
 Calls Tryz.prog 81 #[.pointer (some ⟨c,0,none⟩),.int .i64 n] w fun e w'=>dN w w'∧
  ((gy look M n=none∧e= .returned (.tuple #[fX 0 0 (.slice none 0 0) (.slice none 0 0) 0,.bool false])∧dS (rf c v mb s M keys [F]) w')∨
   ∃g h' iG iE gX iF,gy look M n=some g∧e= .returned (.tuple #[fX g.kind g.level (.slice iG g.items.length gX) (.slice iE g.data.length iF) g.next,.bool true])∧fV h' (fX g.kind g.level (.slice iG g.items.length gX) (.slice iE g.data.length iF) g.next) g∧dS (Pr.own h' :: rf c v mb s (n :: M) keys [F]) w'):=by
 have hs0:=hF.alloc ZP;have RD:=hQ (rT v s look hl n _ _ (hs0.ej (A1:=dZ v s)));have eR:=hQ ((dN.refl w).alloc ZP);have c1:=hs0.fx;have HL:=hQ hl;clear hF hs0;cases hn:look n with
 | none=>
   rw [hn] at RD;simp only [if_true,Option.getD_none] at RD;have HE:=hQ (show gy look M n=none from by unfold gy;rw [hn];split<;>rfl);clear hn HL;generalize lj=g0 at*;go_enter Tryz.func81,Tryz.ntmps81
   go_wp2_with fail
   refine RD.af.mono ?_;rintro e w1 ⟨fN,pv,rfl,h1,hp,hs1⟩;obtain⟨iG,iE,gX,iF,rfl⟩:=rU hp;dsimp only [fX];generalize w.heap.size=BR at*;have hs2:=dS.mH hs1;have fP:=((((hs2.set BR 0 (.int .i64 0)).set BR 1 (.int .i64 0)).set BR 2 (.slice none 0 0)).set BR 3 (.slice none 0 0)).set BR 4 (.int .i64 0)
   have j8:=hQ (fP.alloc (dV g0.kind g0.level (.slice iG g0.items.length gX) (.slice iE g0.data.length iF) g0.next));have eQ:=hQ (eR.af.trans fN);clear c1;have c1:=hs2.fx;clear hs1 hs2 fP fN RD eR hp;go_wp2
   refine bodyPost_ret (gd rfl _ _ BR _ rfl (run_loadVar_row _ BR _ _ _ _ _ (j8.af.pts BR).dL Tryz.underlying83 rfl jW)) rfl ?_;exact⟨(((((eQ.af.setCell _ _).setCell _ _).setCell _ _).setCell _ _).setCell _ _).alloc _,.inl ⟨HE.af,rfl,j8.af.to⟩⟩
 | some g=>
   rw [hn] at RD;simp only [reduceCtorEq,if_false,Option.getD_some] at RD;obtain⟨hnb,_,_,_⟩:=HL.af.some n g hn;by_cases hM:n∈M
   · have HE:=hQ (show gy look M n=none from by unfold gy;rw [if_pos hM])
     have hlk:(qg M n).getD (.int .i64 0)= .int .i64 1:=by unfold qg;rw [if_pos hM];rfl
     clear hn HL hM;go_enter Tryz.func81,Tryz.ntmps81
     go_wp2_with fail
     refine RD.af.mono ?_;rintro e w1 ⟨fN,pv,rfl,h1,hp,hs1⟩;obtain⟨iG,iE,gX,iF,rfl⟩:=rU hp;dsimp only [fX];generalize w.heap.size=BR at*;have hs2:=dS.mH hs1;have LK:=hQ ((hs2.alloc (dV g.kind g.level (.slice iG g.items.length gX) (.slice iE g.data.length iF) g.next)).ej (A1:=fD Tryz.prog 3 mb (qg M)))
     have fP:=((((hs2.set BR 0 (.int .i64 0)).set BR 1 (.int .i64 0)).set BR 2 (.slice none 0 0)).set BR 3 (.slice none 0 0)).set BR 4 (.int .i64 0);have j8:=hQ (fP.alloc (dV g.kind g.level (.slice iG g.items.length gX) (.slice iE g.data.length iF) g.next));have eQ:=hQ (eR.af.trans fN);clear c1;have c1:=hs2.fx
     clear hs1 hs2 fP fN RD eR hp;have Yf:=ti Tryz.underlying3 Tryz.underlying99 (DT _) false hnb LK.af;simp only [hlk,bA,if_false,dV] at Yf;clear LK;go_wp2;refine bodyPost_ret (gd rfl _ _ BR _ rfl (run_loadVar_row _ BR _ _ _ _ _ (j8.af.pts BR).dL Tryz.underlying83 rfl jW)) rfl ?_
     exact⟨(((((eQ.af.setCell _ _).setCell _ _).setCell _ _).setCell _ _).setCell _ _).alloc _,.inl ⟨HE.af,rfl,j8.af.to⟩⟩
   · have HE:=hQ (show gy look M n=some g from by unfold gy;rw [if_neg hM,hn])
     have hlk:(qg M n).getD (.int .i64 0)= .int .i64 0:=by unfold qg;rw [if_neg hM];rfl
     clear hn HL hM;go_enter Tryz.func81,Tryz.ntmps81
     go_wp2_with fail
     refine RD.af.mono ?_;rintro e w1 ⟨fN,pv,rfl,h1,hp,hs1⟩;obtain⟨iG,iE,gX,iF,rfl⟩:=rU hp;dsimp only [fX];generalize w.heap.size=BR at*;have hs2:=dS.mH hs1;have fP:=hs2.alloc (dV g.kind g.level (.slice iG g.items.length gX) (.slice iE g.data.length iF) g.next);have LK:=hQ (fP.ej (A1:=fD Tryz.prog 3 mb (qg M)));have HP:=hQ hp
     have eQ:=hQ ((eR.af.trans fN).alloc (dV g.kind g.level (.slice iG g.items.length gX) (.slice iE g.data.length iF) g.next));clear c1;have c1:=hs2.fx;have z1:w1.heap.size=w1.heap.size:=rfl;clear hs1 hs2 fP fN RD eR hp;have Yf:=ti Tryz.underlying3 Tryz.underlying99 (DT _) false hnb LK.af
     simp only [hlk,bA,if_false,dV] at Yf
     go_wp2_with
      (refine sy rfl _ _ _ _ rfl Tryz.underlying3 Tryz.underlying99 n hnb (.int .i64 1) rfl rfl rfl LK.af ?_
       intro w4 fp mD
       rw [JK] at fp
       have gu:=dS.kS fp
       have pN:=hQ gu
       have HG5:=hQ (eQ.af.eH mD)
       clear c1
       have c1:=gu.fx
       clear fp gu mD)
     have mY:=hQ (((((pN.af.set BR 0 (.int .i64 g.kind)).set BR 1 (.int .i64 g.level)).set BR 2 (.slice iG g.items.length gX)).set BR 3 (.slice iE g.data.length iF)).set BR 4 (.int .i64 g.next));refine bodyPost_ret (gd rfl _ _ BR _ rfl (run_loadVar_row _ BR _ _ _ _ _ (mY.af.pts BR).dL Tryz.underlying83 rfl jW)) rfl ?_
     exact⟨((((HG5.af.setCell _ _).setCell _ _).setCell _ _).setCell _ _).setCell _ _,.inr ⟨g,HE.af,h1,iG,iE,gX,iF,rfl,HP.af,mY.af.to⟩⟩
end Go.Proofs.YtiegeadmgpanoaaGreatDoor.D2
namespace Go.Proofs.YtiegeadmgpanoaaGreatDoor.D2
open ChangeShapes WideShapes ChangeAt RowKit Sl fB L3 Z3 E4 X6
def y'(N:Nat)(M:List Int):List Value:=(List.range (N+1)).map fun i:Nat=> .bool (decide ((i:Int)∈M))
theorem Mh(N:Nat)(M:List Int)(j:Nat):(y' N M).set j (.bool true)=y' N ((j:Int) :: M):=by
 apply cq (by simp [y']);intro i h1 h2;by_cases hij:j=i
 · subst hij
   simp [y']
 · rw [List.getElem_set_ne hij]
   have:¬((i:Int)=(j:Int)):=by omega
   simp [y',this]
abbrev vm(b cap N:Nat)(M:List Int):Pr:=Row 4 1 (.slice (some ⟨b,0,none⟩) (N+1) cap) (N+1) (y' N M)
theorem QT {b cap N:Nat}{M:List Int}{F:Pr}{w:World}(h:Sat ((vm b cap N M).star F) w){j:Nat}(hj:j≤N):w.cell? ⟨b,j,none⟩=some (.bool (decide ((j:Int)∈M)))∧w.frozen? ⟨b,j,none⟩=false:=by
 obtain⟨a,c,hv,hl,hc0⟩:=Row.read h;obtain⟨b',ha,hc⟩:=hc0 (by omega);cases hv;cases ha;have h1:=hc j (by rw [cM];omega);refine⟨h1.1.trans ?_,h1.2⟩;simp [y',show j<N+1 by omega]
abbrev Kl(r b cap N:Nat)(keys:Int):Obj:= .cells #[.pointer (some ⟨r,0,none⟩),.slice (some ⟨b,0,none⟩) (N+1) cap,.int .i64 keys] 96
abbrev kO(c r b cap:Nat)(s:ef)(gs:List dR)(hush:iJ)(x:RX)(M:List Int)(keys:Int)(T:List Pr):List Pr:=eE r s gs hush x :: Pr.pts c (Kl r b cap s.counts.length keys) :: vm b cap s.counts.length M :: T
theorem Am {s:ef}{gs:List dR}{x:RX}(ok:yk s gs x){n:Int}(h:s.count n≠0):s.there n∧0<s.count n:=by
 by_cases ht:s.there n
 · refine⟨ht,?_⟩
   obtain⟨j,rfl,hj⟩:=ly ht;rw [pH hj] at h ⊢
   have:s.counts.getD j 0∈s.counts:=by
    rw [az,ag hj];exact aE hj
   have:=ok.c0 _ this
   omega
 · exact absurd (by unfold ef.count;rw [if_neg ht]) h
theorem sY(c r b cap:Nat)(s:ef)(gs:List dR)(hush:iJ)(x:RX)(ok:yk s gs x)(look:Int→Option dR)(hl:kT s gs look)(M:List Int)(keys n:Int)(F:Pr)(w:World)(hF:dS (kO c r b cap s gs hush x M keys [F]) w):
 Calls Tryz.prog 78 #[.pointer (some ⟨c,0,none⟩),.int .i64 n] w fun e w'=>dN w w'∧
  ((gy look M n=none∧e= .returned (.bool false)∧dS (kO c r b cap s gs hush x M keys [F]) w')∨
   ∃g,gy look M n=some g∧e= .returned (.bool true)∧dS (kO c r b cap s gs hush x (n :: M) keys [F]) w'):=by
 have RT:=hQ (mS r s gs hush n _ w (iw.2 ⟨x,ok,hF.ej (A1:=eE r s gs hush x)⟩));have c1:=hF.fx;have HS:=hQ hF;have eR:=hQ (dN.refl w);cases hn:look n with
 | none=>
   rw [hl.none n hn] at RT;have HE:=hQ (show gy look M n=none from by unfold gy;rw [hn];split<;>rfl);clear hF hl hn ok;go_enter Tryz.func78,Tryz.ntmps78
   go_wp2_with fail
   refine RT.af.mono ?_;rintro e w1 ⟨rfl,rfl⟩;go_wp2;go_ret;exact⟨eR.af,.inl ⟨HE.af,rfl,HS.af⟩⟩
 | some g=>
   obtain⟨h1,_,_⟩:=hl.some n g hn;obtain⟨ht,hp⟩:=Am ok h1;rw [decide_eq_true hp] at RT;obtain⟨j,rfl,hj⟩:=ly ht;have rH:=ok.n2;obtain⟨m0,m1⟩:=QT (hF.ej (A1:=vm b cap s.counts.length M)) (j:=j+1) (by omega);have mz:=ay _ _ m0;simp only at mz;rw [show (((j+1:Nat)):Int)=(j:Int)+1 by omega] at m0;have Pt:((j:Int)+1).toNat=j+1:=by omega
   have aas:(j:Int)+1<(s.counts.length:Int)+1:=by omega
   by_cases hM:(j:Int)+1∈M
   · rw [decide_eq_true hM] at m0
     have HE:=hQ (show gy look M ((j:Int)+1)=none from by unfold gy;rw [if_pos hM]);clear hF hl hn ok hM ht hp h1;go_enter Tryz.func78,Tryz.ntmps78
     go_wp2_with fail
     refine RT.af.mono ?_;rintro e w1 ⟨rfl,rfl⟩;go_wp2;go_ret;exact⟨eR.af,.inl ⟨HE.af,rfl,HS.af⟩⟩
   · rw [decide_eq_false hM] at m0
     have HE:=hQ (show gy look M ((j:Int)+1)=some g from by unfold gy;rw [if_neg hM,hn]);have hs2:=dS.kS (Row.set (hF.ej (A1:=vm b cap s.counts.length M)) (i:=j+1) (by omega) (.bool true));rw [Mh,show (((j+1:Nat)):Int)=(j:Int)+1 by omega] at hs2;have Yg:=hQ (hs2.to (M:=kO c r b cap s gs hush x (((j:Int)+1) :: M) keys [F]));clear hF hl hn ok hM ht hp h1 hs2
     go_enter Tryz.func78,Tryz.ntmps78
     go_wp2_with fail
     refine RT.af.mono ?_;rintro e w1 ⟨rfl,rfl⟩;go_wp2;go_ret;exact⟨eR.af.setCell _ _,.inr ⟨g,HE.af,rfl,Yg.af⟩⟩
end Go.Proofs.YtiegeadmgpanoaaGreatDoor.D2
namespace Go.Proofs.YtiegeadmgpanoaaGreatDoor.D2
open ChangeShapes WideShapes ChangeAt RowKit Sl fB L3 Z3 E4 X6
theorem JL {r:Nat}{s:ef}{gs:List dR}{hush:iJ}{L R:List Pr}{w:World}(o:dS L w) [j9 (kJ r s gs hush) L R]:
 ∃y,yk s gs y∧dS (Pr.pts r (mg s.refs y.cv y.lv y.pv hush) :: dX y.cv s.counts :: eK y.lv s.last :: kN y.pv y.xs gs :: Pr.own y.h :: R) w:=by
 obtain⟨y,ok,h⟩:=iw.1 (o.ej (A1:=kJ r s gs hush));exact⟨y,ok,⟨h.perm (by unfold eE;simp only [eJ];ac_rfl)⟩⟩
theorem JM {r:Nat}{s:ef}{gs:List dR}{hush:iJ}{y:RX}(ok:yk s gs y){R:List Pr}{w:World}(o:dS (Pr.pts r (mg s.refs y.cv y.lv y.pv hush) :: dX y.cv s.counts :: eK y.lv s.last :: kN y.pv y.xs gs :: Pr.own y.h :: R) w):dS (kJ r s gs hush :: R) w:=
 ⟨iw.2 ⟨y,ok,o.sat.perm (by unfold eE;simp only [eJ];ac_rfl)⟩⟩
theorem JO(v r:Nat)(s:eC)(rs:ef)(gs:List dR)(hush:iJ)(look:Int→Option dR)(hl:Looks s look)(hrl:kT rs gs look)(hc:s.pool.counts=rs.counts)(F:Pr)(w:World)(hF:dS [dZ v s,kJ r rs gs hush,F] w):
 Calls Tryz.prog 11 #[.pointer (some ⟨v,0,none⟩),.pointer (some ⟨r,0,none⟩)] w fun e w'=>e= .returned (.bool true)∧dN w w'∧dS [dZ v s,kJ r rs gs hush,F] w':=by
 obtain⟨y,QU,hs1⟩:=JL (r:=r) (s:=rs) (gs:=gs) (hush:=hush) hF;obtain⟨ac,cc,P1,_,_⟩:=Row.read (hs1.ej (A1:=dX y.cv rs.counts));have rH:=QU.n2;have S6:(rs.counts.length:Int)≤65536:=by omega
 obtain⟨x,ok,h1⟩:=gC.1 (hs1.ej (A1:=dZ v s));obtain⟨v0,vz,h2⟩:=y9 h1;have CA:=hQ (Lq x.p s.pool _ _ h2.drew);rw [hc] at CA;have c1:=hs1.fx;rw [P1] at c1;have xB:=hQ (And.intro ok (And.intro QU rH));have HL:=hQ (And.intro hl (And.intro hrl hc));have WE:=hQ P1;clear hF hs1 h1 h2 ok QU hl hrl hc P1 rH
 go_enter Tryz.func11,Tryz.ntmps11
 go_wp2_with fail
 refine wS 48 [0,1,2,3,5,6,7,8] [(4,[],[0,1,2,5,6,7,8]),(9,[10],[0,1,2,5,6,7])] ?_;refine dY _ rfl rfl ?_;simp only [pick,pQ];iterate 8 (go_big_quiet_step (fail))
 refine wpQuiet_nil ?_;refine dK rfl ?_;go_wp2_with fail
 refine CA.af.mono ?_;rintro e w2 ⟨cv1,rfl,hs2,kU⟩;obtain⟨ac1,cc1,e1,_,_⟩:=Row.read hs2;subst e1;have fP:=dS.mH (A1:=dZ v s) (A2:=dX (.slice ac1 rs.counts.length cc1) rs.counts) (gC.2 ⟨x,xB.af.1,(y_ hs2).perm (Pr.eD _ _ _)⟩);clear c1 v0 vz CA;have c1:=fP.fx;rw [WE.af] at c1
 obtain⟨a1,i1,l1⟩:=Ho (fP.ej (A1:=dX (.slice ac1 rs.counts.length cc1) rs.counts));obtain⟨a2,i2,l2⟩:=Ho (fP.ej (A1:=dX y.cv rs.counts));rw [WE.af] at i2;have EI:=hQ (Dj a1 a2 _ _ rs.counts i1 i2 xB.af.2.2 w2 l1 l2);have j8:=hQ fP;have fa:=hQ ((dN.refl w).drew.trans kU);clear hs2 fP kU i1 i2 l1 l2;go_wp2;refine dQ ?_;refine dU ⟨?_,?_⟩
 · exact cQ
 refine dK rfl ?_;go_wp2_with fail
 refine EI.af.mono ?_;rintro e w4 ⟨rfl,oe⟩;have fp:=j8.af.ext oe.heap;clear c1;have c1:=fp.fx;rw [WE.af] at c1
 have H6:=hQ ((JM (r:=r) (hush:=hush) xB.af.2.1 (fp.to (M:=Pr.pts r (mg rs.refs y.cv y.lv y.pv hush) :: dX y.cv rs.counts :: eK y.lv rs.last :: kN y.pv y.xs gs :: Pr.own y.h :: [dZ v s,F]))).to (M:= [dZ v s,kJ r rs gs hush,F]));have iM:=hQ (fa.af.trans oe.st);clear fp EI j8 fa oe;go_wp2;refine dQ ?_;refine dY _ rfl rfl ?_;simp only [pick,pQ]
 iterate 1 (go_big_quiet_step (fail))
 refine wpQuiet_nil ⟨?_,?_⟩
 · exact cQ
 refine dW ?_;clear WE xB;go_wp2_with fail
 clear c1;go_loopw [5] (fun i wr=> ∃k:Nat,1≤k∧k≤rs.counts.length+1∧i= .int .i64 k∧dN w wr∧dS [dZ v s,kJ r rs gs hush,F] wr) (fun i _=>rs.counts.length+1-(intOf i).toNat)
 case atStart=>exact⟨1,aD _,by omega,rfl,iM.af,H6.af⟩
 case round=>
  obtain⟨k,hk1,hk2,rfl,hst,hs⟩:=hrel;clear H6 iM;have RL:=hQ (yl r rs gs hush _ _ (hs.ej (A1:=kJ r rs gs hush)));have eR:=hQ hst;rcases aB rs.counts.length k with hgt | hle
  · have HS:=hQ hs
    clear hs hst;go_wp2_with fail
    refine RL.af.mono ?_;rintro e w1 ⟨rfl,rfl⟩;go_wp2;go_ret;exact⟨rfl,eR.af,HS.af⟩
  · obtain⟨g,hg⟩:∃g,(look (k:Int)).getD lj=g:=⟨_,rfl⟩
    obtain⟨er,PX⟩:∃er:Int,(if look (k:Int)=none then(15:Int) else 0)=er:=⟨_,rfl⟩
    have hfit:Fit g:=by
     rw [← hg];cases hk:look (k:Int) with
     | none=>exact Mg
     | some g2=>exact(HL.af.1.some _ g2 hk).2.2.2
    have Yh:=fun F w hF=>JJ r rs gs hush look HL.af.2.1 k F w hF
    have Yi:=rT v s look HL.af.1 k _ _ (hs.ej (A1:=dZ v s));rw [hg,PX] at Yi;rw [hg,PX] at Yh;have T_:=hQ Yh;have Ua:=hQ Yi;have yW:=hQ hfit;clear hs hst hg PX Yi Yh hfit;go_wp2_with fail
    refine RL.af.mono ?_;rintro e w1 ⟨rfl,rfl⟩;go_wp2_with fail
    refine Ua.af.mono ?_;rintro e w1 ⟨fN,pv,rfl,h1,Em,hs1⟩;obtain⟨vi,vd,rfl,En,hd1⟩:=id Em;obtain⟨ai,ci,rfl,_,_⟩:=fL En;obtain⟨ad,cd,rfl⟩:=eB hd1;clear En hd1 Ua RL;have hs2:=(dS.mH hs1).alloc (dV g.kind g.level (.slice ai g.items.length ci) (.slice ad g.data.length cd) g.next);have RR:=hQ (T_.af _ _ (hs2.ej (A1:=kJ r rs gs hush)))
    have eQ:=hQ ((eR.af.trans fN).alloc (dV g.kind g.level (.slice ai g.items.length ci) (.slice ad g.data.length cd) g.next));have P3:=hQ Em;clear hs1 hs2 fN eR Em T_;go_wp2_with fail
    refine RR.af.mono ?_;rintro e w2 ⟨kU,zF,rfl,h2,QK,fp⟩;obtain⟨wi,wd,rfl,xd,zq⟩:=id QK;obtain⟨bi,di,rfl,_,_⟩:=fL xd;obtain⟨bd,dd,rfl⟩:=eB zq;clear xd zq RR;have gu:=dS.mH fp;have c1:=gu.fx;have gQ:=gu.alloc (dV g.kind g.level (.slice bi g.items.length di) (.slice bd g.data.length dd) g.next)
    have fa:=hQ ((eQ.af.trans kU).alloc (dV g.kind g.level (.slice bi g.items.length di) (.slice bd g.data.length dd) g.next));have EP:=hQ (Dq h1 h2 _ _ g P3.af QK yW.af _ (gQ.le (a:=h1)) (gQ.le (a:=h2)));have HE:=hQ (gQ.to (M:= [dZ v s,kJ r rs gs hush,F]));clear fp gu gQ kU eQ QK;go_wp2_with fail
    refine EP.af.mono ?_;rintro e w5 ⟨rfl,oe⟩;have Yg:=hQ (HE.af.ext oe.heap);have gg:=hQ (fa.af.trans oe.st);clear oe EP HE fa c1;go_wp2;go_roundw
    case rel=>exact⟨k+1,by omega,by omega,congrArg (Value.int .i64) (by omega),gg.af,Yg.af⟩
    case measure=>simp [intOf];omega
end Go.Proofs.YtiegeadmgpanoaaGreatDoor.D2
namespace Go.Proofs.YtiegeadmgpanoaaGreatDoor.D2
open ChangeShapes WideShapes ChangeAt RowKit Sl fB L3 Z3
structure NX where
 n:mG
 x:WB
def nxV(y:NX):Value × Value:=(.slice (some ⟨y.x.ib,0,none⟩) y.n.page.items.length (y.n.page.items.length+2),.slice (some ⟨y.x.db,0,none⟩) y.n.page.data.length (y.n.page.data.length+64))
def OR(y:NX):List Value:= [.int .i64 y.n.no,.int .i64 y.n.page.kind,.int .i64 y.n.page.level,(nxV y).1,(nxV y).2,.int .i64 y.n.page.next]
def aat(y:NX):Pr:=QS y.x y.n.page
def aau(y:NX):Prop:=y.x.bs.length=y.n.page.items.length
structure WX where
 n:mG
 vi:Value
 vd:Value
 h:Hp
def OS(y:WX):List Value:= [.int .i64 y.n.no,.int .i64 y.n.page.kind,.int .i64 y.n.page.level,y.vi,y.vd,.int .i64 y.n.page.next]
def aav(y:WX):Pr:=Pr.own y.h
def aaw(y:WX):Prop:=h_ y.h y.vi y.n.page.items∧Bytes y.h y.vd y.n.page.data
abbrev aac(v:Value)(n:Nat)(ys:List NX):Pr:=Row 91 6 v n (ys.flatMap OR)
abbrev aad(v:Value)(n:Nat)(ys:List WX):Pr:=Row 91 6 v n (ys.flatMap OS)
abbrev aax(b n:Nat)(zs:List Int):Pr:=Row 3 1 (.slice (some ⟨b,0,none⟩) (n+64) (n+64)) (n+64) (zs.map (Value.int .i64))
end Go.Proofs.YtiegeadmgpanoaaGreatDoor.D2
namespace Go.Proofs.YtiegeadmgpanoaaGreatDoor.D2
open ChangeShapes WideShapes ChangeAt RowKit Sl fB L3 Z3 E4 X5
theorem vU {look:Int→Option dR}{lack n:Int}{M:List Int}(h:0<lack):jv look lack.toNat lack n M=match gy look M n with
 | none=>(15,M)
 | some g=>if g.kind≠3 then(15,n :: M) else if(g.data.length:Int)≠min lack 480∨¬(g.next=0↔lack≤480) then(5,n :: M) else jv look (lack-min lack 480).toNat (lack-min lack 480) g.next (n :: M):=by
 obtain⟨k,hk⟩:∃k,lack.toNat=k+1:=⟨lack.toNat-1,by omega⟩;rw [hk];conv=>lhs;unfold jv
 rw [if_neg (by omega)];cases gy look M n with
 | none=>rfl
 | some g=>
   simp only;split
   · rfl
   · split
     · rfl
     · exact qS look k _ _ _ (by omega)
theorem Mj(c v mb:Nat)(s:eC)(look:Int→Option dR)(hl:Looks s look)(M:List Int)(keys:Int)(hk:0≤keys∧keys≤4611686018427387904)(x:en)(r:fw)(h:Hp)(iv rv:Value)(hi:nD h iv x)(hr:gJ h rv r)(ux:U8 x.key)(ur:wT r)(nx:x.key.length≤140737488355328)(hs:x.size≤3840)(F:Pr)(w:World)(hF:dS (rf c v mb s M keys [Pr.own h,F]) w):
 Calls Tryz.prog 82 #[.pointer (some ⟨c,0,none⟩),iv,rv] w fun e w'=>dN w w'∧e= .returned (.int .i64 (g_ look x r (M,keys)).1)∧dS (rf c v mb s (g_ look x r (M,keys)).2.1 (g_ look x r (M,keys)).2.2 [Pr.own h,F]) w':=by
 obtain⟨kv,vv,rfl,hkb,hvb⟩:=hi;obtain⟨lo,hi,rfl,hlo,mK⟩:=id hr;obtain⟨ak,ck,rfl,_⟩:=eL hkb;obtain⟨av,cv,rfl,_⟩:=eL hvb;obtain⟨rl,dl,rfl,_⟩:=eL hlo;obtain⟨rh,dh,rfl,_⟩:=eL mK;have hs0:=(hF.alloc (.cells #[.slice ak x.key.length ck,.slice av x.value.length cv,.int .i64 x.child,.int .i64 x.size] 89)).alloc (dO (.slice rl r.lo.length dl) (.slice rh r.hi.length dh) r.op)
 rw [show (w.alloc (.cells #[.slice ak x.key.length ck,.slice av x.value.length cv,.int .i64 x.child,.int .i64 x.size] 89)).heap.size=w.heap.size+1 by simp] at hs0;have HH:=hQ (Bz h _ _ r x.key hr hkb ur ux nx _ hs0.le)
 have eR:=hQ (((dN.refl w).alloc (.cells #[.slice ak x.key.length ck,.slice av x.value.length cv,.int .i64 x.child,.int .i64 x.size] 89)).alloc (dO (.slice rl r.lo.length dl) (.slice rh r.hi.length dh) r.op));have jC:=hQ hs0;have HL:=hQ hl;have c1:=hs0.fx;clear hF hs0 hkb hvb hlo mK hr ux ur nx hl;cases oN:iV r x.key with
 | false=>
   rw [oN] at HH;have hv:g_ look x r (M,keys)=(11,(M,keys)):=by unfold g_;rw [if_pos oN]
   rw [hv];clear hv oN HL;go_enter Tryz.func82,Tryz.ntmps82
   go_wp2_with fail
   refine HH.af.mono ?_;rintro e w1 ⟨rfl,ho⟩;have hs1:=jC.af.ext ho.heap;have eQ:=hQ (eR.af.trans ho.st);clear HH jC eR ho c1;have HE:=hQ (hs1.to (M:=rf c v mb s M keys [Pr.own h,F]));have QV:=eQ;go_wp2;go_ret;exact⟨QV.af,rfl,HE.af⟩
 | true=>
   rw [oN] at HH;by_cases Hj:x.size≤32
   · have hv:g_ look x r (M,keys)=(0,(M,keys+1)):=by unfold g_;rw [if_neg (by rw [oN];simp),if_pos Hj]
     rw [hv];clear hv oN HL;go_enter Tryz.func82,Tryz.ntmps82
     go_wp2_with fail
     refine HH.af.mono ?_;rintro e w1 ⟨rfl,ho⟩;have hs1:=jC.af.ext ho.heap;have eQ:=hQ (eR.af.trans ho.st);clear c1;have c1:=hs1.fx;have HE:=hQ ((hs1.set c 2 (.int .i64 (keys+1))).to (M:=rf c v mb s M (keys+1) [Pr.own h,F]));clear HH jC eR ho hs1;go_wp2;go_ret;exact⟨eQ.af.setCell _ _,rfl,HE.af⟩
   · have hv:g_ look x r (M,keys)=((jv look x.size.toNat x.size x.child M).1,((jv look x.size.toNat x.size x.child M).2,keys+1)):=by unfold g_;rw [if_neg (by rw [oN];simp),if_neg Hj]
     rw [hv];clear hv oN;go_enter Tryz.func82,Tryz.ntmps82
     go_wp2_with fail
     refine HH.af.mono ?_;rintro e w1 ⟨rfl,ho⟩;have hs1:=jC.af.ext ho.heap;have eQ:=hQ ((eR.af.trans ho.st).setCell ⟨c,2,none⟩ (.int .i64 (keys+1)));clear c1;have c1:=hs1.fx;have hs2:=hs1.set c 2 (.int .i64 (keys+1));generalize w.heap.size+1=BG at*;generalize w.heap.size=BI at*
     have lK:=hQ (hs2.to (M:=rf c v mb s M (keys+1) [Pr.pts BG (dO (.slice rl r.lo.length dl) (.slice rh r.hi.length dh) r.op),Pr.pts BI (.cells #[.slice ak x.key.length ck,.slice av x.value.length cv,.int .i64 x.child,.int .i64 x.size] 89),Pr.own h,F]));clear HH jC eR ho hs1 hs2;go_wp2;clear c1
     go_loopw [7,8] (fun lf nn wr=> ∃(lack n:Int) (M':List Int),lf= .int .i64 lack∧nn= .int .i64 n∧lack≤3840∧dN w wr∧Hid (jv look x.size.toNat x.size x.child M=jv look lack.toNat lack n M')∧dS (rf c v mb s M' (keys+1) [Pr.pts BG (dO (.slice rl r.lo.length dl) (.slice rh r.hi.length dh) r.op),Pr.pts BI (.cells #[.slice ak x.key.length ck,.slice av x.value.length cv,.int .i64 x.child,.int .i64 x.size] 89),Pr.own h,F]) wr) (fun lf _ _=>(intOf lf).toNat)
     case atStart=>exact⟨x.size,x.child,M,rfl,rfl,hs,eQ.af,hQ rfl,lK.af⟩
     case round=>
      obtain⟨lack,n,M',rfl,rfl,hlk,hst,heq,mh⟩:=hrel;clear eQ lK;have eR:=hQ hst;have c1:=mh.fx;by_cases hz:0<lack
      · have EN:=hQ (vk c v mb s look HL.af M' (keys+1) n _ _ (dS.Qk (mh.vB (A1:=dZ v s) (A2:=Pr.pts c (Nm v mb (keys+1))) (A3:=fD Tryz.prog 3 mb (qg M')))))
        have uo:=hQ (heq.af.trans (vU hz));clear hst heq mh;go_wp2_with fail
        refine EN.af.mono ?_;rintro e w3 ⟨mF,(⟨hen,rfl,fP⟩ | ⟨g,h1,iG,iE,gX,iF,hen,rfl,oK,fP⟩)⟩
        · have heq:=uo.af
          rw [hen] at heq;simp only at heq;have HQ:=hQ heq;have fp:=fP.flat;have gg:=hQ ((eR.af.trans mF).alloc (dV 0 0 (.slice none 0 0) (.slice none 0 0) 0));have HE:=hQ ((fp.alloc (dV 0 0 (.slice none 0 0) (.slice none 0 0) 0)).to (M:=rf c v mb s M' (keys+1) [Pr.own h,F]));clear c1 heq;have c1:=fp.fx
          clear fP fp mF EN uo hen;go_wp2;go_ret;rw [HQ.af];exact⟨gg.af,rfl,HE.af⟩
        · have heq:=uo.af
          rw [hen] at heq;simp only at heq;have fp:=fP.flat;have gg:=hQ ((eR.af.trans mF).alloc (dV g.kind g.level (.slice iG g.items.length gX) (.slice iE g.data.length iF) g.next));have gu:=fp.alloc (dV g.kind g.level (.slice iG g.items.length gX) (.slice iE g.data.length iF) g.next);have pN:=hQ gu;clear c1;have c1:=fp.fx;dsimp only [fX];clear fP fp gu mF EN uo hen oK;by_cases hk3:g.kind≠3
          · rw [if_pos hk3] at heq
            have HQ:=hQ heq;have HE:=hQ (pN.af.to (M:=rf c v mb s (n :: M') (keys+1) [Pr.own h,F]));clear heq;go_wp2;go_ret;rw [HQ.af];exact⟨gg.af,rfl,HE.af⟩
          · rw [if_neg hk3] at heq
            have Yj:g.kind=3:=by omega
            rw [Yj] at gg pN;obtain⟨m,hm⟩:∃m,min lack 480=m:=⟨_,rfl⟩;have PZ:0<m∧m≤lack∧m≤480∧(m=lack∨m=480):=by omega
            have Yk:(lack-m=0)=(lack≤480):=by apply propext;omega
            rw [hm] at heq;by_cases hd:(g.data.length:Int)=m
            · by_cases hx:g.next=0↔lack≤480
              · rw [if_neg (by intro h;rcases h with h | h;exact h hd;exact h hx)] at heq
                have HQ:=hQ heq;have mY:=hQ (pN.af.to (M:=rf c v mb s (n :: M') (keys+1) [Pr.pts BG (dO (.slice rl r.lo.length dl) (.slice rh r.hi.length dh) r.op),Pr.pts BI (.cells #[.slice ak x.key.length ck,.slice av x.value.length cv,.int .i64 x.child,.int .i64 x.size] 89),Pr.own h,F]));clear heq pN
                have hbb:(g.next == 0)=(lack-m == 0):=by
                 rw [aL,beq_iff_eq,beq_iff_eq,hx];omega
                clear hx Yk;go_wp2_with (refine kZ rfl _ _ rfl rfl lack 480 m hm.symm rfl rfl ?_)
                go_roundw
                case rel=>exact⟨lack-m,g.next,n :: M',rfl,rfl,by omega,gg.af,HQ,mY.af⟩
                case measure=>simp [intOf];omega
              · rw [if_pos (.inr hx)] at heq
                have HQ:=hQ heq;have HE:=hQ (pN.af.to (M:=rf c v mb s (n :: M') (keys+1) [Pr.own h,F]));clear heq
                have hbb:(g.next == 0)= !(lack-m == 0):=by
                 rw [aL,beq_iff_eq,Bool.not_eq_true',beq_eq_false_iff_ne];omega
                clear hx Yk;go_wp2_with (refine kZ rfl _ _ rfl rfl lack 480 m hm.symm rfl rfl ?_)
                go_ret;rw [HQ.af];exact⟨gg.af,rfl,HE.af⟩
            · rw [if_pos (.inl hd)] at heq
              have HQ:=hQ heq;have HE:=hQ (pN.af.to (M:=rf c v mb s (n :: M') (keys+1) [Pr.own h,F]));have R9:((g.data.length:Int) != m)=true:=bne_iff_ne.2 hd;clear heq Yk hd;go_wp2_with (refine kZ rfl _ _ rfl rfl lack 480 m hm.symm rfl rfl ?_)
              go_ret;rw [HQ.af];exact⟨gg.af,rfl,HE.af⟩
      · have h0:jv look lack.toNat lack n M'=(0,M'):=by
         rw [show lack.toNat=0 by omega];rfl
        have HQ:=hQ (heq.af.trans h0);have HE:=hQ (mh.to (M:=rf c v mb s M' (keys+1) [Pr.own h,F]));clear hst heq mh h0;go_wp2;go_ret;rw [HQ.af];exact⟨eR.af,rfl,HE.af⟩
end Go.Proofs.YtiegeadmgpanoaaGreatDoor.D2
