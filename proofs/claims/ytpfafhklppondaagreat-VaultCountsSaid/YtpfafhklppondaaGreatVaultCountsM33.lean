/- The law's load of any item over both vaults; the conditions stand as hypotheses. -/
import Derived.Test.YtpfafhklppondaaGreatVaultCountsM30
import Derived.Test.YtpfafhklppondaaGreatVaultCountsM29
import Derived.Test.YtpfafhklppondaaGreatVaultCountsM22
import Derived.Test.YtpfafhklppondaaGreatVaultCountsM28
import Derived.Test.YtpfafhklppondaaGreatVaultCountsM17
set_option maxRecDepth 100000
set_option maxHeartbeats 16000000
namespace Go.Proofs.YtpfafhklppondaaGreat.J9
open ChangeShapes WideShapes ChangeAt RowKit Sl Cop P3 G4 Q2 X2 D3 J4 L4 P4 Q6 X7 K8 T8 X8 Y8 B8 L8 M8 B9
abbrev workC(v r:Nat)(bv wv tv xv:Value):Obj:= .cells #[.pointer (some ⟨v,0,none⟩),.pointer (some ⟨r,0,none⟩),bv,wv,tv,xv] 56
def x17(z:Int):Int:=bits .xor .u8 z 17
def xorK(k:Nat)(l:List Int):List Int:=(l.take k).map x17++l.drop k
theorem chain_len {look:Int→Option PageV}{N:Nat}:∀(k:Nat) (out:List Int) (n:Int),out.length≤N→(chainL look N k out n).1.length≤N
 | 0,out,n,h=>by unfold chainL;exact h
 | k+1,out,n,h=>by
   unfold chainL;split
   · exact h
   · split
     · simp
     · split
       · simp
       · split
         · rename_i hc
           exact chain_len k _ _ (by have:=hc.1;rw [List.length_append];omega)
         · simp
abbrev XRow(b k:Nat)(l:List Int):Pr:=Row 5 1 (.slice (some ⟨b,0,none⟩) (l.length+64) (l.length+64)) (l.length+64) ((spareL (xorK k l)).map (Value.int .u8))
end Go.Proofs.YtpfafhklppondaaGreat.J9
namespace Go.Proofs.YtpfafhklppondaaGreat.Q9
open ChangeShapes WideShapes ChangeAt RowKit Sl Cop M2 P3 X3 G4 Q2 X2 D3 J4 L4 D5 K6 P4 Q6 X7 Z7 Z6 B8 M8 J9
theorem zero_in:PageIn Hp.nil zeroPage zeroP:=⟨_,_,rfl,items_mk (Nat.zero_le _),RowIn.nil _ _⟩
theorem vread_any(v:Nat)(s:VaultS)(look:Int→Option PageV)(hl:Looks s look)(n:Int)(F:Pr)(w:World)(hF:Sat ((VaultA v s).star F) w):
 Calls Tryz.prog 38 #[.pointer (some ⟨v,0,none⟩),.int .i64 n] w fun e w'=>
  Stays w w'∧∃pv,e= .returned (.tuple #[pv,.int .i64 (if look n=none then 15 else 0)])∧∃h',PageIn h' pv ((look n).getD zeroP)∧Sat ((Pr.own h').star ((VaultA v s).star F)) w':=by
 cases hn:look n with
 | none=>
   refine(read_none v s n F w hF (hl.none n hn)).mono ?_;rintro e w' ⟨rfl,ho⟩;exact⟨ho.st,zeroPage,by simp,Hp.nil,zero_in,by rw [own_nil,Pr.emp_star];exact hF.only ho⟩
 | some g=>
   obtain⟨h1,h2,h3,h4⟩:=hl.some n g hn;refine(read_some v s n h1 g h4 F w hF h2 h3).mono ?_;rintro e w' ⟨hst,pv,rfl,h',hp,hs⟩;exact⟨hst,pv,by simp,h',hp,hs⟩
theorem state_eq {s t:PoolS}(hc:s.counts=t.counts)(hl:s.last=t.last)(n:Int):s.state n=t.state n:=by
 obtain⟨r1,c1,l1,a1,f1⟩:=s;obtain⟨r2,c2,l2,a2,f2⟩:=t;dsimp only at hc hl;subst hc hl;rfl
end Go.Proofs.YtpfafhklppondaaGreat.Q9
