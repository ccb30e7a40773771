/- The document's Store of long values; the conditions stand as hypotheses. -/
import Derived.Test.YtkfjilnmnbeokaaGreatPutInPlaceM36
import Derived.Test.YtkfjilnmnbeokaaGreatPutInPlaceM01
set_option maxRecDepth 100000
set_option maxHeartbeats 16000000
namespace Go.Proofs.YtkfjilnmnbeokaaGreat.F9
open ChangeShapes WideShapes ChangeAt RowKit Sl Cop D2 D3 J3 V3 G2 J2 X3 Y3 M4 P5 Z3 Y5 Q5 N4 Z4 B5 J5 K7 L7 P7 T7 N8 Y8 D9
abbrev item0:Obj:=itemC (.slice none 0 0) (.slice none 0 0) 0 0
end Go.Proofs.YtkfjilnmnbeokaaGreat.F9
namespace Go.Proofs.YtkfjilnmnbeokaaGreat.G9
open ChangeShapes WideShapes ChangeAt RowKit Sl Cop D2 D3 J3 V3 G2 J2 X3 Y3 M4 P5 Z3 Y5 Q5 B5 K7 L7 P7 T7 C8 Y8 D9 F9 E7
theorem release_any(v:Nat)(s:VaultS)(x:ItemV)(hp:Hp)(iv:Value)(hi:ItemIn hp iv x)(hb:Bare s)(hfit:∀n g,s.on n=some g→g.items.length≤65535)(hm:s.pool.floor+s.pool.acts.length+sumC s.pool.counts<1099511627776)(hvm:s.floor+s.acts.length<1099511627776)(F:Pr)(w:World)
 (hF:Sat ((VaultA v s).star F) w):
 Calls Tryz.prog 74 #[.pointer (some ⟨v,0,none⟩),iv] w fun e w'=>Stays w w'∧
  ((x.size≤32∧e= .returned (.int .i64 0)∧Sat ((VaultA v s).star F) w')∨
   (32<x.size∧∃er t W,e= .returned (.int .i64 er)∧DropR s.get [x.child] s.pool.counts er t.pool.counts∧DInv s t W∧Far s t∧Sat ((if er=0 then VaultA v (t.acted ⟨s.pool.mark,W⟩) else VaultA v s).star F) w')):=by
 obtain⟨kv,vv,rfl,hk,hvv⟩:=id hi;obtain⟨ak,ck,rfl⟩:=bytes_shape hk;obtain⟨av,cv,rfl⟩:=bytes_shape hvv;have h1:=hF.alloc (itemC (.slice ak x.key.length ck) (.slice av x.value.length cv) x.child x.size);have HST:=hQ ((Stays.refl w).alloc (itemC (.slice ak x.key.length ck) (.slice av x.value.length cv) x.child x.size))
 have VD:=hQ (vdrop_any v s x.child hb hfit hm hvm _ _ (h1.perm (B:=(VaultA v s).star ((Pr.pts w.heap.size (itemC (.slice ak x.key.length ck) (.slice av x.value.length cv) x.child x.size)).star F)) (by ac_rfl)));have H1:=hQ h1.right;clear h1 hF hi hk hvv hb hfit hm hvm;by_cases hs:x.size≤32
 · clear VD
   have hd:decide (x.size≤32)=true:=decide_eq_true hs;go_enter Tryz.func74,Tryz.ntmps74
   go_wp2;go_ret;exact⟨HST.out,.inl ⟨hs,rfl,H1.out⟩⟩
 · have hd:decide (x.size≤32)=false:=decide_eq_false hs
   go_enter Tryz.func74,Tryz.ntmps74
   go_wp2_with fail
   refine VD.out.mono ?_;rintro e w' ⟨st,er,t,W,rfl,h2,h3,h4,h5⟩;have HST2:=hQ (HST.out.trans st);have HS:=hQ (And.intro h2 (And.intro h3 (And.intro h4 h5)));clear h2 h3 h4 h5 st VD;go_wp2;go_ret;refine⟨HST2.out,.inr ⟨by omega,er,t,W,rfl,HS.out.1,HS.out.2.1,HS.out.2.2.1,?_⟩⟩;have h5:=HS.out.2.2.2
   exact(h5.perm (B:=(Pr.pts w.heap.size (itemC (.slice ak x.key.length ck) (.slice av x.value.length cv) x.child x.size)).star ((if er=0 then VaultA v (t.acted ⟨s.pool.mark,W⟩) else VaultA v s).star F)) (by ac_rfl)).right
end Go.Proofs.YtkfjilnmnbeokaaGreat.G9
