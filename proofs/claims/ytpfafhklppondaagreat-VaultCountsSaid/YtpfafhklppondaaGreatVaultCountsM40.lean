/- Call by call, the program's vault and the document's: what the one answers, and then the other answers the same; both alike again. -/
import Derived.Test.YtpfafhklppondaaGreatVaultCountsM38
import Derived.Test.YtpfafhklppondaaGreatVaultCountsM31
import Derived.Test.YtpfafhklppondaaGreatVaultCountsM37
import Derived.Test.YtpfafhklppondaaGreatVaultCountsM35
import Derived.Test.YtpfafhklppondaaGreatVaultCountsM24
import Derived.Test.YtpfafhklppondaaGreatVaultCountsM36
import Derived.Test.YtpfafhklppondaaGreatVaultCountsM30
import Derived.Test.YtpfafhklppondaaGreatVaultCountsM28
set_option maxRecDepth 100000
set_option maxHeartbeats 16000000
namespace Go.Cop
open Go.Proofs.YtpfafhklppondaaGreat.Z7
section
variable {s:VaultS}{H:List VaultS}{rs:PoolS}{gs:List PageV}{fl:Int}{l:List (List Int × List PageV)}{k:Nat}
theorem Join.cb(j:Join s H rs gs fl l k)(ok:PoolOk s.pool):CB rs:=by
 have h1:=j.now.tw.rf;have h2:=ok.r2;refine⟨by omega,fun c hc=> ?_⟩;rw [j.now.tw.cs] at hc;rw [h1];exact(j.now.tw.cr c hc).2
theorem Join.crP(j:Join s H rs gs fl l k)(ok:PoolOk s.pool):CR s.pool:=fun n=>j.now.tw.crn ok n
theorem Join.own(j:Join s H rs gs fl l k)(n:Int):ownP rs n=ownP s.pool n:=by
 unfold ownP;rw [j.now.tw.state,j.now.tw.count]
theorem Join.onP(j:Join s H rs gs fl l k)(ok:PoolOk s.pool)(n:Int)(h0:s.pool.count n≠0):∃g,s.on n=some g:=⟨_,j.now.tw.at' ok h0⟩
theorem Join.lenC(j:Join s H rs gs fl l k):rs.counts.length=s.pool.counts.length:=by rw [j.now.tw.cs]
end
end Go.Cop
namespace Go.Proofs.YtpfafhklppondaaGreat.Xy
open ChangeShapes WideShapes ChangeAt RowKit Sl Cop M2 P3 X3 Y3 G4 Q2 X2 J4 L4 D5 E5 P4 Q6 X7 Z7 E4 U7 T7 W5 W7 G9 M9 V7 J8 K9 V9 Y9 Ay Ty Cy Fy Gy Ly My Ny Py Qy Ky Ry E7 N9
section
variable {v r:Nat}{s:VaultS}{H:List VaultS}{rs:PoolS}{gs:List PageV}{fl:Int}{l:List (List Int × List PageV)}{k:Nat}
abbrev VStep1(v:Nat)(f:Nat)(n:Int)(s:VaultS)(Q:Int→VaultS→List VaultS→Prop):Prop:=
 ∀(F:Pr) (w:World),Sat ((VaultA v s).star F) w→Calls Tryz.prog f #[.pointer (some ⟨v,0,none⟩),.int .i64 n] w fun e w'=> ∃b s' H',Q b s' H'∧e= .returned (.int .i64 b)∧Stays w w'∧Sat ((VaultA v s').star F) w'
abbrev RStep1(r:Nat)(f:Nat)(n:Int)(rs:PoolS)(gs:List PageV)(fl:Int)(l:List (List Int × List PageV))(b:Int)(s':VaultS)(H':List VaultS)(k:Nat):Prop:=
 ∀(F:Pr) (w:World),Sat ((RefH r rs gs fl l).star F) w→Calls Tryz.prog f #[.pointer (some ⟨r,0,none⟩),.int .i64 n] w fun e w'=>e= .returned (.int .i64 b)∧Stays w w'∧
  ∃rs' gs' l',Join s' H' rs' gs' fl l' k∧l'.length≤l.length+1∧Sat ((RefH r rs' gs' fl l').star F) w'
abbrev QKeep(s:VaultS)(H:List VaultS)(n:Int)(b:Int)(s':VaultS)(H':List VaultS):Prop:=b=incE s.pool n∧((b=0∧s'=({ s with pool:=s.pool.did n 1 }.acted ⟨s.pool.mark,[]⟩)∧H'=s :: H)∨(b≠0∧s'=s∧H'=H))
theorem pair_keepQ(j:Join s H rs gs fl l (k+1))(ok:PoolOk s.pool)(hl:l.length≤1048576)(n:Int):VStep1 v 36 n s (QKeep s H n)∧∀b s' H',(QKeep s H n) b s' H'→RStep1 r 58 n rs gs fl l b s' H' k:=by
 have hp:=j.now.pb;have hv:=j.now.vb;refine⟨fun F w hF=> ?_,fun b s' H' hq F w hF=> ?_⟩
 · refine(vkeep_any v s n (j.now.tw.crn ok n) (by omega) (by omega) F w hF).mono ?_
   rintro e w' ⟨st,rfl,hs⟩;by_cases he:incE s.pool n=0
   · rw [if_pos he] at hs
     exact⟨_,_,_,⟨rfl,.inl ⟨he,rfl,rfl⟩⟩,rfl,st,hs⟩
   · rw [if_neg he] at hs
     exact⟨_,_,_,⟨rfl,.inr ⟨he,rfl,rfl⟩⟩,rfl,st,hs⟩
 · obtain⟨rfl,hq⟩:=hq
   refine(rkeepH_any r rs gs fl l n (j.cb ok) hl F w hF).mono ?_;rintro e w' ⟨rfl,st,_,hs⟩;rw [← incE_incL j.now.tw] at hs ⊢;refine⟨rfl,st,?_⟩;rcases hq with⟨he,rfl,rfl⟩ | ⟨he,rfl,rfl⟩
   · have e2:IncP rs n=rs.withC (addC rs.counts n 1):=by unfold IncP;rw [← incE_incL j.now.tw,if_pos he]
     unfold histE at hs;rw [if_pos he,e2] at hs;have h0:s.pool.count n≠0:=fun h=>by unfold incE at he;rw [if_pos h] at he;cases he
     have hb:=count_bd ok n;have hm:Mid s { s with pool:=s.pool.did n 1 } []:=(Mid.refl s).did (there_of_count h0) hb.1 hb.2 (by omega);exact⟨_,_,_,j.act hm (j.now.keep ok he _),by rw [List.length_append];exact Nat.le_refl _,hs⟩
   · have e2:IncP rs n=rs:=by unfold IncP;rw [← incE_incL j.now.tw,if_neg he]
     unfold histE at hs;rw [if_neg he,e2] at hs;exact⟨_,_,_,j.le (Nat.le_succ k),Nat.le_succ _,hs⟩
abbrev VStep2(v:Nat)(f:Nat)(n:Int)(s:VaultS)(Q:Int→Int→VaultS→List VaultS→Prop):Prop:=
 ∀(F:Pr) (w:World),Sat ((VaultA v s).star F) w→Calls Tryz.prog f #[.pointer (some ⟨v,0,none⟩),.int .i64 n] w fun e w'=> ∃a b s' H',Q a b s' H'∧e= .returned (.tuple #[.int .i64 a,.int .i64 b])∧Stays w w'∧Sat ((VaultA v s').star F) w'
abbrev RStep2(r:Nat)(f:Nat)(n:Int)(rs:PoolS)(gs:List PageV)(fl:Int)(l:List (List Int × List PageV))(a b:Int)(s':VaultS)(H':List VaultS)(k:Nat):Prop:=
 ∀(F:Pr) (w:World),Sat ((RefH r rs gs fl l).star F) w→Calls Tryz.prog f #[.pointer (some ⟨r,0,none⟩),.int .i64 n] w fun e w'=>e= .returned (.tuple #[.int .i64 a,.int .i64 b])∧Stays w w'∧
  ∃rs' gs' l',Join s' H' rs' gs' fl l' k∧l'.length≤l.length+1∧Sat ((RefH r rs' gs' fl l').star F) w'
abbrev QShadow(s:VaultS)(H:List VaultS)(n:Int)(a:Int)(b:Int)(s':VaultS)(H':List VaultS):Prop:=(s.pool.count n=0∧a=0∧b=15∧s'=s∧H'=H)∨(s.pool.count n≠0∧ownP s.pool n=true∧a=n∧b=0∧s'=s∧H'=H)∨(s.pool.count n≠0∧ownP s.pool n=false∧∃g z,s.on n=some g∧mkR s z∧Mid s (shS s n g z) (shW s n g z)∧a=(if shE s n g z=0 then mkN z else 0)∧b=shE s n g z∧((b=0∧s'=(shS s n g z).acted ⟨s.pool.mark,shW s n g z⟩∧H'=s :: H)∨(b≠0∧s'=s∧H'=H)))
theorem pair_shadowQ(j:Join s H rs gs fl l (k+1))(ok:PoolOk s.pool)(hl:l.length≤1048576)(n:Int):VStep2 v 37 n s (QShadow s H n)∧∀a b s' H',(QShadow s H n) a b s' H'→RStep2 r 77 n rs gs fl l a b s' H' k:=by
 have hp:=j.now.pb;have hv:=j.now.vb;refine⟨fun F w hF=> ?_,fun a b s' H' hq F w hF=> ?_⟩
 · refine(vshadow_any v s n j.now.tw.fit (fun h=>j.onP ok n h) (j.crP ok) (by omega) (by omega) F w hF).mono ?_
   rintro e w' ⟨st,(⟨h0,rfl,hs⟩ | ⟨h0,h1,rfl,hs⟩ | ⟨h0,h1,g,z,hg,hz,hm,rfl,hs⟩)⟩
   · exact⟨_,_,_,_,.inl ⟨h0,rfl,rfl,rfl,rfl⟩,rfl,st,hs⟩
   · exact⟨_,_,_,_,.inr (.inl ⟨h0,h1,rfl,rfl,rfl,rfl⟩),rfl,st,hs⟩
   · by_cases he:shE s n g z=0
     · rw [if_pos he] at hs
       exact⟨_,_,_,_,.inr (.inr ⟨h0,h1,g,z,hg,hz,hm,rfl,rfl,.inl ⟨he,rfl,rfl⟩⟩),rfl,st,hs⟩
     · rw [if_neg he] at hs
       exact⟨_,_,_,_,.inr (.inr ⟨h0,h1,g,z,hg,hz,hm,rfl,rfl,.inr ⟨he,rfl,rfl⟩⟩),rfl,st,hs⟩
 · have hc:rs.count n=s.pool.count n:=j.now.tw.count n
   rcases hq with⟨h0,rfl,rfl,rfl,rfl⟩ | ⟨h0,h1,rfl,rfl,rfl,rfl⟩ | ⟨h0,h1,g,z,hg,hz,hm,rfl,rfl,hq⟩
   · refine(rshadow_none r rs gs fl l n (by rw [hc];exact h0) F w hF).mono ?_
     rintro e w' ⟨rfl,rfl⟩;exact⟨rfl,Stays.refl _,_,_,_,j.le (Nat.le_succ k),Nat.le_succ _,hF⟩
   · refine(rshadow_own r rs gs fl l a (by rw [hc];exact h0) (by rw [j.own];exact h1) F w hF).mono ?_
     rintro e w' ⟨rfl,rfl⟩;exact⟨rfl,Stays.refl _,_,_,_,j.le (Nat.le_succ k),Nat.le_succ _,hF⟩
   · have eg:g=pgAt gs n:=by
      have:=j.now.tw.at' ok h0
      rw [hg] at this;exact Option.some.inj this
     subst eg;cases z with
     | none=>
       refine(rshadow_full r rs gs fl l n (by rw [hc];exact h0) (by rw [j.own];exact h1) (fun m hm2=>hz m (by rw [← j.now.tw.state];exact hm2)) F w hF).mono ?_;rintro e w' ⟨rfl,rfl⟩;rcases hq with⟨hq,_⟩ | ⟨_,rfl,rfl⟩
       · cases hq
       · exact⟨rfl,Stays.refl _,_,_,_,j.le (Nat.le_succ k),Nat.le_succ _,hF⟩
     | some m=>
       obtain⟨hz1,hz2⟩:=hz;obtain⟨i,rfl,hi⟩:=there_idx (there_of_state (by omega:s.pool.state m≠0));obtain⟨i2,rfl,hi2⟩:=there_idx (there_of_count h0);obtain⟨b1,b2⟩:=j.now.shadow ok h0 hz1
       refine(rshadow_go r rs gs fl l i2 i (by rw [j.lenC];exact hi2) (by rw [j.lenC];exact hi) (by rw [hc];exact h0) (by rw [j.own];exact h1) (by rw [j.now.tw.count];exact count_of_free ok hz1) (by rw [j.now.tw.state];exact hz1)
        (fun m hm2=>hz2 m (by rw [← j.now.tw.state];exact hm2)) (j.cb ok) hl F w hF).mono ?_
       rintro e w' ⟨st,hs⟩;have e3:shE s ((i2:Int)+1) (pgAt gs ((i2:Int)+1)) (some ((i:Int)+1))=(leaveRR (rs.withC (rs.counts.set i 1)) (pgAt gs ((i2:Int)+1)) ((i2:Int)+1)).1:=b1;rcases hs with⟨h5,rfl,hs⟩ | ⟨h5,h6,rfl,hs⟩
       · have h5':(leaveRR (rs.withC (rs.counts.set i 1)) (pgAt gs ((i2:Int)+1)) ((i2:Int)+1)).1≠0:=h5
         rcases hq with⟨hq,_⟩ | ⟨_,rfl,rfl⟩
         · rw [e3] at hq;exact absurd hq h5'
         · refine⟨?_,st,_,_,_,j.le (Nat.le_succ k),Nat.le_succ _,hs⟩
           rw [e3,if_neg h5'];rfl
       · have h5':(leaveRR (rs.withC (rs.counts.set i 1)) (pgAt gs ((i2:Int)+1)) ((i2:Int)+1)).1=0:=h5
         rcases hq with⟨_,rfl,rfl⟩ | ⟨hq,_⟩
         · refine⟨?_,st,?_⟩
           · rw [e3,if_pos h5',h5']
             rfl
           · obtain⟨cs,ecs⟩:=leaveRR_with (rs.withC (rs.counts.set i 1)) (pgAt gs ((i2:Int)+1)) ((i2:Int)+1)
             have b3:=b2 (by rw [b1];exact h5') ⟨s.pool.mark,shW s ((i2:Int)+1) (pgAt gs ((i2:Int)+1)) (some ((i:Int)+1))⟩;have hs2:Sat ((RefH r (leaveRR (rs.withC (rs.counts.set i 1)) (pgAt gs ((i2:Int)+1)) ((i2:Int)+1)).2 (gs.set i (pgAt gs ((i2:Int)+1))) fl (l++ [(rs.counts,gs)])).star F) w':=hs;rw [ecs] at b3 hs2
             exact⟨_,_,_,j.act (cs:=cs) hm b3,by rw [List.length_append];exact Nat.le_refl _,hs2⟩
         · exact absurd (e3.trans h5') hq
end
end Go.Proofs.YtpfafhklppondaaGreat.Xy
namespace Go.Proofs.YtpfafhklppondaaGreat.Az
open ChangeShapes WideShapes ChangeAt RowKit Sl Cop M2 P3 X3 Y3 G4 Q2 X2 J4 L4 D5 E5 P4 Q6 X7 Z7 E4 W5 W7 M9 V7 J8 K9 V9 Y9 Cy Ly My Ny Py Qy Ky Ry E7 N9 Xy
section
variable {v r:Nat}{s:VaultS}{H:List VaultS}{rs:PoolS}{gs:List PageV}{fl:Int}{l:List (List Int × List PageV)}{k:Nat}
abbrev VStepM(v:Nat)(g:PageV)(s:VaultS)(Q:Int→Int→VaultS→List VaultS→Prop):Prop:=
 ∀(hp:Hp) (pv:Value) (F:Pr) (w:World),PageIn hp pv g→Sat ((VaultA v s).star ((Pr.own hp).star F)) w→Calls Tryz.prog 33 #[.pointer (some ⟨v,0,none⟩),pv] w fun e w'=>
  ∃a b s' H',Q a b s' H'∧e= .returned (.tuple #[.int .i64 a,.int .i64 b])∧Stays w w'∧Sat ((VaultA v s').star ((Pr.own hp).star F)) w'
abbrev RStepM(r:Nat)(g:PageV)(rs:PoolS)(gs:List PageV)(fl:Int)(l:List (List Int × List PageV))(a b:Int)(s':VaultS)(H':List VaultS)(k:Nat):Prop:=
 ∀(hp:Hp) (pv:Value) (F:Pr) (w:World),PageIn hp pv g→Sat ((RefH r rs gs fl l).star ((Pr.own hp).star F)) w→Calls Tryz.prog 136 #[.pointer (some ⟨r,0,none⟩),pv] w fun e w'=>e= .returned (.tuple #[.int .i64 a,.int .i64 b])∧Stays w w'∧
  ∃rs' gs' l',Join s' H' rs' gs' fl l' k∧l'.length≤l.length+1∧Sat ((RefH r rs' gs' fl l').star ((Pr.own hp).star F)) w'
abbrev QMake(s:VaultS)(H:List VaultS)(g:PageV)(a:Int)(b:Int)(s':VaultS)(H':List VaultS):Prop:=(checkP g≠0∧a=0∧b=checkP g∧s'=s∧H'=H)∨(checkP g=0∧∃z,mkR s z∧a=mkN z∧b=mkE z∧((b=0∧s'=(mkS s g z).acted ⟨s.pool.mark,mkW s z⟩∧H'=s :: H)∨(b≠0∧s'=s∧H'=H)))
theorem pair_makeQ(j:Join s H rs gs fl l (k+1))(ok:PoolOk s.pool)(hl:l.length≤1048576)(g:PageV)(hu:∀x∈g.items,U8 x.key):VStepM v g s (QMake s H g)∧∀a b s' H',(QMake s H g) a b s' H'→RStepM r g rs gs fl l a b s' H' k:=by
 have hp:=j.now.pb;have hv:=j.now.vb;refine⟨fun hx pv F w hpg hF=> ?_,fun a b s' H' hq hx pv F w hpg hF=> ?_⟩
 · refine(vmake_any v s hx pv g hpg hu (by omega) (by omega) F w hF).mono ?_
   rintro e w' ⟨st,(⟨h0,rfl,hs⟩ | ⟨h0,z,hz,rfl,hs⟩)⟩
   · exact⟨_,_,_,_,.inl ⟨h0,rfl,rfl,rfl,rfl⟩,rfl,st,hs⟩
   · by_cases he:mkE z=0
     · rw [if_pos he] at hs
       exact⟨_,_,_,_,.inr ⟨h0,z,hz,rfl,rfl,.inl ⟨he,rfl,rfl⟩⟩,rfl,st,hs⟩
     · rw [if_neg he] at hs
       exact⟨_,_,_,_,.inr ⟨h0,z,hz,rfl,rfl,.inr ⟨he,rfl,rfl⟩⟩,rfl,st,hs⟩
 · rcases hq with⟨h0,rfl,rfl,rfl,rfl⟩ | ⟨h0,z,hz,rfl,rfl,hq⟩
   · refine(rmakeH_bad r rs gs fl l hx pv g hpg h0 F w hF).mono ?_
     rintro e w' ⟨rfl,ho⟩;exact⟨rfl,ho.st,_,_,_,j.le (Nat.le_succ k),Nat.le_succ _,hF.only ho⟩
   · cases z with
     | none=>
       refine(rmakeH_full r rs gs fl l hx pv g hpg h0 (fun m hm=>hz m (by rw [← j.now.tw.state];exact hm)) F w hF).mono ?_;rintro e w' ⟨rfl,ho⟩;rcases hq with⟨hq,_⟩ | ⟨_,rfl,rfl⟩
       · cases hq
       · exact⟨rfl,ho.st,_,_,_,j.le (Nat.le_succ k),Nat.le_succ _,hF.only ho⟩
     | some m=>
       obtain⟨hz1,hz2⟩:=id hz;obtain⟨i,rfl,hi⟩:=there_idx (there_of_state (by omega:s.pool.state m≠0));refine(rmakeH_ok r rs gs fl l i (by rw [j.lenC];exact hi) (by rw [j.now.tw.state];exact hz1) (fun m hm2=>hz2 m (by rw [← j.now.tw.state];exact hm2)) hx pv g hpg h0 hl F w hF).mono ?_;rintro e w' ⟨rfl,st,hs⟩;rcases hq with⟨_,rfl,rfl⟩ | ⟨hq,_⟩
       · exact⟨rfl,st,_,_,_,j.act (cs:=rs.counts.set i 1) (mk_mid ok g hz) (j.now.make ok hz1 (fit_of_check h0) _),by rw [List.length_append];exact Nat.le_refl _,hs⟩
       · exact absurd rfl hq
abbrev VStepW(v:Nat)(n:Int)(g:PageV)(s:VaultS)(Q:Int→VaultS→List VaultS→Prop):Prop:=
 ∀(hp:Hp) (pv:Value) (F:Pr) (w:World),PageIn hp pv g→Sat ((VaultA v s).star ((Pr.own hp).star F)) w→Calls Tryz.prog 137 #[.pointer (some ⟨v,0,none⟩),.int .i64 n,pv] w fun e w'=>
  ∃b s' H',Q b s' H'∧e= .returned (.int .i64 b)∧Stays w w'∧Sat ((VaultA v s').star ((Pr.own hp).star F)) w'
abbrev RStepW(r:Nat)(n:Int)(g:PageV)(rs:PoolS)(gs:List PageV)(fl:Int)(l:List (List Int × List PageV))(b:Int)(s':VaultS)(H':List VaultS)(k:Nat):Prop:=
 ∀(hp:Hp) (pv:Value) (F:Pr) (w:World),PageIn hp pv g→Sat ((RefH r rs gs fl l).star ((Pr.own hp).star F)) w→Calls Tryz.prog 138 #[.pointer (some ⟨r,0,none⟩),.int .i64 n,pv] w fun e w'=>e= .returned (.int .i64 b)∧Stays w w'∧
  ∃rs' gs' l',Join s' H' rs' gs' fl l' k∧l'.length≤l.length+1∧Sat ((RefH r rs' gs' fl l').star ((Pr.own hp).star F)) w'
theorem pair_write(j:Join s H rs gs fl l (k+1))(hl:l.length≤1048576)(n:Int)(g:PageV)(hu:∀x∈g.items,U8 x.key):∃Q,VStepW v n g s Q∧∀b s' H',Q b s' H'→RStepW r n g rs gs fl l b s' H' k:=by
 have hv:=j.now.vb
 refine⟨fun b s' H'=>(ownP s.pool n=false∧b=15∧s'=s∧H'=H)∨(ownP s.pool n=true∧checkP g≠0∧b=checkP g∧s'=s∧H'=H)∨
  (ownP s.pool n=true∧checkP g=0∧b=0∧Mid s (wrS s n g) [(n,s.on n)]∧s'=(wrS s n g).acted ⟨s.pool.mark,[(n,s.on n)]⟩∧H'=s :: H),fun hx pv F w hpg hF=> ?_,fun b s' H' hq hx pv F w hpg hF=> ?_⟩
 · refine(vwrite_any v s n hx pv g hpg hu (by omega) F w hF).mono ?_
   rintro e w' ⟨st,(⟨h0,rfl,hs⟩ | ⟨h0,h1,rfl,hs⟩ | ⟨h0,h1,rfl,hm,hs⟩)⟩
   · exact⟨_,_,_,.inl ⟨h0,rfl,rfl,rfl⟩,rfl,st,hs⟩
   · exact⟨_,_,_,.inr (.inl ⟨h0,h1,rfl,rfl,rfl⟩),rfl,st,hs⟩
   · exact⟨_,_,_,.inr (.inr ⟨h0,h1,rfl,hm,rfl,rfl⟩),rfl,st,hs⟩
 · rcases hq with⟨h0,rfl,rfl,rfl⟩ | ⟨h0,h1,rfl,rfl,rfl⟩ | ⟨h0,h1,rfl,hm,rfl,rfl⟩
   · refine(rwrite_none r rs gs fl l n (by rw [j.own];exact h0) hx pv g hpg _ w hF).mono ?_
     rintro e w' ⟨rfl,ho⟩;exact⟨rfl,ho.st,_,_,_,j.le (Nat.le_succ k),Nat.le_succ _,hF.only ho⟩
   · refine(rwrite_bad r rs gs fl l n (by rw [j.own];exact h0) hx pv g hpg h1 F w hF).mono ?_
     rintro e w' ⟨rfl,ho⟩;exact⟨rfl,ho.st,_,_,_,j.le (Nat.le_succ k),Nat.le_succ _,hF.only ho⟩
   · obtain⟨h3,_⟩:=own_state h0
     obtain⟨i,rfl,hi⟩:=there_idx (there_of_state (by omega:s.pool.state n≠0));refine(rwrite_ok r rs gs fl l i (by rw [j.lenC];exact hi) (by rw [j.own];exact h0) hx pv g hpg h1 hl F w hF).mono ?_;rintro e w' ⟨rfl,st,hs⟩;exact⟨rfl,st,_,_,_,j.act (cs:=rs.counts) hm (j.now.write h0 (fit_of_check h1) _),by rw [List.length_append];exact Nat.le_refl _,hs⟩
abbrev VStepT(v:Nat)(f:Nat)(n:Int)(s:VaultS)(Q:PageV→Int→VaultS→List VaultS→Prop):Prop:=
 ∀(F:Pr) (w:World),Sat ((VaultA v s).star F) w→Calls Tryz.prog f #[.pointer (some ⟨v,0,none⟩),.int .i64 n] w fun e w'=> ∃(t:ToldX) (b:Int) (s':VaultS) (H':List VaultS),Q t.g b s' H'∧Fit t.g∧e= .returned (.tuple #[t.pv,.int .i64 b])∧Stays w w'∧Sat ((PgOwn t).star ((VaultA v s').star F)) w'
abbrev RStepT(r:Nat)(f:Nat)(n:Int)(rs:PoolS)(gs:List PageV)(fl:Int)(l:List (List Int × List PageV))(g:PageV)(b:Int)(s':VaultS)(H':List VaultS)(k:Nat):Prop:=
 ∀(F:Pr) (w:World),Sat ((RefH r rs gs fl l).star F) w→Calls Tryz.prog f #[.pointer (some ⟨r,0,none⟩),.int .i64 n] w fun e w'=>Stays w w'∧∃pv h',e= .returned (.tuple #[pv,.int .i64 b])∧PageIn h' pv g∧
  ∃rs' gs' l',Join s' H' rs' gs' fl l' k∧l'.length≤l.length+1∧Sat ((Pr.own h').star ((RefH r rs' gs' fl l').star F)) w'
theorem sat_zero {F:Pr}{w:World}(h:Sat F w):Sat ((PgOwn zeroT).star F) w:=by rw [pgOwn_zero,Pr.emp_star];exact h
theorem sat_nil {F:Pr}{w:World}(h:Sat F w):Sat ((Pr.own Hp.nil).star F) w:=by rw [own_nil,Pr.emp_star];exact h
theorem pair_read(j:Join s H rs gs fl l k)(ok:PoolOk s.pool)(n:Int):∃(g:PageV) (b:Int),Fit g∧(∀(F:Pr) (w:World),Sat ((VaultA v s).star F) w→Calls Tryz.prog 38 #[.pointer (some ⟨v,0,none⟩),.int .i64 n] w fun e w'=> ∃t:ToldX,t.g=g∧e= .returned (.tuple #[t.pv,.int .i64 b])∧Stays w w'∧Sat ((PgOwn t).star ((VaultA v s).star F)) w')∧
 (∀(F:Pr) (w:World),Sat ((RefH r rs gs fl l).star F) w→Calls Tryz.prog 65 #[.pointer (some ⟨r,0,none⟩),.int .i64 n] w fun e w'=>Stays w w'∧∃pv h',e= .returned (.tuple #[pv,.int .i64 b])∧PageIn h' pv g∧Sat ((Pr.own h').star ((RefH r rs gs fl l).star F)) w'):=by
 have hc:rs.count n=s.pool.count n:=j.now.tw.count n;by_cases h0:s.pool.count n=0
 · refine⟨zeroP,15,fitZ,fun F w hF=> ?_,fun F w hF=> ?_⟩
   · refine(read_none v s n F w hF h0).mono ?_
     rintro e w' ⟨rfl,ho⟩;exact⟨zeroT,rfl,rfl,ho.st,sat_zero (hF.only ho)⟩
   · refine(rreadH_none r rs gs fl l n (by rw [hc];exact h0) F w hF).mono ?_
     rintro e w' ⟨rfl,ho⟩;exact⟨ho.st,_,Hp.nil,rfl,zeroIn,sat_nil (hF.only ho)⟩
 · have hon:=j.now.tw.at' ok h0
   have ht:=there_of_count h0;refine⟨pgAt gs n,0,j.now.tw.fit n _ hon,fun F w hF=> ?_,fun F w hF=> ?_⟩
   · refine(read_rows v s n ⟨ht.1,by have:=ht.2;have:=ok.n2;omega⟩ _ (j.now.tw.fit n _ hon) F w hF h0 hon).mono ?_
     rintro e w' ⟨st,t,rfl,hg,hs⟩;exact⟨t,hg,rfl,st,hs⟩
   · refine(rreadH_some r rs gs fl l n (by rw [hc];exact h0) F w hF).mono ?_
     rintro e w' ⟨st,pv,rfl,h',hpg,hs⟩;exact⟨st,pv,h',rfl,hpg,hs⟩
end
end Go.Proofs.YtpfafhklppondaaGreat.Az
namespace Go.Proofs.YtpfafhklppondaaGreat.Bz
open ChangeShapes WideShapes ChangeAt RowKit Sl Cop M2 P3 Q2 X2 J4 L4 P4 X4 Q6 Y6 Z7 V9 E7 F7 Uy G7 J7 K7
structure LawS where
 s:VaultS
 H:List VaultS
 rs:PoolS
 gs:List PageV
 fl:Int
 l:List (List Int × List PageV)
 kv:Value
 ws:List WkE
 h:Hp
 tv:Value
 xv:Value
 bs:List BkE
structure LOK(z:LawS)(k:Nat):Prop where
 j:Join z.s z.H z.rs z.gs z.fl z.l k
 ll:z.l.length+k≤1048576
 wl:z.ws.length+k≤1048576
 bk:BOk z.h ⟨z.tv,z.xv,z.bs⟩
 wk:∀x∈z.ws,WkOk z.h x
theorem LOK.le {z:LawS}{k m:Nat}(h:LOK z k)(hm:m≤k):LOK z m:=⟨h.j.le hm,by have:=h.ll;omega,by have:=h.wl;omega,h.bk,h.wk⟩
def BRest(tv xv:Value)(bs:List BkE):Pr:=(TldRow tv bs).star ((WntRow xv bs).star (big bkOwn bs))
abbrev lawL(wb v r:Nat)(z:LawS)(T:List Pr):List Pr:=VaultA v z.s :: RefH r z.rs z.gs z.fl z.l :: workO wb v r z.kv z.tv z.xv :: BRest z.tv z.xv z.bs :: WksRow z.kv z.ws :: Pr.own z.h :: T
def DoneH(wb v r k:Nat)(F:Pr)(w:World):Prop:= ∃z,LOK z k∧OwnL (lawL wb v r z [F]) w
def DoneP(wb v r k:Nat)(P:VaultS→Prop)(F:Pr)(w:World):Prop:= ∃z,LOK z k∧P z.s∧OwnL (lawL wb v r z [F]) w
theorem DoneP.done {wb v r k:Nat}{P:VaultS→Prop}{F:Pr}{w:World}(h:DoneP wb v r k P F w):DoneH wb v r k F w:=by
 obtain⟨z,ok,_,hs⟩:=h;exact⟨z,ok,hs⟩
theorem book_close {wb v r:Nat}{kv tv xv:Value}{bs:List BkE}{h:Hp}(ok:BOk h ⟨tv,xv,bs⟩){L R R2:List Pr}{w:World}(o:OwnL L w) [Pull (workO wb v r kv tv xv) L R] [Pull (BRest tv xv bs) R R2]:OwnL (BookE wb v r kv h :: R2) w:=
 ⟨bookE_iff.2 ⟨⟨tv,xv,bs⟩,ok,(o.pull2 (A1:=workO wb v r kv tv xv) (A2:=BRest tv xv bs)).perm (by unfold BRest;simp only [Pr.star_assoc])⟩⟩
theorem book_open {wb v r:Nat}{kv:Value}{h:Hp}{L R:List Pr}{w:World}(o:OwnL L w) [Pull (BookE wb v r kv h) L R]:∃tv xv bs,BOk h ⟨tv,xv,bs⟩∧OwnL (workO wb v r kv tv xv :: BRest tv xv bs :: R) w:=by
 obtain⟨⟨tv,xv,bs⟩,ok,h2⟩:=bookE_iff.1 (o.pull1 (A1:=BookE wb v r kv h));exact⟨tv,xv,bs,ok,⟨h2.perm (by unfold BRest;simp only [BookP,starL,Pr.star_assoc])⟩⟩
theorem nums_same {s:VaultS}{rs:PoolS}{gs:List PageV}(tw:Go.Cop.Twin s rs gs)(k:Int):numsOf s (pagesIn s.pool k)=numsR rs gs k rs.counts.length:=by
 have e1:pagesIn s.pool k=pagesTo rs k rs.counts.length:=by
  unfold pagesIn pagesTo;rw [tw.cs];congr 1
  refine List.filter_congr fun i _=> ?_
  rw [tw.state]
 unfold numsOf numsR;rw [← e1];refine List.map_congr_left fun n hn=> ?_
 obtain⟨h1,h2⟩:=pages_mem.1 hn;unfold numR;congr 1
 by_cases hk:k=1
 · rw [if_pos hk,tw.bare n (by rw [h2];exact hk)]
   rfl
 · rw [if_neg hk,tw.pg n (by rw [h2];exact hk) h1]
   rfl
theorem nums_fit {s:VaultS}(hfit:∀n g,s.on n=some g→Fit g)(l:List Int):∀x∈numsOf s l,Fit x.page:=by
 intro x hx;unfold numsOf at hx;obtain⟨n,_,rfl⟩:=List.mem_map.1 hx;show Fit ((s.on n).getD zeroP)
 cases h:s.on n with
 | none=>exact fitZ
 | some g=>exact hfit n g h
abbrev opC11(kind N K pk pl:Int)(vi vd:Value)(nx:Int):Obj:= .cells #[.int .i64 kind,.int .i64 N,.int .i64 K,.int .i64 pk,.int .i64 pl,vi,vd,.int .i64 nx] 39
end Go.Proofs.YtpfafhklppondaaGreat.Bz
namespace Go.Cop
open Go.Proofs.YtpfafhklppondaaGreat.E9 Go.Proofs.YtpfafhklppondaaGreat.Y7 Go.Proofs.YtpfafhklppondaaGreat.M2 Go.Proofs.YtpfafhklppondaaGreat.X3 Go.Proofs.YtpfafhklppondaaGreat.W7 Go.Proofs.YtpfafhklppondaaGreat.E4 Go.Proofs.YtpfafhklppondaaGreat.Xy Go.Proofs.YtpfafhklppondaaGreat.Az
structure LiveS(s:VaultS)(cs:List Int):Prop where
 rf:s.pool.refs=3
 ec:s.pool.counts=cs
 ls:s.pool.last=List.replicate 6 false
 six:cs.length=6
theorem LiveS.count {s:VaultS}{cs:List Int}(h:LiveS s cs){i:Nat}(hi:i<6):s.pool.count ((i:Int)+1)=cs.getD i 0:=by
 unfold PoolS.count;have h6:=h.six;rw [if_pos (by refine⟨by omega,?_⟩;rw [h.ec];omega),h.ec];congr 1
theorem LiveS.state {s:VaultS}{cs:List Int}(h:LiveS s cs){i:Nat}(hi:i<6):s.pool.state ((i:Int)+1)=stateOf (cs.getD i 0) false:=by
 have h6:=h.six;have ht:s.pool.there ((i:Int)+1):=by refine⟨by omega,?_⟩;rw [h.ec];omega
 unfold PoolS.state;rw [if_pos ht,h.count hi];unfold PoolS.lasts;have e:(List.replicate 6 false).getD i false=false:=by rw [List.getD_eq_getElem?_getD,List.getElem?_replicate,if_pos hi];rfl
 rw [h.ls,show ((i:Int)+1).toNat-1=i by omega,e]
theorem LiveS.did {s:VaultS}{cs:List Int}(h:LiveS s cs){i:Nat}(hi:i<6)(b:Int){t:VaultS}(ht:t.pool=s.pool.did ((i:Int)+1) b):LiveS t (cs.set i (cs.getD i 0+b)):=by
 refine⟨by rw [ht];exact h.rf,?_,by rw [ht];exact h.ls,by rw [List.length_set];exact h.six⟩;rw [ht];show s.pool.counts.set (((i:Int)+1).toNat-1) (s.pool.count ((i:Int)+1)+b)=_
 rw [h.count hi,h.ec,show ((i:Int)+1).toNat-1=i by omega]
theorem live_make {s:VaultS}{H:List VaultS}{g:PageV}{a b:Int}{s':VaultS}{H':List VaultS}{cs:List Int}(h:LiveS s cs)(h0:checkP g=0){i:Nat}(hi:i<6)(hz:cs.getD i 0=0)(hlow:∀j,j<i→0<cs.getD j 0)(hq:QMake s H g a b s' H'):
 LiveS s' (cs.set i 1)∧∀m,s'.on m=if m=(i:Int)+1 then some g else s.on m:=by
 have hst:s.pool.state ((i:Int)+1)=1:=by rw [h.state hi,hz];rfl
 rcases hq with⟨h1,_⟩ | ⟨_,z,hz2,_,rfl,hq⟩
 · exact absurd h0 h1
 · cases z with
   | none=>exact absurd hst (hz2 _)
   | some n=>
     obtain⟨hn,hm⟩:=hz2;have hle:=hm _ hst;have ht:=there_of_state (s:=s.pool) (n:=n) (by omega);have h1:=ht.1
     have hni:n=(i:Int)+1:=by
      by_cases hlt:n<(i:Int)+1
      · exfalso
        obtain⟨j,hj⟩:∃j:Nat,n=(j:Int)+1:=⟨(n-1).toNat,by omega⟩;subst hj;have hp:=hlow j (by omega);rw [h.state (by omega)] at hn;unfold stateOf at hn;rw [if_pos hp] at hn;simp at hn
      · omega
     subst hni;rcases hq with⟨_,rfl,_⟩ | ⟨hb,_⟩
     · refine⟨?_,fun m=>rfl⟩
       have:=h.did hi 1 (t:=(mkS s g (some ((i:Int)+1))).acted ⟨s.pool.mark,mkW s (some ((i:Int)+1))⟩) rfl
       rw [hz] at this;exact this
     · exact absurd rfl hb
theorem live_keep {s:VaultS}{H:List VaultS}{b:Int}{s':VaultS}{H':List VaultS}{cs:List Int}(h:LiveS s cs){i:Nat}(hi:i<6)(h1:cs.getD i 0≠0)(h3:cs.getD i 0≠3)(hq:QKeep s H ((i:Int)+1) b s' H'):
 LiveS s' (cs.set i (cs.getD i 0+1))∧∀m,s'.on m=s.on m:=by
 have he:incE s.pool ((i:Int)+1)=0:=by
  unfold incE;rw [h.count hi,h.rf,if_neg h1,if_neg h3]
 obtain⟨rfl,⟨_,rfl,_⟩ | ⟨hb,_⟩⟩:=hq
 · exact⟨h.did hi 1 rfl,fun m=>rfl⟩
 · exact absurd he hb
theorem live_shadow {s:VaultS}{H:List VaultS}{a b:Int}{s':VaultS}{H':List VaultS}(h:LiveS s [1,1,2,0,0,0]){g:PageV}(hon:s.on 3=some g)(hk:kidsOf g= [1,2])(hq:QShadow s H 3 a b s' H'):LiveS s' [2,2,1,1,0,0]:=by
 have c3:s.pool.count 3=2:=h.count (i:=2) (by omega);have s4:s.pool.state 4=1:=h.state (i:=3) (by omega);have s1:s.pool.state 1=3:=h.state (i:=0) (by omega);have s2:s.pool.state 2=3:=h.state (i:=1) (by omega);have s3:s.pool.state 3=3:=h.state (i:=2) (by omega);rcases hq with⟨h1,_⟩ | ⟨_,h1,_⟩ | ⟨_,_,g2,z,hg,hz,_,_,rfl,hq⟩
 · rw [c3] at h1;cases h1
 · unfold ownP at h1
   rw [s3,c3] at h1;cases h1
 · rw [hon] at hg
   cases hg;cases z with
   | none=>exact absurd s4 (hz _)
   | some n=>
     obtain⟨hn,hm⟩:=hz;have hle:=hm _ s4;have ht:=there_of_state (s:=s.pool) (n:=n) (by omega);have h1:=ht.1
     have hn4:n=4:=by
      rcases (by omega:n=1∨n=2∨n=3∨n=4) with rfl | rfl | rfl | rfl
      · omega
      · omega
      · omega
      · rfl
     subst hn4;have m4:LiveS (s.made 4 g) [1,1,2,1,0,0]:=h.did (i:=3) (by omega) 1 rfl;have d3:LiveS { s with pool:=(s.made 4 g).pool.did 3 (-1) } [1,1,1,1,0,0]:=m4.did (i:=2) (by omega) (-1) rfl;have d1:LiveS { s with pool:=((s.made 4 g).pool.did 3 (-1)).did 1 1 } [2,1,1,1,0,0]:=d3.did (i:=0) (by omega) 1 rfl
     have d2:LiveS { s with pool:=(((s.made 4 g).pool.did 3 (-1)).did 1 1).did 2 1 } [2,2,1,1,0,0]:=d1.did (i:=1) (by omega) 1 rfl
     have e1:incE ((s.made 4 g).pool.did 3 (-1)) 1=0:=by
      have c:=d3.count (i:=0) (by omega);have r:=d3.rf;unfold incE;rw [show ((s.made 4 g).pool.did 3 (-1)).count 1=1 from c,show ((s.made 4 g).pool.did 3 (-1)).refs=3 from r];rfl
     have e2:incE (((s.made 4 g).pool.did 3 (-1)).did 1 1) 2=0:=by
      have c:=d1.count (i:=1) (by omega);have r:=d1.rf;unfold incE;rw [show (((s.made 4 g).pool.did 3 (-1)).did 1 1).count 2=1 from c,show (((s.made 4 g).pool.did 3 (-1)).did 1 1).refs=3 from r];rfl
     have c4:(s.made 4 g).pool.count 3=2:=m4.count (i:=2) (by omega)
     have o3:(s.made 4 g).on 3=some g:=by
      show (if(3:Int)=4 then some g else s.on 3)=some g
      rw [if_neg (by omega),hon]
     have eL:leaveR (s.made 4 g) 3=(0,{ (s.made 4 g) with pool:=(((s.made 4 g).pool.did 3 (-1)).did 1 1).did 2 1 },[]):=by
      unfold leaveR;rw [c4,if_neg (by omega),o3];simp only [Option.getD_some,hk,incsP,e1,e2,if_true]
     rcases hq with⟨_,rfl,_⟩ | ⟨hb,_⟩
     · show LiveS ((leaveR (s.made 4 g) 3).2.1.acted _) _
       rw [eL];exact⟨d2.rf,d2.ec,d2.ls,d2.six⟩
     · exfalso
       apply hb;show (leaveR (s.made 4 g) 3).1=0
       rw [eL]
end Go.Cop
namespace Go.Cop
open Go.Sl Go.Proofs.YtpfafhklppondaaGreat.J4 Go.Proofs.YtpfafhklppondaaGreat.D5 Go.Proofs.YtpfafhklppondaaGreat.G4 Go.Proofs.YtpfafhklppondaaGreat.C9
def leafG(c:Int):PageV:=⟨1,0,[⟨[c],[],0,0⟩],[],0⟩
def indexG:PageV:=⟨2,1,[⟨[],[],1,0⟩,⟨[109],[],2,0⟩],[],0⟩
theorem check_a:checkP (leafG 97)=0:=by decide+kernel
theorem check_p:checkP (leafG 112)=0:=by decide+kernel
theorem check_i:checkP indexG=0:=by decide+kernel
theorem kids_i:kidsOf indexG= [1,2]:=by decide+kernel
theorem sz_leaf(c:Int):SzP (leafG c):=⟨by simp [leafG],by simp [leafG],by simp [leafG]⟩
theorem sz_index:SzP indexG:=⟨by simp [indexG],by simp [indexG],by simp [indexG]⟩
theorem u8_a:∀x∈(leafG 97).items,U8 x.key:=by simp [leafG,U8]
theorem u8_p:∀x∈(leafG 112).items,U8 x.key:=by simp [leafG,U8]
theorem u8_i:∀x∈indexG.items,U8 x.key:=by simp [indexG,U8]
theorem live_zero:LiveS (newV 3 6) [0,0,0,0,0,0]:=⟨rfl,rfl,rfl,rfl⟩
end Go.Cop
namespace Go.Proofs.YtpfafhklppondaaGreat.Cz
open ChangeShapes WideShapes ChangeAt RowKit Sl Cop P3 G4 Q2 X2 D3 J4 L4 P4 Q6 Y6 C7 Y2 E7 J7 Bz Z8 Q8
theorem row5_rd {α:Type}{T:Nat}{a:Option Addr}{n c:Nat}(f:α→List Value)(hf:∀x,(f x).length=5){l:List α}{F:Pr}{w:World}(h:Sat ((Row T 5 (.slice a n c) n (l.flatMap f)).star F) w)(hl:l.length=n)(i:Nat)(hi:i<l.length):
 ∃b,a=some ⟨b,0,none⟩∧∀j,j<5→w.cell? ⟨b,i*5+j,none⟩=(f l[i])[j]? ∧w.frozen? ⟨b,i*5+j,none⟩=false:=by
 obtain⟨_,_,e,_,hc⟩:=Row.read h;cases e;obtain⟨b,eb,hd⟩:=hc (by omega);refine⟨b,eb,fun j hj=> ?_⟩;obtain⟨h1,h2⟩:=hd (i*5+j) (by omega);exact⟨h1.trans (flat_at f 5 hf l i j hi hj),h2⟩
def BkE.at(e:BkE)(v:Value):BkE:= { e with t:= { e.t with vi:=v } }
theorem told_put {b n c i:Nat}{qs:List BkE}{F:Pr}{w:World}(h:Sat ((Row 37 5 (.slice (some ⟨b,0,none⟩) n c) n (qs.flatMap bkT)).star F) w)(hi:i<qs.length)(v:Value):
 Sat ((Row 37 5 (.slice (some ⟨b,0,none⟩) n c) n ((qs.set i (BkE.at qs[i] v)).flatMap bkT)).star F) (w.setCell ⟨b,i*5+2,none⟩ v):=by
 have hlen:=flat_len bkT 5 (fun _=>rfl) qs;have h1:=Row.set h (i*5+2) (by rw [hlen];omega) v;rw [flat_set bkT 5 (fun _=>rfl) 2 v (BkE.at qs[i] v) (by omega) qs i hi (by simp [bkT,BkE.at])] at h1;exact h1
theorem told_rd {b n c i:Nat}{qs:List BkE}{e:BkE}{F:Pr}{w:World}(h:Sat ((Row 37 5 (.slice (some ⟨b,0,none⟩) n c) n (qs.flatMap bkT)).star F) w)(hl:qs.length=n)(he:qs[i]? =some e):
 w.cell? ⟨b,i*5,none⟩=some (.int .i64 e.t.g.kind)∧w.cell? ⟨b,i*5+1,none⟩=some (.int .i64 e.t.g.level)∧w.cell? ⟨b,i*5+2,none⟩=some e.t.vi∧w.cell? ⟨b,i*5+3,none⟩=some e.t.vd∧w.cell? ⟨b,i*5+4,none⟩=some (.int .i64 e.t.g.next)∧w.frozen? ⟨b,i*5+2,none⟩=false:=by
 obtain⟨hi,rfl⟩:=List.getElem?_eq_some_iff.1 he;obtain⟨b',eb,hc⟩:=row5_rd bkT (fun _=>rfl) h hl i hi;cases eb;exact⟨(hc 0 (by omega)).1,(hc 1 (by omega)).1,(hc 2 (by omega)).1,(hc 3 (by omega)).1,(hc 4 (by omega)).1,(hc 2 (by omega)).2⟩
theorem want_rd {b n c i:Nat}{qs:List BkE}{e:BkE}{F:Pr}{w:World}(h:Sat ((Row 37 5 (.slice (some ⟨b,0,none⟩) n c) n (qs.flatMap bkW)).star F) w)(hl:qs.length=n)(he:qs[i]? =some e):
 w.cell? ⟨b,i*5,none⟩=some (.int .i64 e.t.g.kind)∧w.cell? ⟨b,i*5+1,none⟩=some (.int .i64 e.t.g.level)∧w.cell? ⟨b,i*5+2,none⟩=some e.wi∧w.cell? ⟨b,i*5+3,none⟩=some e.wd∧w.cell? ⟨b,i*5+4,none⟩=some (.int .i64 e.t.g.next):=by
 obtain⟨hi,rfl⟩:=List.getElem?_eq_some_iff.1 he;obtain⟨b',eb,hc⟩:=row5_rd bkW (fun _=>rfl) h hl i hi;cases eb;exact⟨(hc 0 (by omega)).1,(hc 1 (by omega)).1,(hc 2 (by omega)).1,(hc 3 (by omega)).1,(hc 4 (by omega)).1⟩
def ovI(j:Nat):It:=((.slice none 0 0,.slice none 0 0),⟨[],[], -3-(j:Int),0⟩)
theorem ov_three(n i:Nat):((List.replicate n (ovI i)).flatMap itCells)++ [.slice none 0 0,.slice none 0 0,.int .i64 (-3-(i:Int)),.int .i64 0,.slice none 0 0,.slice none 0 0,.int .i64 (-3-(i:Int)),.int .i64 0,.slice none 0 0,.slice none 0 0,.int .i64 (-3-(i:Int)),.int .i64 0]=(List.replicate (n+3) (ovI i)).flatMap itCells:=by
 rw [← List.replicate_append_replicate,List.flatMap_append];rfl
def pgL(t:ToldX):List (Value × List Int):=(t.vd,t.g.data) :: (t.ys.zip t.g.items).flatMap fun y=> [(y.1.1,y.2.key),(y.1.2,y.2.value)]
theorem zip_len2:∀(ys:List (Value × Value)) (its:List ItemV),ys.length=its.length→((ys.zip its).flatMap fun y=> [(y.1.1,y.2.key),(y.1.2,y.2.value)]).length=2*its.length
 | [],[],_=>rfl
 | [],_ :: _,h=>by simp at h
 | _ :: _,[],h=>by simp at h
 | y :: ys,x :: its,h=>by
   have:=zip_len2 ys its (by simpa using h)
   simp only [List.zip_cons_cons,List.flatMap_cons,List.length_append,this,List.length_cons,List.length_nil];omega
theorem pgL_len {t:ToldX}(h:t.ys.length=t.g.items.length):(pgL t).length=1+2*t.g.items.length:=by
 unfold pgL;rw [List.length_cons,zip_len2 _ _ h];omega
theorem zip_fst2:∀(ys:List (Value × Value)) (its:List ItemV),ys.length=its.length→(((ys.zip its).flatMap fun y=> [(y.1.1,y.2.key),(y.1.2,y.2.value)]).map (·.1))=ys.flatMap bothOf
 | [],[],_=>rfl
 | [],_ :: _,h=>by simp at h
 | _ :: _,[],h=>by simp at h
 | y :: ys,x :: its,h=>by
   have:=zip_fst2 ys its (by simpa using h)
   simp only [List.zip_cons_cons,List.flatMap_cons,List.map_append,this,List.map_cons,List.map_nil,bothOf]
theorem pgL_fst {t:ToldX}(h:t.ys.length=t.g.items.length):(pgL t).map (·.1)=t.vd :: t.ys.flatMap bothOf:=by
 unfold pgL;rw [List.map_cons,zip_fst2 _ _ h]
theorem pgL_sz {t:ToldX}(hf:Fit t.g):∀x∈pgL t,x.2.length≤65536:=by
 intro x hx;unfold pgL at hx;rcases List.mem_cons.1 hx with rfl | hx
 · have:=hf.d;dsimp only;omega
 · obtain⟨y,hy,hx⟩:=List.mem_flatMap.1 hx
   have hm:=(List.of_mem_zip hy).2;have:=hf.k _ hm
   rcases List.mem_cons.1 hx with rfl | hx
   · dsimp only;omega
   · cases List.mem_singleton.1 hx;dsimp only;omega
theorem big_rows2:∀(l:List ((Value × Value) × ItemV)),big rowsOf l=big rowOf (l.flatMap fun y=> [(y.1.1,y.2.key),(y.1.2,y.2.value)])
 | []=>rfl
 | y :: l=>by
   rw [big_cons,List.flatMap_cons,big_append, ← big_rows2 l,big_cons,big_one];rfl
theorem pgOwn_lists {t:ToldX}{F:Pr}{w:World}:Sat ((PgOwn t).star F) w↔t.ys.length=t.g.items.length∧Sat ((ItRow t.vi t.ys t.g.items).star ((big rowOf (pgL t)).star F)) w:=by
 rw [pgOwn_iff]
 have e:big rowOf (pgL t)=(BytesRow t.vd t.g.data).star (big rowsOf (t.ys.zip t.g.items)):=by
  unfold pgL;rw [big_cons, ← big_rows2];rfl
 rw [e];constructor
 · rintro⟨h1,h2⟩
   exact⟨h1,h2.perm (by simp only [TRows];ac_rfl)⟩
 · rintro⟨h1,h2⟩
   exact⟨h1,h2.perm (by simp only [TRows];ac_rfl)⟩
def allL(bs:List BkE):List (Value × List Int):=bs.flatMap fun e=>pgL e.t
theorem allL_take {bs:List BkE}{i:Nat}(hi:i<bs.length):allL (bs.take (i+1))=allL (bs.take i)++pgL bs[i].t:=by
 unfold allL;rw [List.take_succ_eq_append_getElem hi,List.flatMap_append];simp only [List.flatMap_cons,List.flatMap_nil,List.append_nil]
def ovOf(o:Value × Nat × Nat):Pr:=Row 49 4 o.1 o.2.1 ((List.replicate o.2.1 (ovI o.2.2)).flatMap itCells)
theorem ov_rd {os:List (Value × Nat × Nat)}{i:Nat}(hi:i<os.length){F:Pr}{w:World}(h:Sat ((big ovOf os).star F) w):
 ∃a c,os[i].1= .slice a os[i].2.1 c∧∀q,q<os[i].2.1→∃b,a=some ⟨b,0,none⟩∧w.cell? ⟨b,q*4+2,none⟩=some (.int .i64 (-3-(os[i].2.2:Int))):=by
 rw [big_at _ _ i hi,Pr.star_assoc] at h;have h1:Sat ((Row 49 4 os[i].1 os[i].2.1 ((List.replicate os[i].2.1 (ovI os[i].2.2)).flatMap itCells)).star ((big ovOf (os.eraseIdx i)).star F)) w:=h;obtain⟨a,c,e⟩:=Row.shape h1;refine⟨a,c,e,fun q hq=> ?_⟩;rw [e] at h1;obtain⟨_,_,e2,_,hc⟩:=Row.read h1;cases e2;obtain⟨b,eb,hd⟩:=hc (by omega);refine⟨b,eb,(hd (q*4+2) (by omega)).1.trans ?_⟩
 have:=flat_at itCells 4 (fun _=>rfl) (List.replicate os[i].2.1 (ovI os[i].2.2)) q 2 (by rw [List.length_replicate];exact hq) (by omega)
 rw [List.getElem_replicate] at this;exact this
theorem bRest_nil:BRest (.slice none 0 0) (.slice none 0 0) []=Pr.emp:=by
 unfold BRest;simp only [TldRow,WntRow,List.length_nil,List.flatMap_nil,Row.nil,big_nil,Pr.star_emp]
theorem allL_sz {bs:List BkE}(hf:∀e∈bs,Fit e.t.g):∀x∈allL bs,x.2.length≤65536:=by
 intro x hx;obtain⟨e,he,hx⟩:=List.mem_flatMap.1 hx;exact pgL_sz (hf e he) x hx
theorem rows_sl {ys:List (Value × Value)}{its:List ItemV}(hl:ys.length=its.length){F:Pr}{w:World}(h:Sat ((big rowsOf (ys.zip its)).star F) w):∀y∈ys,isSl y.1∧isSl y.2:=by
 intro y hy;obtain⟨k,hk,rfl⟩:=List.mem_iff_getElem.1 hy;have hz:k<(ys.zip its).length:=by simp;omega
 rw [big_at _ _ k hz] at h;have h2:Sat (((BytesRow (ys.zip its)[k].1.1 (ys.zip its)[k].2.key).star (BytesRow (ys.zip its)[k].1.2 (ys.zip its)[k].2.value)).star ((big rowsOf ((ys.zip its).eraseIdx k)).star F)) w:=by rw [← Pr.star_assoc];exact h
 rw [Pr.star_assoc] at h2;obtain⟨a1,c1,e1⟩:=Row.shape h2;obtain⟨a2,c2,e2⟩:=Row.shape h2.right;have e:(ys.zip its)[k].1=ys[k]:=by simp
 rw [e] at e1 e2;exact⟨⟨_,_,_,e1⟩,⟨_,_,_,e2⟩⟩
end Go.Proofs.YtpfafhklppondaaGreat.Cz
