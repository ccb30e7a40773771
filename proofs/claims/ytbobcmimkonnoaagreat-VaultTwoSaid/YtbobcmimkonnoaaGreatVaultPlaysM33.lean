/- Call by call: Make, Write, Take, Read, Undo, Settle, Mark, of both vaults. -/
import Derived.Test.YtbobcmimkonnoaaGreatVaultPlaysM32
import Derived.Test.YtbobcmimkonnoaaGreatVaultPlaysM12
import Derived.Test.YtbobcmimkonnoaaGreatVaultPlaysM30
import Derived.Test.YtbobcmimkonnoaaGreatVaultPlaysM28
import Derived.Test.YtbobcmimkonnoaaGreatVaultPlaysM18
import Derived.Test.YtbobcmimkonnoaaGreatVaultPlaysM16
import Derived.Test.YtbobcmimkonnoaaGreatVaultPlaysM21
import Derived.Test.YtbobcmimkonnoaaGreatVaultPlaysM01
set_option maxRecDepth 100000
set_option maxHeartbeats 16000000
namespace Go.Proofs.YtbobcmimkonnoaaGreat.V9
open ChangeShapes WideShapes ChangeAt RowKit Sl Cop D2 K3 N3 P3 Q3 G2 M2 U3 Y3 F4 J4 X3 X5 E6 F6 J7 T8 M7 P8 L7 M6 W6 Z6 B7 Y7 E8 F8 G8 J8 K8 C8 L8 N9 P9 U9
section
variable {v r:Nat}{s:VaultS}{H:List VaultS}{rs:PoolS}{gs:List PageV}{fl:Int}{l:List (List Int × List PageV)}{k:Nat}
abbrev VStepM(v:Nat)(g:PageV)(s:VaultS)(Q:Int→Int→VaultS→List VaultS→Prop):Prop:=
 ∀(hp:Hp) (pv:Value) (F:Pr) (w:World),PageIn hp pv g→Sat ((VaultA v s).star ((Pr.own hp).star F)) w→Calls Tryz.prog 64 #[.pointer (some ⟨v,0,none⟩),pv] w fun e w'=>
  ∃a b s' H',Q a b s' H'∧e= .returned (.tuple #[.int .i64 a,.int .i64 b])∧Stays w w'∧Sat ((VaultA v s').star ((Pr.own hp).star F)) w'
abbrev RStepM(r:Nat)(g:PageV)(rs:PoolS)(gs:List PageV)(fl:Int)(l:List (List Int × List PageV))(a b:Int)(s':VaultS)(H':List VaultS)(k:Nat):Prop:=
 ∀(hp:Hp) (pv:Value) (F:Pr) (w:World),PageIn hp pv g→Sat ((RefH r rs gs fl l).star ((Pr.own hp).star F)) w→Calls Tryz.prog 94 #[.pointer (some ⟨r,0,none⟩),pv] w fun e w'=>e= .returned (.tuple #[.int .i64 a,.int .i64 b])∧Stays w w'∧
  ∃rs' gs' l',Join s' H' rs' gs' fl l' k∧l'.length≤l.length+1∧Sat ((RefH r rs' gs' fl l').star ((Pr.own hp).star F)) w'
abbrev QMake(s:VaultS)(H:List VaultS)(g:PageV)(a:Int)(b:Int)(s':VaultS)(H':List VaultS):Prop:=(checkP g≠0∧a=0∧b=checkP g∧s'=s∧H'=H)∨(checkP g=0∧∃z,mkR s z∧a=mkN z∧b=mkE z∧((b=0∧s'=(mkS s g z).acted ⟨s.pool.mark,mkW s z⟩∧H'=s :: H)∨(b≠0∧s'=s∧H'=H)))
theorem pair_makeQ(j:Join s H rs gs fl l (k+1))(ok:PoolOk s.pool)(hl:l.length≤1048576)(g:PageV)(hu:∀x∈g.items,U8 x.key):VStepM v g s (QMake s H g)∧∀a b s' H',(QMake s H g) a b s' H'→RStepM r g rs gs fl l a b s' H' k:=by
 have hp:=j.now.pb
 have hv:=j.now.vb
 refine⟨fun hx pv F w hpg hF=> ?_,fun a b s' H' hq hx pv F w hpg hF=> ?_⟩
 · refine(vmake_any v s hx pv g hpg hu (by omega) (by omega) F w hF).mono ?_
   rintro e w' ⟨st,(⟨h0,rfl,hs⟩ | ⟨h0,z,hz,rfl,hs⟩)⟩
   · exact⟨_,_,_,_,.inl ⟨h0,rfl,rfl,rfl,rfl⟩,rfl,st,hs⟩
   · by_cases he:mkE z=0
     · rw [if_pos he] at hs
       exact⟨_,_,_,_,.inr ⟨h0,z,hz,rfl,rfl,.inl ⟨he,rfl,rfl⟩⟩,rfl,st,hs⟩
     · rw [if_neg he] at hs
       exact⟨_,_,_,_,.inr ⟨h0,z,hz,rfl,rfl,.inr ⟨he,rfl,rfl⟩⟩,rfl,st,hs⟩
 · rcases hq with⟨h0,rfl,rfl,rfl,rfl⟩ | ⟨h0,z,hz,rfl,rfl,hq⟩
   · refine(rmakeH_bad r rs gs fl l hx pv g hpg h0 F w hF).mono ?_
     rintro e w' ⟨rfl,ho⟩
     exact⟨rfl,ho.st,_,_,_,j.le (Nat.le_succ k),Nat.le_succ _,hF.only ho⟩
   · cases z with
     | none=>
       refine(rmakeH_full r rs gs fl l hx pv g hpg h0 (fun m hm=>hz m (by rw [← j.now.tw.state];exact hm)) F w hF).mono ?_
       rintro e w' ⟨rfl,ho⟩
       rcases hq with⟨hq,_⟩ | ⟨_,rfl,rfl⟩
       · cases hq
       · exact⟨rfl,ho.st,_,_,_,j.le (Nat.le_succ k),Nat.le_succ _,hF.only ho⟩
     | some m=>
       obtain⟨hz1,hz2⟩:=id hz
       obtain⟨i,rfl,hi⟩:=there_idx (there_of_state (by omega:s.pool.state m≠0))
       refine(rmakeH_ok r rs gs fl l i (by rw [j.lenC];exact hi) (by rw [j.now.tw.state];exact hz1) (fun m hm2=>hz2 m (by rw [← j.now.tw.state];exact hm2)) hx pv g hpg h0 hl F w hF).mono ?_
       rintro e w' ⟨rfl,st,hs⟩
       rcases hq with⟨_,rfl,rfl⟩ | ⟨hq,_⟩
       · exact⟨rfl,st,_,_,_,j.act (cs:=rs.counts.set i 1) (mk_mid ok g hz) (j.now.make ok hz1 (fit_of_check h0) _),by rw [List.length_append];exact Nat.le_refl _,hs⟩
       · exact absurd rfl hq
abbrev VStepW(v:Nat)(n:Int)(g:PageV)(s:VaultS)(Q:Int→VaultS→List VaultS→Prop):Prop:=
 ∀(hp:Hp) (pv:Value) (F:Pr) (w:World),PageIn hp pv g→Sat ((VaultA v s).star ((Pr.own hp).star F)) w→Calls Tryz.prog 95 #[.pointer (some ⟨v,0,none⟩),.int .i64 n,pv] w fun e w'=>
  ∃b s' H',Q b s' H'∧e= .returned (.int .i64 b)∧Stays w w'∧Sat ((VaultA v s').star ((Pr.own hp).star F)) w'
abbrev RStepW(r:Nat)(n:Int)(g:PageV)(rs:PoolS)(gs:List PageV)(fl:Int)(l:List (List Int × List PageV))(b:Int)(s':VaultS)(H':List VaultS)(k:Nat):Prop:=
 ∀(hp:Hp) (pv:Value) (F:Pr) (w:World),PageIn hp pv g→Sat ((RefH r rs gs fl l).star ((Pr.own hp).star F)) w→Calls Tryz.prog 96 #[.pointer (some ⟨r,0,none⟩),.int .i64 n,pv] w fun e w'=>e= .returned (.int .i64 b)∧Stays w w'∧
  ∃rs' gs' l',Join s' H' rs' gs' fl l' k∧l'.length≤l.length+1∧Sat ((RefH r rs' gs' fl l').star ((Pr.own hp).star F)) w'
theorem pair_write(j:Join s H rs gs fl l (k+1))(hl:l.length≤1048576)(n:Int)(g:PageV)(hu:∀x∈g.items,U8 x.key):∃Q,VStepW v n g s Q∧∀b s' H',Q b s' H'→RStepW r n g rs gs fl l b s' H' k:=by
 have hv:=j.now.vb
 refine⟨fun b s' H'=>(ownP s.pool n=false∧b=15∧s'=s∧H'=H)∨(ownP s.pool n=true∧checkP g≠0∧b=checkP g∧s'=s∧H'=H)∨
  (ownP s.pool n=true∧checkP g=0∧b=0∧Mid s (wrS s n g) [(n,s.on n)]∧s'=(wrS s n g).acted ⟨s.pool.mark,[(n,s.on n)]⟩∧H'=s :: H),fun hx pv F w hpg hF=> ?_,fun b s' H' hq hx pv F w hpg hF=> ?_⟩
 · refine(vwrite_any v s n hx pv g hpg hu (by omega) F w hF).mono ?_
   rintro e w' ⟨st,(⟨h0,rfl,hs⟩ | ⟨h0,h1,rfl,hs⟩ | ⟨h0,h1,rfl,hm,hs⟩)⟩
   · exact⟨_,_,_,.inl ⟨h0,rfl,rfl,rfl⟩,rfl,st,hs⟩
   · exact⟨_,_,_,.inr (.inl ⟨h0,h1,rfl,rfl,rfl⟩),rfl,st,hs⟩
   · exact⟨_,_,_,.inr (.inr ⟨h0,h1,rfl,hm,rfl,rfl⟩),rfl,st,hs⟩
 · rcases hq with⟨h0,rfl,rfl,rfl⟩ | ⟨h0,h1,rfl,rfl,rfl⟩ | ⟨h0,h1,rfl,hm,rfl,rfl⟩
   · refine(rwrite_none r rs gs fl l n (by rw [j.own];exact h0) hx pv g hpg _ w hF).mono ?_
     rintro e w' ⟨rfl,ho⟩
     exact⟨rfl,ho.st,_,_,_,j.le (Nat.le_succ k),Nat.le_succ _,hF.only ho⟩
   · refine(rwrite_bad r rs gs fl l n (by rw [j.own];exact h0) hx pv g hpg h1 F w hF).mono ?_
     rintro e w' ⟨rfl,ho⟩
     exact⟨rfl,ho.st,_,_,_,j.le (Nat.le_succ k),Nat.le_succ _,hF.only ho⟩
   · obtain⟨h3,_⟩:=own_state h0
     obtain⟨i,rfl,hi⟩:=there_idx (there_of_state (by omega:s.pool.state n≠0))
     refine(rwrite_ok r rs gs fl l i (by rw [j.lenC];exact hi) (by rw [j.own];exact h0) hx pv g hpg h1 hl F w hF).mono ?_
     rintro e w' ⟨rfl,st,hs⟩
     exact⟨rfl,st,_,_,_,j.act (cs:=rs.counts) hm (j.now.write h0 (fit_of_check h1) _),by rw [List.length_append];exact Nat.le_refl _,hs⟩
abbrev VStepT(v:Nat)(f:Nat)(n:Int)(s:VaultS)(Q:PageV→Int→VaultS→List VaultS→Prop):Prop:=
 ∀(F:Pr) (w:World),Sat ((VaultA v s).star F) w→Calls Tryz.prog f #[.pointer (some ⟨v,0,none⟩),.int .i64 n] w fun e w'=> ∃(t:ToldX) (b:Int) (s':VaultS) (H':List VaultS),Q t.g b s' H'∧Fit t.g∧e= .returned (.tuple #[t.pv,.int .i64 b])∧Stays w w'∧Sat ((PgOwn t).star ((VaultA v s').star F)) w'
abbrev RStepT(r:Nat)(f:Nat)(n:Int)(rs:PoolS)(gs:List PageV)(fl:Int)(l:List (List Int × List PageV))(g:PageV)(b:Int)(s':VaultS)(H':List VaultS)(k:Nat):Prop:=
 ∀(F:Pr) (w:World),Sat ((RefH r rs gs fl l).star F) w→Calls Tryz.prog f #[.pointer (some ⟨r,0,none⟩),.int .i64 n] w fun e w'=>Stays w w'∧∃pv h',e= .returned (.tuple #[pv,.int .i64 b])∧PageIn h' pv g∧
  ∃rs' gs' l',Join s' H' rs' gs' fl l' k∧l'.length≤l.length+1∧Sat ((Pr.own h').star ((RefH r rs' gs' fl l').star F)) w'
theorem sat_zero {F:Pr}{w:World}(h:Sat F w):Sat ((PgOwn zeroT).star F) w:=by rw [pgOwn_zero,Pr.emp_star];exact h
theorem sat_nil {F:Pr}{w:World}(h:Sat F w):Sat ((Pr.own Hp.nil).star F) w:=by rw [own_nil,Pr.emp_star];exact h
theorem pair_take(j:Join s H rs gs fl l (k+1))(ok:PoolOk s.pool)(hl:l.length≤1048576)(n:Int):∃Q,VStepT v 37 n s Q∧∀g b s' H',Q g b s' H'→RStepT r 38 n rs gs fl l g b s' H' k:=by
 have hp:=j.now.pb
 have hv:=j.now.vb
 refine⟨fun g b s' H'=>(s.pool.count n=0∧g=zeroP∧b=15∧s'=s∧H'=H)∨(s.pool.count n≠0∧b=(leaveR s n).1∧((b≠0∧g=zeroP∧s'=s∧H'=H)∨
  (b=0∧s.on n=some g∧Mid s (leaveR s n).2.1 (leaveR s n).2.2∧s'=(leaveR s n).2.1.acted ⟨s.pool.mark,(leaveR s n).2.2⟩∧H'=s :: H))),fun F w hF=> ?_,fun g b s' H' hq F w hF=> ?_⟩
 · refine(vtake_any v s n j.now.tw.fit (fun h=>j.onP ok n h) (j.crP ok) (by omega) (by omega) F w hF).mono ?_
   rintro e w' ⟨st,(⟨h0,rfl,hs⟩ | ⟨h0,h1,rfl,hs⟩ | ⟨h0,h1,hm,t,rfl,hg,hs⟩)⟩
   · exact⟨zeroT,_,_,_,.inl ⟨h0,rfl,rfl,rfl,rfl⟩,fitZ,rfl,st,sat_zero hs⟩
   · exact⟨zeroT,_,_,_,.inr ⟨h0,rfl,.inl ⟨h1,rfl,rfl,rfl⟩⟩,fitZ,rfl,st,sat_zero hs⟩
   · exact⟨t,_,_,_,.inr ⟨h0,h1.symm,.inr ⟨rfl,hg,hm,rfl,rfl⟩⟩,j.now.tw.fit n _ hg,rfl,st,hs⟩
 · have hc:rs.count n=s.pool.count n:=j.now.tw.count n
   rcases hq with⟨h0,rfl,rfl,rfl,rfl⟩ | ⟨h0,hb,hq⟩
   · refine(rtake_none r rs gs fl l n (by rw [hc];exact h0) F w hF).mono ?_
     rintro e w' ⟨ho,rfl⟩
     exact⟨ho.st,_,Hp.nil,rfl,zeroIn,_,_,_,j.le (Nat.le_succ k),Nat.le_succ _,sat_nil (hF.only ho)⟩
   · obtain⟨b1,b2⟩:=j.now.take ok h0
     rw [b1] at hb
     refine(rtake_some r rs gs fl l n (by rw [hc];exact h0) (j.cb ok) hl F w hF).mono ?_
     rintro e w' ⟨st,(⟨h5,_,_⟩ | ⟨_,h5,rfl,hs⟩ | ⟨_,h5,_,pv,h',rfl,hpg,hs⟩)⟩
     · exact absurd (hc.symm.trans h5) h0
     · rcases hq with⟨_,rfl,rfl,rfl⟩ | ⟨h6,_⟩
       · rw [← hb]
         exact⟨st,_,Hp.nil,rfl,zeroIn,_,_,_,j.le (Nat.le_succ k),Nat.le_succ _,sat_nil hs⟩
       · exact absurd (hb.symm.trans h6) h5
     · rcases hq with⟨h6,_⟩ | ⟨h6,hg,hm,rfl,rfl⟩
       · exact absurd (hb.trans h5) h6
       · have eg:g=pgAt gs n:=by
          have:=j.now.tw.at' ok h0
          rw [hg] at this
          exact Option.some.inj this
         subst eg
         obtain⟨cs,ecs⟩:=leaveRR_with rs (pgAt gs n) n
         have b3:=b2 (by rw [b1];exact h5) ⟨s.pool.mark,(leaveR s n).2.2⟩
         rw [ecs] at b3 hs
         refine⟨st,pv,h',by rw [h6],hpg,_,_,_,j.act (cs:=cs) hm b3,by rw [List.length_append];exact Nat.le_refl _,hs⟩
theorem pair_read(j:Join s H rs gs fl l k)(ok:PoolOk s.pool)(n:Int):∃(g:PageV) (b:Int),Fit g∧(∀(F:Pr) (w:World),Sat ((VaultA v s).star F) w→Calls Tryz.prog 44 #[.pointer (some ⟨v,0,none⟩),.int .i64 n] w fun e w'=> ∃t:ToldX,t.g=g∧e= .returned (.tuple #[t.pv,.int .i64 b])∧Stays w w'∧Sat ((PgOwn t).star ((VaultA v s).star F)) w')∧
 (∀(F:Pr) (w:World),Sat ((RefH r rs gs fl l).star F) w→Calls Tryz.prog 45 #[.pointer (some ⟨r,0,none⟩),.int .i64 n] w fun e w'=>Stays w w'∧∃pv h',e= .returned (.tuple #[pv,.int .i64 b])∧PageIn h' pv g∧Sat ((Pr.own h').star ((RefH r rs gs fl l).star F)) w'):=by
 have hc:rs.count n=s.pool.count n:=j.now.tw.count n
 by_cases h0:s.pool.count n=0
 · refine⟨zeroP,15,fitZ,fun F w hF=> ?_,fun F w hF=> ?_⟩
   · refine(read_none v s n F w hF h0).mono ?_
     rintro e w' ⟨rfl,ho⟩
     exact⟨zeroT,rfl,rfl,ho.st,sat_zero (hF.only ho)⟩
   · refine(rreadH_none r rs gs fl l n (by rw [hc];exact h0) F w hF).mono ?_
     rintro e w' ⟨rfl,ho⟩
     exact⟨ho.st,_,Hp.nil,rfl,zeroIn,sat_nil (hF.only ho)⟩
 · have hon:=j.now.tw.at' ok h0
   have ht:=there_of_count h0
   refine⟨pgAt gs n,0,j.now.tw.fit n _ hon,fun F w hF=> ?_,fun F w hF=> ?_⟩
   · refine(read_rows v s n ⟨ht.1,by have:=ht.2;have:=ok.n2;omega⟩ _ (j.now.tw.fit n _ hon) F w hF h0 hon).mono ?_
     rintro e w' ⟨st,t,rfl,hg,hs⟩
     exact⟨t,hg,rfl,st,hs⟩
   · refine(rreadH_some r rs gs fl l n (by rw [hc];exact h0) F w hF).mono ?_
     rintro e w' ⟨st,pv,rfl,h',hpg,hs⟩
     exact⟨st,pv,h',rfl,hpg,hs⟩
theorem Join.bound(j:Join s H rs gs fl l k){F:Pr}{w:World}(hF:Sat ((VaultA v s).star F) w): -1099511627776≤fl∧fl+l.length≤1099511627776:=by
 obtain⟨_,b1,b2⟩:=vault_ok hF
 have h1:=j.fe
 have h2:=j.len.2
 have h3:=j.now.vb
 omega
theorem pair_settle(j:Join s H rs gs fl l (k+1))(ok:PoolOk s.pool)(hb: -1099511627776≤fl∧fl+l.length≤1099511627776):
 (∀(F:Pr) (w:World),Sat ((VaultA v s).star F) w→Calls Tryz.prog 57 #[.pointer (some ⟨v,0,none⟩)] w fun e w'=>e= .returned (.tuple #[])∧Stays w w'∧Sat ((VaultA v s.settled).star F) w')∧
 (∀(F:Pr) (w:World),Sat ((RefH r rs gs fl l).star F) w→Calls Tryz.prog 58 #[.pointer (some ⟨r,0,none⟩)] w fun e w'=>e= .returned (.tuple #[])∧Stays w w'∧
   ∃rs' gs' fl',Join s.settled [] rs' gs' fl' [] k∧Sat ((RefH r rs' gs' fl' []).star F) w'):=by
 refine⟨fun F w hF=> ?_,fun F w hF=> ?_⟩
 · refine(vsettle_any v s F w hF).mono ?_
   rintro e w' ⟨rfl,hs,st⟩
   exact⟨rfl,st,hs⟩
 · refine(rsettleH_any r rs gs fl l hb F w hF).mono ?_
   rintro e w' ⟨rfl,st,hs⟩
   exact⟨rfl,st,_,_,_,j.settle ok,hs⟩
theorem pair_undo(j:Join s H rs gs fl l k)(hb: -1099511627776≤fl∧fl+l.length≤1099511627776)(to:Int):∃(b:Bool) (Q:VaultS→List VaultS→Prop),
 (∀(F:Pr) (w:World),Sat ((VaultA v s).star F) w→Calls Tryz.prog 118 #[.pointer (some ⟨v,0,none⟩),.int .i64 to] w fun e w'=> ∃s' H',Q s' H'∧e= .returned (.bool b)∧Stays w w'∧Sat ((VaultA v s').star F) w')∧
 (∀s' H',Q s' H'→∀(F:Pr) (w:World),Sat ((RefH r rs gs fl l).star F) w→Calls Tryz.prog 119 #[.pointer (some ⟨r,0,none⟩),.int .i64 to] w fun e w'=>e= .returned (.bool b)∧Stays w w'∧
   ∃rs' gs' l',Join s' H' rs' gs' fl l' k∧l'.length≤l.length∧Sat ((RefH r rs' gs' fl l').star F) w'):=by
 obtain⟨n1,n2⟩:=j.len
 have hfe:=j.fe
 by_cases hbad:to<fl∨fl+l.length<to
 · refine⟨false,fun s' H'=>s'=s∧H'=H,fun F w hF=> ?_,fun s' H' hq F w hF=> ?_⟩
   · refine(vundo_bad v s to (by rw [n2, ← hfe];exact hbad) F w hF).mono ?_
     rintro e w' ⟨rfl,ho⟩
     exact⟨s,H,⟨rfl,rfl⟩,rfl,ho.st,hF.only ho⟩
   · obtain⟨rfl,rfl⟩:=hq
     refine(rundo_bad r rs gs fl l to hbad hb F w hF).mono ?_
     rintro e w' ⟨rfl,n,rfl⟩
     exact⟨rfl,(Stays.refl w).drewN n,_,_,_,j,Nat.le_refl _,hF.drewN n⟩
 · obtain⟨i,hi,hil⟩:∃i:Nat,to=fl+i∧i≤l.length:=⟨(to-fl).toNat,by omega,by omega⟩
   subst hi
   have e1:fl+(i:Int)=s.floor+s.acts.length-((l.length-i:Nat):Int):=by omega
   refine⟨true,fun s' H'=>(s :: H).drop (l.length-i)=s' :: H'∧HistV H' s',fun F w hF=> ?_,fun s' H' hq F w hF=> ?_⟩
   · rw [e1]
     refine(vundo_any v s H j.hv (l.length-i) (by omega) F w hF).mono ?_
     rintro e w' ⟨rfl,st,s1,r1,hd,hh,hs⟩
     exact⟨s1,r1,⟨hd,hh⟩,rfl,st,hs⟩
   · obtain⟨hd,hh⟩:=hq
     rcases Nat.lt_or_ge i l.length with hlt | hge
     · obtain⟨i2,hi2⟩:∃i2,l.length-i=i2+1:=⟨l.length-i-1,by omega⟩
       rw [hi2] at hd
       obtain⟨a,ha,j2⟩:=j.undo (by omega) hd hh
       have e2:l.length-1-i2=i:=by omega
       rw [e2] at ha j2
       have ea:l[i]=a:=by
        rw [List.getElem?_eq_getElem hlt] at ha
        exact Option.some.inj ha
       refine(rundo_to r rs gs fl l i hlt hb F w hF).mono ?_
       rintro e w' ⟨rfl,st,hs⟩
       rw [ea] at hs
       exact⟨rfl,st,_,_,_,j2,by rw [List.length_take];omega,hs⟩
     · have e3:i=l.length:=by omega
       subst e3
       rw [Nat.sub_self,List.drop_zero] at hd
       cases hd
       refine(rundo_now r rs gs fl l hb F w hF).mono ?_
       rintro e w' ⟨rfl,n,rfl⟩
       exact⟨rfl,(Stays.refl w).drewN n,_,_,_,j,Nat.le_refl _,hF.drewN n⟩
end
end Go.Proofs.YtbobcmimkonnoaaGreat.V9
namespace Go.Cop
open Go.Proofs.YtbobcmimkonnoaaGreat.V7 Go.Proofs.YtbobcmimkonnoaaGreat.P7 Go.Proofs.YtbobcmimkonnoaaGreat.D2 Go.Proofs.YtbobcmimkonnoaaGreat.N3 Go.Proofs.YtbobcmimkonnoaaGreat.M7 Go.Proofs.YtbobcmimkonnoaaGreat.J7 Go.Proofs.YtbobcmimkonnoaaGreat.U9 Go.Proofs.YtbobcmimkonnoaaGreat.V9
structure LiveS(s:VaultS)(cs:List Int):Prop where
 rf:s.pool.refs=3
 ec:s.pool.counts=cs
 ls:s.pool.last=List.replicate 6 false
 six:cs.length=6
theorem LiveS.count {s:VaultS}{cs:List Int}(h:LiveS s cs){i:Nat}(hi:i<6):s.pool.count ((i:Int)+1)=cs.getD i 0:=by
 unfold PoolS.count
 have h6:=h.six
 rw [if_pos (by refine⟨by omega,?_⟩;rw [h.ec];omega),h.ec]
 congr 1
theorem LiveS.state {s:VaultS}{cs:List Int}(h:LiveS s cs){i:Nat}(hi:i<6):s.pool.state ((i:Int)+1)=stateOf (cs.getD i 0) false:=by
 have h6:=h.six
 have ht:s.pool.there ((i:Int)+1):=by refine⟨by omega,?_⟩;rw [h.ec];omega
 unfold PoolS.state
 rw [if_pos ht,h.count hi]
 unfold PoolS.lasts
 have e:(List.replicate 6 false).getD i false=false:=by rw [List.getD_eq_getElem?_getD,List.getElem?_replicate,if_pos hi];rfl
 rw [h.ls,show ((i:Int)+1).toNat-1=i by omega,e]
theorem LiveS.did {s:VaultS}{cs:List Int}(h:LiveS s cs){i:Nat}(hi:i<6)(b:Int){t:VaultS}(ht:t.pool=s.pool.did ((i:Int)+1) b):LiveS t (cs.set i (cs.getD i 0+b)):=by
 refine⟨by rw [ht];exact h.rf,?_,by rw [ht];exact h.ls,by rw [List.length_set];exact h.six⟩
 rw [ht]
 show s.pool.counts.set (((i:Int)+1).toNat-1) (s.pool.count ((i:Int)+1)+b)=_
 rw [h.count hi,h.ec,show ((i:Int)+1).toNat-1=i by omega]
theorem live_make {s:VaultS}{H:List VaultS}{g:PageV}{a b:Int}{s':VaultS}{H':List VaultS}{cs:List Int}(h:LiveS s cs)(h0:checkP g=0){i:Nat}(hi:i<6)(hz:cs.getD i 0=0)(hlow:∀j,j<i→0<cs.getD j 0)(hq:QMake s H g a b s' H'):
 LiveS s' (cs.set i 1)∧∀m,s'.on m=if m=(i:Int)+1 then some g else s.on m:=by
 have hst:s.pool.state ((i:Int)+1)=1:=by rw [h.state hi,hz];rfl
 rcases hq with⟨h1,_⟩ | ⟨_,z,hz2,_,rfl,hq⟩
 · exact absurd h0 h1
 · cases z with
   | none=>exact absurd hst (hz2 _)
   | some n=>
     obtain⟨hn,hm⟩:=hz2
     have hle:=hm _ hst
     have ht:=there_of_state (s:=s.pool) (n:=n) (by omega)
     have h1:=ht.1
     have hni:n=(i:Int)+1:=by
      by_cases hlt:n<(i:Int)+1
      · exfalso
        obtain⟨j,hj⟩:∃j:Nat,n=(j:Int)+1:=⟨(n-1).toNat,by omega⟩
        subst hj
        have hp:=hlow j (by omega)
        rw [h.state (by omega)] at hn
        unfold stateOf at hn
        rw [if_pos hp] at hn
        simp at hn
      · omega
     subst hni
     rcases hq with⟨_,rfl,_⟩ | ⟨hb,_⟩
     · refine⟨?_,fun m=>rfl⟩
       have:=h.did hi 1 (t:=(mkS s g (some ((i:Int)+1))).acted ⟨s.pool.mark,mkW s (some ((i:Int)+1))⟩) rfl
       rw [hz] at this
       exact this
     · exact absurd rfl hb
theorem live_keep {s:VaultS}{H:List VaultS}{b:Int}{s':VaultS}{H':List VaultS}{cs:List Int}(h:LiveS s cs){i:Nat}(hi:i<6)(h1:cs.getD i 0≠0)(h3:cs.getD i 0≠3)(hq:QKeep s H ((i:Int)+1) b s' H'):
 LiveS s' (cs.set i (cs.getD i 0+1))∧∀m,s'.on m=s.on m:=by
 have he:incE s.pool ((i:Int)+1)=0:=by
  unfold incE
  rw [h.count hi,h.rf,if_neg h1,if_neg h3]
 obtain⟨rfl,⟨_,rfl,_⟩ | ⟨hb,_⟩⟩:=hq
 · exact⟨h.did hi 1 rfl,fun m=>rfl⟩
 · exact absurd he hb
theorem live_shadow {s:VaultS}{H:List VaultS}{a b:Int}{s':VaultS}{H':List VaultS}(h:LiveS s [1,1,2,0,0,0]){g:PageV}(hon:s.on 3=some g)(hk:kidsOf g= [1,2])(hq:QShadow s H 3 a b s' H'):LiveS s' [2,2,1,1,0,0]:=by
 have c3:s.pool.count 3=2:=h.count (i:=2) (by omega)
 have s4:s.pool.state 4=1:=h.state (i:=3) (by omega)
 have s1:s.pool.state 1=3:=h.state (i:=0) (by omega)
 have s2:s.pool.state 2=3:=h.state (i:=1) (by omega)
 have s3:s.pool.state 3=3:=h.state (i:=2) (by omega)
 rcases hq with⟨h1,_⟩ | ⟨_,h1,_⟩ | ⟨_,_,g2,z,hg,hz,_,_,rfl,hq⟩
 · rw [c3] at h1;cases h1
 · unfold ownP at h1
   rw [s3,c3] at h1
   cases h1
 · rw [hon] at hg
   cases hg
   cases z with
   | none=>exact absurd s4 (hz _)
   | some n=>
     obtain⟨hn,hm⟩:=hz
     have hle:=hm _ s4
     have ht:=there_of_state (s:=s.pool) (n:=n) (by omega)
     have h1:=ht.1
     have hn4:n=4:=by
      rcases (by omega:n=1∨n=2∨n=3∨n=4) with rfl | rfl | rfl | rfl
      · omega
      · omega
      · omega
      · rfl
     subst hn4
     have m4:LiveS (s.made 4 g) [1,1,2,1,0,0]:=h.did (i:=3) (by omega) 1 rfl
     have d3:LiveS { s with pool:=(s.made 4 g).pool.did 3 (-1) } [1,1,1,1,0,0]:=m4.did (i:=2) (by omega) (-1) rfl
     have d1:LiveS { s with pool:=((s.made 4 g).pool.did 3 (-1)).did 1 1 } [2,1,1,1,0,0]:=d3.did (i:=0) (by omega) 1 rfl
     have d2:LiveS { s with pool:=(((s.made 4 g).pool.did 3 (-1)).did 1 1).did 2 1 } [2,2,1,1,0,0]:=d1.did (i:=1) (by omega) 1 rfl
     have e1:incE ((s.made 4 g).pool.did 3 (-1)) 1=0:=by
      have c:=d3.count (i:=0) (by omega)
      have r:=d3.rf
      unfold incE
      rw [show ((s.made 4 g).pool.did 3 (-1)).count 1=1 from c,show ((s.made 4 g).pool.did 3 (-1)).refs=3 from r]
      rfl
     have e2:incE (((s.made 4 g).pool.did 3 (-1)).did 1 1) 2=0:=by
      have c:=d1.count (i:=1) (by omega)
      have r:=d1.rf
      unfold incE
      rw [show (((s.made 4 g).pool.did 3 (-1)).did 1 1).count 2=1 from c,show (((s.made 4 g).pool.did 3 (-1)).did 1 1).refs=3 from r]
      rfl
     have c4:(s.made 4 g).pool.count 3=2:=m4.count (i:=2) (by omega)
     have o3:(s.made 4 g).on 3=some g:=by
      show (if(3:Int)=4 then some g else s.on 3)=some g
      rw [if_neg (by omega),hon]
     have eL:leaveR (s.made 4 g) 3=(0,{ (s.made 4 g) with pool:=(((s.made 4 g).pool.did 3 (-1)).did 1 1).did 2 1 },[]):=by
      unfold leaveR
      rw [c4,if_neg (by omega),o3]
      simp only [Option.getD_some,hk,incsP,e1,e2,if_true]
     rcases hq with⟨_,rfl,_⟩ | ⟨hb,_⟩
     · show LiveS ((leaveR (s.made 4 g) 3).2.1.acted _) _
       rw [eL]
       exact⟨d2.rf,d2.ec,d2.ls,d2.six⟩
     · exfalso
       apply hb
       show (leaveR (s.made 4 g) 3).1=0
       rw [eL]
end Go.Cop
namespace Go.Proofs.YtbobcmimkonnoaaGreat.X9
open ChangeShapes WideShapes ChangeAt RowKit Sl Cop M5
theorem pnew_bad(pages refs:Int)(h:rangeOk pages refs=false)(w:World):Calls Tryz.prog 62 #[.int .i64 pages,.int .i64 refs] w fun e w'=>e= .returned (.tuple #[.pointer none,.int .i64 1])∧w=w':=by
 have R:=hQ (right_any pages refs w)
 rw [h] at R
 clear h
 go_enter Tryz.func62,Tryz.ntmps62
 go_wp2_with fail
 refine R.out.mono ?_
 rintro e w1 ⟨rfl,rfl⟩
 go_wp2
 go_ret2
 exact⟨rfl,rfl⟩
theorem vnew_bad(pages refs:Int)(h:rangeOk pages refs=false)(w:World):Calls Tryz.prog 12 #[.int .i64 pages,.int .i64 refs] w fun e w'=>e= .returned (.tuple #[.pointer none,.int .i64 1])∧w=w':=by
 have R:=hQ (pnew_bad pages refs h w)
 clear h
 go_enter Tryz.func12,Tryz.ntmps12
 go_wp2_with fail
 refine R.out.mono ?_
 rintro e w1 ⟨rfl,rfl⟩
 go_wp2
 go_ret2
 exact⟨rfl,rfl⟩
end Go.Proofs.YtbobcmimkonnoaaGreat.X9
namespace Go.Cop
open Go.Proofs.YtbobcmimkonnoaaGreat.M5 Go.ChangeShapes Go.Sl Go.Proofs.YtbobcmimkonnoaaGreat.D2 Go.Proofs.YtbobcmimkonnoaaGreat.K3 Go.Proofs.YtbobcmimkonnoaaGreat.U3 Go.Proofs.YtbobcmimkonnoaaGreat.Y3 Go.Proofs.YtbobcmimkonnoaaGreat.F4 Go.Proofs.YtbobcmimkonnoaaGreat.P3 Go.Proofs.YtbobcmimkonnoaaGreat.Q3 Go.Proofs.YtbobcmimkonnoaaGreat.Z5 Go.Proofs.YtbobcmimkonnoaaGreat.V6 Go.Proofs.YtbobcmimkonnoaaGreat.V8 Go.Proofs.YtbobcmimkonnoaaGreat.F6 Go.Proofs.YtbobcmimkonnoaaGreat.G6
theorem sumC_leJ {B:Int}:∀ {cs:List Int},(∀c∈cs,0≤c∧c≤B)→(sumC cs:Int)≤cs.length*B
 | [],_=>by simp [sumC]
 | c :: cs,h=>by
   have h1:=sumC_leJ (B:=B) (cs:=cs) fun c hc=>h c (by simp [hc])
   have h2:=h c (by simp)
   have e:sumC (c :: cs)=c.toNat+sumC cs:=by simp [sumC]
   rw [e,List.length_cons]
   have e2:((cs.length+1:Nat):Int)*B=cs.length*B+B:=by rw [Int.natCast_add,Int.add_mul];simp
   rw [e2]
   omega
theorem lasts_ofJ(refs:Int)(cs:List Int)(n:Int)(ht:(poolOf refs cs 0).there n):(poolOf refs cs 0).lasts n=decide (0<(poolOf refs cs 0).count n):=by
 have hi:n.toNat-1<cs.length:=by have h1:=ht.1;have h2:n≤(cs.length:Int):=ht.2;omega
 have e1:(poolOf refs cs 0).count n=cs.getD (n.toNat-1) 0:=by unfold PoolS.count;rw [if_pos ht]
 rw [e1]
 show (lastsOf cs).getD (n.toNat-1) false=_
 unfold lastsOf
 rw [List.getD_eq_getElem?_getD,List.getD_eq_getElem?_getD,List.getElem?_map,List.getElem?_eq_getElem hi]
 rfl
theorem lasts_zeroJ(n:Nat):lastsOf (List.replicate n 0)=List.replicate n false:=by
 unfold lastsOf
 simp
theorem bothH_load {refs:Int}{cs:List Int}{on:Int→Option PageV}(h:Right cs on)(hc:∀c∈cs,0≤c∧c≤refs)(ok:PoolOk (poolOf refs cs 0))(k:Nat)(hk:k≤1000000):BothH (loadV refs cs on) (poolOf refs cs 0) (pgsOf cs.length on) k:=by
 have hr:refs<65536:=ok.r2
 have hn:cs.length≤65536:=ok.n2
 have hr1:(2:Int)≤refs:=ok.r1
 refine⟨⟨rfl,rfl,rfl,by simp [pgsOf],fun n hn=> ?_,fun n h1 h2=> ?_,h.ok.fit,hc⟩,?_,?_⟩
 · have h0:=count_of_free ok hn
   cases e:on n with
   | none=>exact e
   | some g=>exact absurd ((count_poolOf refs cs n).symm.trans h0) (h.ok.there n g e)
 · have ht:(poolOf refs cs 0).there n:=h2
   have h3:(poolOf refs cs 0).count n≠0:=fun e=>h1 (by
    show (poolOf refs cs 0).state n=1
    rw [state_there ht,lasts_ofJ refs cs n ht,e]
    rfl)
   obtain⟨g,hg⟩:=h.full n (fun e=>h3 ((count_poolOf refs cs n).trans e))
   show on n=_
   rw [hg]
   have b1:=ht.1
   have b2:n≤(cs.length:Int):=ht.2
   congr 1
   unfold pgAt pgsOf
   rw [List.getD_eq_getElem?_getD,List.getElem?_map,List.getElem?_range (by show n.toNat-1<cs.length;omega)]
   simp only [Option.map_some,Option.getD_some]
   rw [show (((n.toNat-1:Nat):Int))+1=n by omega,hg]
   rfl
 · have h1:=sumC_leJ hc
   show (0:Int)+(([]:List (Int × Int)).length:Nat)+(sumC cs:Nat)+32*(k:Nat)+131072<1099511627776
   have h2:(cs.length:Int)*refs≤65536*65536:=Int.mul_le_mul (by omega) (by omega) (by omega) (by omega)
   simp only [List.length_nil]
   omega
 · show (0:Int)+(([]:List ActV).length:Nat)+32*(k:Nat)<1099511627776
   simp only [List.length_nil]
   omega
theorem join_load {refs:Int}{cs:List Int}{on:Int→Option PageV}(h:Right cs on)(hc:∀c∈cs,0≤c∧c≤refs)(ok:PoolOk (poolOf refs cs 0))(k:Nat)(hk:k≤1000000):Join (loadV refs cs on) [] (poolOf refs cs 0) (pgsOf cs.length on) 0 [] k:=
 ⟨bothH_load h hc ok k hk,rfl,rfl,rfl⟩
theorem join_new {refs:Int}{n:Nat}(h:rangeOk n refs=true)(ok:PoolOk (poolOf refs (List.replicate n 0) 0))(k:Nat)(hk:k≤1000000):Join (newV refs n) [] (poolN refs n) (List.replicate n zeroP) 0 [] k:=by
 obtain⟨n1,n2,n3,n4⟩:=rangeOk_iff.1 h
 have e1:poolN refs n=poolOf refs (List.replicate n 0) 0:=by unfold poolN poolOf;rw [lasts_zeroJ]
 have e2:List.replicate n zeroP=pgsOf (List.replicate n (0:Int)).length fun _=>none:=by rw [List.length_replicate,pgsOf_none]
 rw [e1,e2]
 exact join_load (right_new n (by omega)) (fun c hc=>by rw [List.eq_of_mem_replicate hc];omega) ok k hk
end Go.Cop
namespace Go.Proofs.YtbobcmimkonnoaaGreat.Y9
open ChangeShapes WideShapes ChangeAt RowKit Sl Cop K3 Q3 G2 M2 N2 U3 Y3 X3 X5 Y5 X8 Y8
abbrev It:=(Value × Value) × ItemV
abbrev ZRow(b n c:Nat)(zs:List It):Pr:=Row 58 4 (.slice (some ⟨b,0,none⟩) n c) n (zs.flatMap itCells)
theorem z_rd {b n c k:Nat}{zs:List It}{F:Pr}{w:World}(h:Sat ((ZRow b n c zs).star F) w)(hl:zs.length=n)(hk:k<zs.length):
 (w.cell? ⟨b,k*4,none⟩=some zs[k].1.1∧w.cell? ⟨b,k*4+1,none⟩=some zs[k].1.2∧w.cell? ⟨b,k*4+2,none⟩=some (.int .i64 zs[k].2.child)∧w.cell? ⟨b,k*4+3,none⟩=some (.int .i64 zs[k].2.size))∧
   (w.frozen? ⟨b,k*4,none⟩=false∧w.frozen? ⟨b,k*4+1,none⟩=false∧w.frozen? ⟨b,k*4+2,none⟩=false∧w.frozen? ⟨b,k*4+3,none⟩=false):=by
 obtain⟨a',c',e,_,hc⟩:=Row.read h
 cases e
 obtain⟨b',eb,hc⟩:=hc (by omega)
 cases eb
 have at':∀j,j<4→w.cell? ⟨b,k*4+j,none⟩=(itCells zs[k])[j]? ∧w.frozen? ⟨b,k*4+j,none⟩=false:=by
  intro j hj
  obtain⟨h1,h2⟩:=hc (k*4+j) (by omega)
  exact⟨h1.trans (flat_at itCells 4 (fun _=>rfl) zs k j hk hj),h2⟩
 exact⟨⟨(at' 0 (by omega)).1,(at' 1 (by omega)).1,(at' 2 (by omega)).1,(at' 3 (by omega)).1⟩,(at' 0 (by omega)).2,(at' 1 (by omega)).2,(at' 2 (by omega)).2,(at' 3 (by omega)).2⟩
theorem z_put {b n c k:Nat}{zs:List It}{F:Pr}{w:World}(h:Sat ((ZRow b n c zs).star F) w)(hk:k<zs.length)(y:It):
 Sat ((ZRow b n c (zs.set k y)).star F) ((((w.setCell ⟨b,k*4,none⟩ y.1.1).setCell ⟨b,k*4+1,none⟩ y.1.2).setCell ⟨b,k*4+2,none⟩ (.int .i64 y.2.child)).setCell ⟨b,k*4+3,none⟩ (.int .i64 y.2.size)):=by
 have hlen:=flat_len itCells 4 (fun _=>rfl) zs
 have h1:=Row.set (Row.set (Row.set (Row.set h (k*4) (by rw [hlen];omega) y.1.1) (k*4+1) (by rw [List.length_set,hlen];omega) y.1.2) (k*4+2) (by rw [List.length_set,List.length_set,hlen];omega) (.int .i64 y.2.child)) (k*4+3) (by rw [List.length_set,List.length_set,List.length_set,hlen];omega) (.int .i64 y.2.size)
 have e0:=flat_set itCells 4 (fun _=>rfl) 0 y.1.1 ((y.1.1,zs[k].1.2),zs[k].2) (by omega) zs k hk (by simp [itCells])
 have e1:=flat_set itCells 4 (fun _=>rfl) 1 y.1.2 ((y.1.1,y.1.2),zs[k].2) (by omega) (zs.set k ((y.1.1,zs[k].1.2),zs[k].2)) k (by simpa using hk) (by simp [itCells])
 have e2:=flat_set itCells 4 (fun _=>rfl) 2 (.int .i64 y.2.child) ((y.1.1,y.1.2),⟨[],[],y.2.child,zs[k].2.size⟩) (by omega) (zs.set k ((y.1.1,y.1.2),zs[k].2)) k (by simpa using hk) (by simp [itCells])
 have e3:=flat_set itCells 4 (fun _=>rfl) 3 (.int .i64 y.2.size) y (by omega) (zs.set k ((y.1.1,y.1.2),⟨[],[],y.2.child,zs[k].2.size⟩)) k (by simpa using hk) (by simp [itCells])
 rw [Nat.add_zero] at e0
 rw [List.set_set] at e1 e2 e3
 rw [e0,e1,e2,e3] at h1
 exact h1
def zeroZ:It:=((.slice none 0 0,.slice none 0 0),⟨[],[],0,0⟩)
theorem z_cells(n:Nat):madeCells #[.slice none 0 0,.slice none 0 0,.int .i64 0,.int .i64 0] (n*4)=((List.replicate n zeroZ).flatMap itCells).toArray:=by
 refine Array.ext (by simp only [size_madeCells,List.size_toArray,flat_len itCells 4 (fun _=>rfl),List.length_replicate]) fun i h1 h2=> ?_
 rw [size_madeCells] at h1
 have h3:((List.replicate n zeroZ).flatMap itCells)[i]? =(itCells zeroZ)[i % 4]? :=by
  have:=flat_at itCells 4 (fun _=>rfl) (List.replicate n zeroZ) (i / 4) (i % 4) (by rw [List.length_replicate];omega) (by omega)
  rw [show i / 4*4+i % 4=i by omega,List.getElem_replicate] at this
  exact this
 have h4:(madeCells #[.slice none 0 0,.slice none 0 0,.int .i64 0,.int .i64 0] (n*4))[i]= #[.slice none 0 0,.slice none 0 0,.int .i64 0,.int .i64 0][i % 4]! :=by
  simp only [madeCells,Array.getElem_map,Array.getElem_range]
  rfl
 rw [h4]
 have h5:((List.replicate n zeroZ).flatMap itCells).toArray[i]? =(itCells zeroZ)[i % 4]? :=by rw [List.getElem?_toArray];exact h3
 rw [Array.getElem?_eq_getElem h2] at h5
 have h6:i % 4<4:=Nat.mod_lt _ (by omega)
 generalize i % 4=j at*
 match j,h6 with
 | 0,_=>exact(Option.some.inj h5).symm
 | 1,_=>exact(Option.some.inj h5).symm
 | 2,_=>exact(Option.some.inj h5).symm
 | 3,_=>exact(Option.some.inj h5).symm
theorem z_made {F:Pr}{w:World}(n:Nat)(hn:n≤maxLen)(h:Sat F w):
 Sat ((ZRow w.heap.size n n (List.replicate n zeroZ)).star F) (w.alloc (.cells (madeCells #[.slice none 0 0,.slice none 0 0,.int .i64 0,.int .i64 0] (n*4)) 58)):=by
 have h1:=h.alloc (.cells (madeCells #[.slice none 0 0,.slice none 0 0,.int .i64 0,.int .i64 0] (n*4)) 58)
 rw [z_cells] at h1 ⊢
 refine Row.mk' (sp:= []) (by rw [flat_len itCells 4 (fun _=>rfl),List.length_replicate]) (by rw [flat_len itCells 4 (fun _=>rfl),List.length_replicate];rfl) (Nat.le_refl _) hn ?_
 rw [List.append_nil]
 exact h1
def kvOf(p:Nat × Nat)(x:ItemV):Value × Value:=(.slice (some ⟨p.1,0,none⟩) x.key.length (x.key.length+64),.slice (some ⟨p.2,0,none⟩) x.value.length (x.value.length+64))
def extZ(i:Nat):It:=((.slice none 0 0,.slice none 0 0),⟨[],[], -5-(i:Int), -9⟩)
def spZ(bs:List (Nat × Nat))(its:List ItemV)(k i:Nat):It:=if i<k then(if h:i<its.length then(kvOf (bs.getD i (0,0)) its[i],its[i]) else extZ i) else zeroZ
def spL(bs:List (Nat × Nat))(its:List ItemV)(k:Nat):List It:=(List.range (its.length+2)).map (spZ bs its k)
theorem spL_len(bs:List (Nat × Nat))(its:List ItemV)(k:Nat):(spL bs its k).length=its.length+2:=by simp [spL]
theorem spL_at {bs:List (Nat × Nat)}{its:List ItemV}{k i:Nat}(h:i<its.length+2):(spL bs its k)[i]'(by rw [spL_len];exact h)=spZ bs its k i:=by simp [spL]
theorem spL_zero(its:List ItemV):spL [] its 0=List.replicate (its.length+2) zeroZ:=by
 refine List.ext_getElem (by rw [spL_len,List.length_replicate]) fun i h1 h2=> ?_
 rw [spL_len] at h1
 rw [spL_at h1,List.getElem_replicate]
 simp [spZ]
theorem spL_item {bs:List (Nat × Nat)}{its:List ItemV}{k:Nat}(hk:k<its.length)(hb:bs.length=k)(p:Nat × Nat):(spL bs its k).set k (kvOf p its[k],its[k])=spL (bs++ [p]) its (k+1):=by
 refine List.ext_getElem (by rw [List.length_set,spL_len,spL_len]) fun i h1 h2=> ?_
 have h3:i<its.length+2:=by rw [spL_len] at h2;exact h2
 rw [List.getElem_set,spL_at h3,spL_at h3]
 subst hb
 rcases Nat.lt_trichotomy i bs.length with hlt | rfl | hgt
 · rw [if_neg (by omega)]
   unfold spZ
   rw [if_pos hlt,if_pos (by omega),dif_pos (by omega),dif_pos (by omega)]
   simp [List.getD,List.getElem?_append_left hlt]
 · rw [if_pos rfl]
   unfold spZ
   rw [if_pos (by omega),dif_pos hk]
   simp [List.getD]
 · rw [if_neg (by omega)]
   unfold spZ
   rw [if_neg (by omega),if_neg (by omega)]
theorem spL_ext {bs:List (Nat × Nat)}{its:List ItemV}{k:Nat}(h:its.length≤k):(spL bs its k).set k (extZ k)=spL bs its (k+1):=by
 refine List.ext_getElem (by rw [List.length_set,spL_len,spL_len]) fun i h1 h2=> ?_
 have h3:i<its.length+2:=by rw [spL_len] at h2;exact h2
 rw [List.getElem_set,spL_at h3,spL_at h3]
 rcases Nat.lt_trichotomy i k with hlt | rfl | hgt
 · rw [if_neg (by omega)]
   unfold spZ
   rw [if_pos hlt,if_pos (by omega)]
 · rw [if_pos rfl]
   unfold spZ
   rw [if_pos (by omega),dif_neg (by omega)]
 · rw [if_neg (by omega)]
   unfold spZ
   rw [if_neg (by omega),if_neg (by omega)]
def wholeOf(p:(Nat × Nat) × ItemV):Pr:=(WholeRow p.1.1 p.2.key).star (WholeRow p.1.2 p.2.value)
theorem big_whole_in {l:List ((Nat × Nat) × ItemV)}{h:Hp}(hb:big wholeOf l h):∀x∈l,Bytes h (kvOf x.1 x.2).1 x.2.key∧Bytes h (kvOf x.1 x.2).2 x.2.value:=by
 induction l generalizing h with
 | nil=>intro x hx;cases hx
 | cons y l ih=>
   obtain⟨a,b,ha,hb',s1,s2⟩:=star_sub (show ((wholeOf y).star (big wholeOf l)) h from hb)
   obtain⟨c,d,hc,hd,s3,s4⟩:=star_sub (show ((WholeRow y.1.1 y.2.key).star (WholeRow y.1.2 y.2.value)) a from ha)
   intro x hx
   rcases List.mem_cons.1 hx with rfl | hx
   · exact⟨((whole_bytes hc).sub s3).sub s1,((whole_bytes hd).sub s4).sub s1⟩
   · exact⟨(ih hb' x hx).1.sub s2,(ih hb' x hx).2.sub s2⟩
structure SpX where
 ib:Nat
 db:Nat
 bs:List (Nat × Nat)
def SpX.pv(x:SpX)(g:PageV):Value:=pageV g.kind g.level (.slice (some ⟨x.ib,0,none⟩) g.items.length (g.items.length+2)) (.slice (some ⟨x.db,0,none⟩) g.data.length (g.data.length+64)) g.next
abbrev SpRow(ib:Nat)(bs:List (Nat × Nat))(its:List ItemV):Pr:=ZRow ib (its.length+2) (its.length+2) (spL bs its (its.length+2))
abbrev SpRows(x:SpX)(g:PageV):Pr:=(SpRow x.ib x.bs g.items).star ((big wholeOf (x.bs.zip g.items)).star (WholeRow x.db g.data))
theorem spRows_in {x:SpX}{g:PageV}(hl:x.bs.length=g.items.length){h:Hp}(hs:SpRows x g h):PageIn h (x.pv g) g:=by
 obtain⟨a,b,ha,hb,s1,s2⟩:=star_sub hs
 obtain⟨c,d,hc,hd,s3,s4⟩:=star_sub hb
 obtain⟨_,ar,cr,e,_,hm,hcell⟩:=Row.rowIn ha
 cases e
 refine⟨_,_,rfl,⟨(x.bs.zip g.items).map fun p=>kvOf p.1 p.2,by simp [hl],?_,fun k hx hk=> ?_⟩,((whole_bytes hd).sub s4).sub s2⟩
 · refine RowIn.sub s1 ⟨?_,some ⟨x.ib,0,none⟩,g.items.length+2,rfl,by omega,hm,fun _=>⟨x.ib,0,rfl,fun i hi=> ?_⟩⟩
   · refine(flat_len itCells 4 (fun _=>rfl) _).trans ?_
     simp [hl]
   · obtain⟨b',off,eb,hc2⟩:=hcell (by omega)
     cases eb
     rw [hc2 i (by omega)]
     have h1:=flat_at itCells 4 (fun _=>rfl) (spL x.bs g.items (g.items.length+2)) (i / 4) (i % 4) (by rw [spL_len];omega) (by omega)
     have h2:=flat_at itCells 4 (fun _=>rfl) (((x.bs.zip g.items).map fun p=>kvOf p.1 p.2).zip g.items) (i / 4) (i % 4) (by simp [hl];omega) (by omega)
     rw [show i / 4*4+i % 4=i by omega] at h1 h2
     have h3:i / 4<g.items.length:=by omega
     have e3:(spL x.bs g.items (g.items.length+2))[i / 4]'(by rw [spL_len];omega)=(((x.bs.zip g.items).map fun p=>kvOf p.1 p.2).zip g.items)[i / 4]'(by simp [hl];omega):=by
      rw [spL_at (by omega)]
      unfold spZ
      rw [if_pos (by omega),dif_pos h3]
      simp [List.getD,List.getElem?_eq_getElem (show i / 4<x.bs.length by omega)]
     rw [e3] at h1
     exact h1.trans h2.symm
 · have hz:k<(x.bs.zip g.items).length:=by simp [hl];omega
   have hm:=big_whole_in hc _ (List.getElem_mem hz)
   rw [List.getElem_map]
   have e:(x.bs.zip g.items)[k].2=g.items[k]:=by simp
   rw [e] at hm ⊢
   exact⟨(hm.1.sub s3).sub s2,(hm.2.sub s3).sub s2⟩
end Go.Proofs.YtbobcmimkonnoaaGreat.Y9
