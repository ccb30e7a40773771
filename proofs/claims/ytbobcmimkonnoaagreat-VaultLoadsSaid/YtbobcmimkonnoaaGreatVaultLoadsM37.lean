/- Both Releases of any item; the document's Store, whatever the value; the conditions stand as hypotheses. -/
import Derived.Test.YtbobcmimkonnoaaGreatVaultLoadsM35
set_option maxRecDepth 100000
set_option maxHeartbeats 16000000
namespace Go.Proofs.YtbobcmimkonnoaaGreat.Fy
open ChangeShapes WideShapes ChangeAt RowKit Sl Cop D2 M3 Q3 D4 M2 N2 E4 G4 X4 E6 J4 L6 G6 L5 M7 Q7 U7 X7 J8 J9 Ay Dy J7
end Go.Proofs.YtbobcmimkonnoaaGreat.Fy
namespace Go.Cop
open Go.Proofs.YtbobcmimkonnoaaGreat.U3 Go.Proofs.YtbobcmimkonnoaaGreat.D4 Go.Proofs.YtbobcmimkonnoaaGreat.Q7 Go.Proofs.YtbobcmimkonnoaaGreat.B9 Go.Proofs.YtbobcmimkonnoaaGreat.Z7 Go.Proofs.YtbobcmimkonnoaaGreat.Y3
structure Both(s:VaultS)(rs:PoolS)(gs:List PageV)(k:Nat):Prop where
 tw:Twin s rs gs
 pb:s.pool.floor+s.pool.acts.length+sumC s.pool.counts+16*k<1099511627776
 vb:s.floor+s.acts.length+16*k<1099511627776
theorem Both.mono {s:VaultS}{rs:PoolS}{gs:List PageV}{k:Nat}(h:Both s rs gs (k+1)):Both s rs gs k:=
 ⟨h.tw,by have:=h.pb;omega,by have:=h.vb;omega⟩
theorem Both.drop {s t:VaultS}{rs:PoolS}{gs:List PageV}{k:Nat}(h:Both s rs gs (k+1))(ok:PoolOk s.pool){l:List Int}{e:Int}{W:List (Int × Option PageV)}(hd:DInv s t W)(hf:Far s t)(h1:DropR s.get l s.pool.counts e t.pool.counts)(a:ActV):Both (t.acted a) { rs with counts:=t.pool.counts } gs k:=by
 refine⟨h.tw.drop ok hd h1 a,?_,?_⟩
 · have h2:=hf.acts
   have h3:=h.pb;show t.pool.floor+t.pool.acts.length+sumC t.pool.counts+16*k< _
   omega
 · have h2:=hd.mid.vf
   have h3:=hd.mid.va;have h4:=h.vb;show t.floor+((t.acts++ [a]).length:Nat)+16*k< _
   rw [List.length_append,h2,h3];simp only [List.length_singleton];omega
theorem Both.keep {s:VaultS}{rs:PoolS}{gs:List PageV}{k:Nat}(h:Both s rs gs (k+1))(ok:PoolOk s.pool){n:Int}(he:incE s.pool n=0)(a:ActV):Both ({ s with pool:=s.pool.did n 1 }.acted a) { rs with counts:=addC rs.counts n 1 } gs k:=by
 have h0:s.pool.count n≠0:=fun e=>by unfold incE at he;rw [if_pos e] at he;cases he
 have ht:=there_of_count h0;have hb:=(count_bd ok n).1;refine⟨h.tw.keep ok he a,?_,?_⟩
 · have h2:=sum_addC (cs:=s.pool.counts) (n:=n) (b:=1) ht (by rw [← count_cnt];exact hb) (by rw [← count_cnt];omega)
   have h3:=h.pb;show s.pool.floor+((s.pool.acts++ [(n,(1:Int))]).length:Nat)+(sumC (s.pool.did n 1).counts:Nat)+16*k< _
   rw [did_counts,List.length_append];simp only [List.length_singleton];omega
 · have h4:=h.vb
   show s.floor+((s.acts++ [a]).length:Nat)+16*k< _
   rw [List.length_append];simp only [List.length_singleton];omega
theorem Both.settle {s:VaultS}{rs:PoolS}{gs:List PageV}{k:Nat}(h:Both s rs gs (k+1))(ok:PoolOk s.pool):Both s.settled { rs with last:=lastsOf rs.counts } (gsK rs gs rs.counts.length) k:=by
 refine⟨h.tw.settle ok,?_,?_⟩
 · have h3:=h.pb
   show s.pool.floor+s.pool.acts.length+((([]:List (Int × Int)).length:Nat):Int)+sumC s.pool.counts+16*k< _
   simp only [List.length_nil];omega
 · have h3:=h.vb
   show s.floor+s.acts.length+((([]:List ActV).length:Nat):Int)+16*k< _
   simp only [List.length_nil];omega
theorem Both.store {s a b:VaultS}{ns ms V:List Int}{c d:Int}{rs rs':PoolS}{gs gs':List PageV}{k:Nat}(h:Both s rs gs (k+1))(ok:PoolOk s.pool)(ha:Taken s a ns)(hb:Taken s b ms)(ca:StoreAt a c V ns)(cb:StoreAt b d V ms)(ht:Twin b rs' gs'):c=d∧Both a rs' gs' k:=by
 obtain⟨e,tw⟩:=twin_stored ha hb ca cb ht;have h8:=(store_len ca).2;have h1:=taken_sum ha (fun c hc=>(ok.cs c hc).1);have h2:=ha.pf;have h3:=ha.pa;have h4:=ha.vf;have h5:=ha.va;have h6:=h.pb;have h7:=h.vb;exact⟨e,tw,by omega,by omega⟩
theorem Both.fit {s:VaultS}{rs:PoolS}{gs:List PageV}{k:Nat}(h:Both s rs gs k):∀n g,s.on n=some g→g.items.length≤65535:=fun n g hg=>by
 have:=(h.tw.fit n g hg).n
 omega
theorem Both.cr {s:VaultS}{rs:PoolS}{gs:List PageV}{k:Nat}(h:Both s rs gs k)(ok:PoolOk s.pool):∀c∈rs.counts,c≤65536:=fun c hc=>by
 rw [h.tw.cs] at hc;exact(ok.cs c hc).2
end Go.Cop
