/- The document's inc, did (hushed), not; the conditions stand as hypotheses. -/
import Derived.Test.YtbobcmimkonnoaaGreatVaultLoadsM28
import Derived.Test.YtbobcmimkonnoaaGreatVaultLoadsM22
import Derived.BigQuiet
import Derived.Test.YtbobcmimkonnoaaGreatVaultLoadsM07
import Derived.Test.YtbobcmimkonnoaaGreatVaultLoadsM21
import Derived.Test.YtbobcmimkonnoaaGreatVaultLoadsM04
import Derived.Test.YtbobcmimkonnoaaGreatVaultLoadsM17
import Derived.Test.YtbobcmimkonnoaaGreatVaultLoadsM01
set_option maxRecDepth 100000
set_option maxHeartbeats 16000000
namespace Go.Proofs.YtbobcmimkonnoaaGreat.Z7
open ChangeShapes WideShapes ChangeAt RowKit Sl Cop D2 M3 Q3 D4 M2 N2 E4 G4 E6 J4 L6 M7 Q7 U7 X7 W7
def incL(refs:Int)(cs:List Int)(n:Int):Int:=if cntL cs n=0 then 15 else if refs≤cntL cs n then 13 else 0
def RPool.counts(s:PoolS)(cs:List Int):PoolS:= { s with counts:=cs }
theorem rcount_cnt(s:PoolS)(n:Int):s.count n=cntL s.counts n:=by
 unfold PoolS.count cntL PoolS.there;rfl
theorem rok_counts {s:PoolS}{gs:List PageV}{x:RX}(ok:ROk s gs x){cs:List Int}(hl:cs.length=s.counts.length)(h0:∀c∈cs,0≤c):ROk { s with counts:=cs } gs x:=
 ⟨ok.pgs,by show s.last.length=cs.length;rw [hl];exact ok.ll,by show gs.length=cs.length;rw [hl];exact ok.gl,by show cs.length≤65536;rw [hl];exact ok.n2,h0,ok.fit⟩
theorem addC_nn {cs:List Int}{n b:Int}(h0:∀c∈cs,0≤c)(hb:0≤cntL cs n+b):∀c∈addC cs n b,0≤c:=by
 intro c hc;unfold addC at hc;rcases List.mem_or_eq_of_mem_set hc with h | h
 · exact h0 c h
 · rw [h];exact hb
theorem cnt_idx {cs:List Int}{j:Nat}(hj:j<cs.length):cntL cs ((j:Int)+1)=cs.getD j 0:=by
 unfold cntL;rw [if_pos (by omega),show ((j:Int)+1).toNat-1=j by omega]
theorem addC_idx {cs:List Int}{j:Nat}(hj:j<cs.length)(b:Int):addC cs ((j:Int)+1) b=cs.set j (cs.getD j 0+b):=by
 unfold addC;rw [cnt_idx hj,show ((j:Int)+1).toNat-1=j by omega]
end Go.Proofs.YtbobcmimkonnoaaGreat.Z7
namespace Go.Proofs.YtbobcmimkonnoaaGreat.B8
open ChangeShapes WideShapes ChangeAt RowKit Sl Cop D2 M3 Q3 D4 M2 N2 E4 G4 X4 E6 J4 L6 P6 G7 M7 Q7 U7 X7 W7
theorem wpList_append_slK {P:Program}{F:Pr}{w:World}{ops:Array Oper}{rest:List Oper}{o:Oper}{a:Act}{Q:Exit→Act→World→Prop}(hgd:o.guard=none)(s x:Operand)(t:TypeId)
 (ho:o.op= .call { callee:= .builtin .append,args:= #[s,x],argTypes:= #[t,t] })
 (e:TypeId) (i:TypeInfo) (z:Value) (size bytes:Nat) (ht:P.underlying t=some (.slice e)) (hi:P.info? e=some i) (hz:i.zero=some z)
 (hsize:i.size=size) (hby:i.bytes=bytes) (hzs:z.cells.size=size)
 (v:Value) (n:Nat) (xs:List Value) (hs:a.eval s=v) (hown:Sat ((Row e size v n xs).star F) w)
 (ad:Addr) (m c:Nat) (news:List Value) (hx:a.eval x= .slice (some ad) m c) (hl:news.length=m*size) (hnews:∀j u,news[j]? =some u→w.cell? (ad.add j)=some u) (h1:∀u∈news,u.oneCell'=true)
 (h63:n+m≤maxLen) (hbytes:(n+m)*bytes≤140737488355328)
 (h:∀v' w',Sat ((Row e size v' (n+m) (xs++news)).star F) w'→w.grownBy w' v.ownBlock→∀K:Act→Prop,(∀a',wpList P ops Q rest a' w'→K a')→K (a.put o.dst v')):wpList P ops Q (o :: rest) a w:=
 wpList_append_sl hgd s x t ho e i z size bytes ht hi hz hsize hby hzs v n xs hs hown ad m c news hx hl hnews h1 h63 hbytes fun v' w' h2 h3 _=>h v' w' h2 h3 _ fun _ h=>h
end Go.Proofs.YtbobcmimkonnoaaGreat.B8
namespace Go.Proofs.YtbobcmimkonnoaaGreat.F8
open ChangeShapes WideShapes ChangeAt RowKit Sl Cop D2 M3 Q3 D4 M2 N2 E4 G4 E6 J4 L6 M7 Q7 U7 X7 W7 Z7 U6
end Go.Proofs.YtbobcmimkonnoaaGreat.F8
namespace Go.Proofs.YtbobcmimkonnoaaGreat.G8
open ChangeShapes WideShapes ChangeAt RowKit Sl Cop M3 D4 M2 N2 Y2 E4 G4 J4 L6 P6 B8 Q2
def isSl(v:Value):Prop:= ∃a m c,v= .slice a m c
def bothOf(y:Value × Value):List Value:= [y.1,y.2]
theorem row_one {T:Nat}{v:Value}{F:Pr}{w:World}{J:Nat}(h:Sat ((Pr.pts J (.cells #[v] T)).star F) w):Sat ((Row T 1 (.slice (some ⟨J,0,none⟩) 1 1) 1 [v]).star F) w:=
 Row.mk' (sp:= []) (by simp) (by simp) (Nat.le_refl _) (by simp [maxLen]) h
theorem lists_any(ai:Option Addr)(ci:Nat)(ys:List (Value × Value))(its:List ItemV)(hyl:ys.length=its.length)(hn:its.length≤8)(hsl:∀y∈ys,isSl y.1∧isSl y.2)(ad:Option Addr)(md cd:Nat)(k0 l0 nx:Int)(F:Pr)(w:World)
 (hF:Sat ((ItRow (.slice ai its.length ci) ys its).star F) w):
 Calls Tryz.prog 121 #[pageV k0 l0 (.slice ai its.length ci) (.slice ad md cd) nx] w fun e w'=> ∃v,e= .returned v∧Stays w w'∧Sat ((Row 29 1 v (1+2*its.length) (.slice ad md cd :: ys.flatMap bothOf)).star ((ItRow (.slice ai its.length ci) ys its).star F)) w':=by
 have hs1:=(OwnL.in1 hF).alloc (pageC k0 l0 (.slice ai its.length ci) (.slice ad md cd) nx);have hs2:=hs1.alloc (.cells #[.slice ad md cd] 29);rw [show (w.alloc (pageC k0 l0 (.slice ai its.length ci) (.slice ad md cd) nx)).heap.size=w.heap.size+1 by simp] at hs2;have hs3:=OwnL.of1 (row_one hs2.sat)
 have HST:=hQ (((Stays.refl w).alloc (pageC k0 l0 (.slice ai its.length ci) (.slice ad md cd) nx)).alloc (.cells #[.slice ad md cd] 29));have HS3:=hQ hs3;have HSL:=hQ hsl;have HYL:=hQ hyl;have c1:=hs1.facts;simp only [CellsAt,Nat.reduceAdd,and_true] at c1;have hn0:(its.length:Int)≤8:=by omega
 clear hF hs1 hs2 hs3 hsl hyl;go_enter Tryz.func121,Tryz.ntmps121
 go_wp2_with fail
 clear c1;have T1:=HST.out;have T2:=HS3.out;clear HST HS3;generalize (w.alloc (pageC k0 l0 (.slice ai its.length ci) (.slice ad md cd) nx)).alloc (.cells #[.slice ad md cd] 29)=w0 at*;generalize w.heap.size+1=I1 at*;generalize w.heap.size=I0 at*
 go_loopw [3,4] (fun o i wr=> ∃(k m:Nat) (xs:List Value),k≤its.length∧i= .int .i64 k∧Hid (m=1+2*k)∧m≤17∧Hid (xs= .slice ad md cd :: (ys.take k).flatMap bothOf)∧Stays w wr∧
  OwnL [Row 29 1 o m xs,Pr.pts I0 (pageC k0 l0 (.slice ai its.length ci) (.slice ad md cd) nx),ItRow (.slice ai its.length ci) ys its,F] wr) (fun _ i _=>its.length-(intOf i).toNat)
 case atStart=>exact⟨0,1,_,Nat.zero_le _,rfl,hQ rfl,by omega,hQ rfl,T1,T2⟩
 case round=>
  clear T1 T2;obtain⟨k,m,xs,hk,rfl,hm,hm2,hxs,hst,hs⟩:=hrel;obtain⟨al2,cl2,rfl⟩:=Row.shape hs.sat;have c6:=hs.facts;simp only [CellsAt,Nat.reduceAdd,and_true] at c6;rcases Nat.lt_or_ge k its.length with hlt | hge
  · have hky:k<ys.length:=by have:=HYL.out;omega
    have hr0:=hs.pull1 (A1:=ItRow (.slice ai its.length ci) ys its)
    have ha1:∃b,ai=some ⟨b,0,none⟩:=by
     obtain⟨_,_,e,_,hc⟩:=Row.read hr0;cases e;obtain⟨b,e,_⟩:=hc (by omega);exact⟨b,e⟩
    obtain⟨b,rfl⟩:=ha1;obtain⟨⟨r0,r1,r2,r3⟩,_⟩:=itRow_rd hr0 hky hlt;obtain⟨⟨q1,qa,q2,e1⟩,⟨q3,qb,q4,e2⟩⟩:=HSL.out ys[k] (List.getElem_mem hky);rw [e1] at r0;rw [e2] at r1;have zb:=World.block_lt_of_cell? _ _ r0
    have HRD:=hQ (show ∀wx,∀Fx:Pr,Sat ((ItRow (.slice (some ⟨b,0,none⟩) its.length ci) ys its).star Fx) wx→wx.cell? ⟨b,k*4,none⟩=some (.slice q1 qa q2)∧wx.cell? ⟨b,k*4+1,none⟩=some (.slice q3 qb q4) from fun wx Fx hx=>by
     obtain⟨⟨g0,g1,_,_⟩,_⟩:=itRow_rd hx hky hlt
     rw [e1] at g0
     rw [e2] at g1
     exact⟨g0,g1⟩)
    have HTK:=hQ (show Value.slice ad md cd :: (ys.take (k+1)).flatMap bothOf=(Value.slice ad md cd :: (ys.take k).flatMap bothOf)++ [.slice q1 qa q2,.slice q3 qb q4] by
     rw [List.take_succ_eq_append_getElem hky,List.flatMap_append]
     simp only [List.flatMap_cons,List.flatMap_nil,bothOf,e1,e2,List.append_nil,List.cons_append])
    obtain⟨j0,hj,hy0,hy1,hy2⟩:=info_parts infoRows;have A1:=hQ ((hs.alloc (.cells #[.slice q1 qa q2,.slice q3 qb q4] 29)).drop.drew.pull1 (A1:=Row 29 1 (.slice al2 m cl2) m xs))
    have hnew:=hQ (show ∀j u,[Value.slice q1 qa q2,.slice q3 qb q4][j]? =some u→(wr.alloc (.cells #[.slice q1 qa q2,.slice q3 qb q4] 29)).drew.cell? ((⟨wr.heap.size,0,none⟩:Addr).add j)=some u from fresh_cells wr [.slice q1 qa q2,.slice q3 qb q4] 29);have HSTA:=hQ (hst.alloc (.cells #[.slice q1 qa q2,.slice q3 qb q4] 29)).drew;clear hs hr0 hst e1 e2;go_wp2_with fail
    refine wp_region_staged_last (sz:=31) (by kernel_rfl) [0,1,2,3,4,5,6,7,8,9,10,11,12] [(13,[],[0,1,2,3,4,5,7,8,9,10,11]),(14,[],[1,2,3,4,5,7,8,9,10,11])] rfl rfl rfl (by kernel_rfl) (by kernel_rfl) (by kernel_rfl) (by kernel_rfl) ?_;simp only [List.dropLast];refine wpQ_all _ rfl rfl ?_;simp only [pick,pQ];iterate 13 (go_big_quiet_step (fail))
    refine wpQuiet_nil ?_;refine wpRest_act rfl ?_;go_wp2;refine onN_mk ?_;refine wpQ_nil ⟨?_,?_⟩
    · exact cQ
    refine wpRest_act rfl ?_;refine wpList_append_slK rfl _ _ _ rfl 29 j0 (.slice none 0 0) 1 24 Tryz.underlying63 hj hy0 hy1 hy2 rfl _ _ _ rfl A1.out ⟨wr.heap.size,0,none⟩ 2 2 [.slice q1 qa q2,.slice q3 qb q4] rfl rfl hnew.out (by simp [Value.oneCell']) (by simp only [maxLen];omega) (by omega) (fun v7 w7 hs7 hg7 K0 hK0=> ?_);obtain⟨a7,c7,rfl⟩:=Row.shape hs7;go_simp;refine hK0 _ ?_;clear hK0 K0
    have hs8:=OwnL.of1 hs7;have HS8:=hQ hs8;have HST8:=hQ (HSTA.out.of_grown hg7);clear r0 r1 r2 r3 zb;obtain⟨r0,r1⟩:=HRD.out _ _ (hs8.pull1 (A1:=ItRow (.slice (some ⟨b,0,none⟩) its.length ci) ys its));have zb:=World.block_lt_of_cell? _ _ r0;clear c6;have c6:=hs8.facts;simp only [CellsAt,Nat.reduceAdd,and_true] at c6;clear hs7 hs8 hg7 A1 hnew HSTA HRD;refine wpList_nil ?_;refine onN_mk ?_
    refine wpQ_nil ⟨?_,?_⟩
    · exact cQ
    refine wpRest_nil ?_;unfold lastPost;clear c6 r0 r1 zb;go_wp2;go_roundw
    case rel=>exact⟨k+1,m+2,_,by omega,congrArg (Value.int .i64) (by omega),hQ (by have:=hm.out;omega),by have:=hm.out;omega,hQ (by rw [HTK.out, ← hxs.out]),HST8.out,HS8.out.to⟩
    case measure=>simp [intOf];omega
  · have hkl:k=its.length:=by omega
    subst hkl;have HS:=hQ hs;have HSTR:=hQ hst;clear hs hst;go_wp2;go_ret;have hx:=hxs.out;have hmm:=hm.out;rw [List.take_of_length_le (by have:=HYL.out;omega)] at hx;subst hx;rw [show 1+2*its.length=m by omega];exact⟨.slice al2 m cl2,rfl,HSTR.out,(HS.out.lose (Pr.pts I0 (pageC k0 l0 (.slice ai its.length ci) (.slice ad md cd) nx))).end3⟩
end Go.Proofs.YtbobcmimkonnoaaGreat.G8
namespace Go.Proofs.YtbobcmimkonnoaaGreat.J8
open ChangeShapes WideShapes ChangeAt RowKit Sl Cop D2 M3 Q3 D4 M2 N2 E4 G4 J5 E6 J4 L6 M7 Q7 U7 X7 W7 Z7 U6 F8 V7 Q6
def countsW(r n:Nat)(w:World):List Int:=(List.range n).map fun j=>match w.cell? ⟨r,1,none⟩ with
 | some (.slice (some a) _ _)=>(match w.cell? ⟨a.block,j,none⟩ with | some (.int _ c)=>c | _=>0)
 | _=>0
theorem counts_w {r:Nat}{s:PoolS}{gs:List PageV}{hush:RTail}{x:RX}{F:Pr}{w:World}(ok:ROk s gs x)(h:Sat ((RefAt r s gs hush x).star F) w):countsW r s.counts.length w=s.counts:=by
 obtain⟨ac,cc,al,cl,ap,cp,⟨q1,_⟩,_,_,rd⟩:=ref_rd ok h;apply List.ext_getElem
 · simp [countsW]
 · intro i h1 h2
   obtain⟨⟨b,rfl,c0⟩,_⟩:=rd i h2;simp only [countsW,List.getElem_map,List.getElem_range,q1,c0];simp [h2]
theorem pts_row_ne {r b T k c n:Nat}{o:Obj}{xs:List Value}{F:Pr}{w:World}(h:Sat ((Row T k (.slice (some ⟨b,0,none⟩) n c) n xs).star ((Pr.pts r o).star F)) w):r≠b:=by
 obtain⟨_,(⟨e,_,_⟩ | ⟨b',_,_,e,_,_,_,h4⟩)⟩:=Row.open' h
 · cases e
 · cases e
   exact(h4.pts_ne).symm
theorem row_row_ne {b b2 T T2 k k2 c c2 n n2:Nat}{xs ys:List Value}{F:Pr}{w:World}(h:Sat ((Row T k (.slice (some ⟨b,0,none⟩) n c) n xs).star ((Row T2 k2 (.slice (some ⟨b2,0,none⟩) n2 c2) n2 ys).star F)) w):b≠b2:=by
 obtain⟨_,(⟨e,_,_⟩ | ⟨b',_,_,e,_,_,_,h4⟩)⟩:=Row.open' h
 · cases e
 · cases e
   exact pts_row_ne (h4.perm (Pr.left_comm _ _ _))
theorem sumC_le {cs:List Int}(h:∀c∈cs,c≤65536):sumC cs≤cs.length*65536:=by
 unfold sumC;induction cs with
 | nil=>simp
 | cons c cs ih=>
   have h1:=ih (fun x hx=>h x (by simp [hx]));have h2:=h c (by simp);simp only [List.map_cons,List.sum_cons,List.length_cons];omega
theorem addC_bd {cs:List Int}{n:Int}(h0:∀c∈cs,0≤c∧c≤65536)(hb:0<cntL cs n):∀c∈addC cs n (-1),0≤c∧c≤65536:=by
 intro c hc;unfold addC at hc;rcases List.mem_or_eq_of_mem_set hc with h | h
 · exact h0 c h
 · have h1:cntL cs n≤65536:=by
    unfold cntL;split
    · rename_i hn
      rw [List.getD_eq_getElem?_getD,List.getElem?_eq_getElem (by omega)];exact(h0 _ (List.getElem_mem (by omega))).2
    · omega
   omega
end Go.Proofs.YtbobcmimkonnoaaGreat.J8
