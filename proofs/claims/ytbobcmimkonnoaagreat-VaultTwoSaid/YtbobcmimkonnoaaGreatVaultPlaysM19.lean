/- The document's copy of a vault, whole; the conditions stand as hypotheses. -/
import Derived.Test.YtbobcmimkonnoaaGreatVaultPlaysM18
import Derived.Test.YtbobcmimkonnoaaGreatVaultPlaysM11
import Derived.Test.YtbobcmimkonnoaaGreatVaultPlaysM01
set_option maxRecDepth 100000
set_option maxHeartbeats 16000000
namespace Go.Proofs.YtbobcmimkonnoaaGreat.N6
open ChangeShapes WideShapes ChangeAt RowKit Sl Cop D2 K3 N3 Q3 G2 M2 U3 Y3 F4 L5 X3 X5 Y5 Z5 E6 F6 G6 K6 J6
theorem wpList_append_slK {P:Program}{F:Pr}{w:World}{ops:Array Oper}{rest:List Oper}{o:Oper}{a:Act}{Q:Exit→Act→World→Prop}(hgd:o.guard=none)(s x:Operand)(t:TypeId)
 (ho:o.op= .call { callee:= .builtin .append,args:= #[s,x],argTypes:= #[t,t] })
 (e:TypeId) (i:TypeInfo) (z:Value) (size bytes:Nat) (ht:P.underlying t=some (.slice e)) (hi:P.info? e=some i) (hz:i.zero=some z)
 (hsize:i.size=size) (hby:i.bytes=bytes) (hzs:z.cells.size=size)
 (v:Value) (n:Nat) (xs:List Value) (hs:a.eval s=v) (hown:Sat ((Row e size v n xs).star F) w)
 (ad:Addr) (m c:Nat) (news:List Value) (hx:a.eval x= .slice (some ad) m c) (hl:news.length=m*size) (hnews:∀j u,news[j]? =some u→w.cell? (ad.add j)=some u) (h1:∀u∈news,u.oneCell'=true)
 (h63:n+m≤maxLen) (hbytes:(n+m)*bytes≤140737488355328)
 (h:∀v' w',Sat ((Row e size v' (n+m) (xs++news)).star F) w'→w.grownBy w' v.ownBlock→∀K:Act→Prop,(∀a',wpList P ops Q rest a' w'→K a')→K (a.put o.dst v')):wpList P ops Q (o :: rest) a w:=
 wpList_append_sl hgd s x t ho e i z size bytes ht hi hz hsize hby hzs v n xs hs hown ad m c news hx hl hnews h1 h63 hbytes fun v' w' h2 h3 _=>h v' w' h2 h3 _ fun _ h=>h
end Go.Proofs.YtbobcmimkonnoaaGreat.N6
namespace Go.Proofs.YtbobcmimkonnoaaGreat.P6
open ChangeShapes WideShapes ChangeAt RowKit Sl Cop K3 Q3 G2 M2 U3 Y3 X3 X5 L6
theorem rkids_any(h:Hp)(v:Value)(g:PageV)(hv:PageIn h v g)(hn:g.items.length≤65536)(F:Pr)(w:World)(hF:Sat ((Pr.own h).star F) w):
 Calls Tryz.prog 68 #[v] w fun e w'=> ∃v',e= .returned v'∧Sat ((IntsRow v' (kidsOf g)).star ((Pr.own h).star F)) w'∧Stays w w':=by
 obtain⟨vi,vd,rfl,hi,hd⟩:=hv
 obtain⟨ai,ci,rfl,_,rd⟩:=items_rd hi
 obtain⟨ad,cd,rfl⟩:=bytes_shape hd
 have h1:=hF.alloc (pageC g.kind g.level (.slice ai g.items.length ci) (.slice ad g.data.length cd) g.next)
 have h2:=h1.alloc (.cells #[] 3)
 rw [show (w.alloc (pageC g.kind g.level (.slice ai g.items.length ci) (.slice ad g.data.length cd) g.next)).heap.size=w.heap.size+1 by simp] at h2
 have h3:Sat ((IntsRow (.slice (some ⟨w.heap.size+1,0,none⟩) 0 0) []).star ((Pr.pts w.heap.size (pageC g.kind g.level (.slice ai g.items.length ci) (.slice ad g.data.length cd) g.next)).star ((Pr.own h).star F))) _:=
  Row.mk' (T:=3) (k:=1) (n:=0) (cap:=0) (xs:= []) (sp:= []) (by simp) (by simp) (Nat.le_refl _) (by simp) (by simpa using h2)
 have H1:=hQ h3
 have RD:=hQ rd
 have HST:=hQ (((Stays.refl w).alloc (pageC g.kind g.level (.slice ai g.items.length ci) (.slice ad g.data.length cd) g.next)).alloc (.cells #[] 3))
 have hl0:(g.items.length:Int)≤65536:=by omega
 obtain⟨i0,hi0,hz0,hz1,hz2⟩:=info_parts infoInt
 clear hF h1 h2 h3 hi hd rd
 go_enter Tryz.func68,Tryz.ntmps68
 go_wp2
 go_loopw [3,4] (fun l i wr=> ∃k:Nat,k≤g.items.length∧i= .int .i64 k∧Stays w wr∧Sat ((IntsRow l (kidsK g k)).star ((Pr.pts w.heap.size (pageC g.kind g.level (.slice ai g.items.length ci) (.slice ad g.data.length cd) g.next)).star ((Pr.own h).star F))) wr) (fun _ i _=>g.items.length-(intOf i).toNat)
 case atStart=>exact⟨0,Nat.zero_le _,rfl,HST.out,H1.out⟩
 case round=>
  obtain⟨k,hk,rfl,hst,hs⟩:=hrel
  clear H1 HST
  obtain⟨al,cl,rfl,_,_⟩:=Row.read hs
  obtain⟨p0,p1,p2,p3,p4,_,pz⟩:=pts5 hs.right
  have hkl:=kidsK_len g k
  rcases Nat.lt_or_ge k g.items.length with hlt | hge
  · obtain⟨b,off,ak,ck,av,cv,rfl,hbk,hbv,hc⟩:=RD.out k hlt
    obtain⟨c0,c1,c2,c3⟩:=hc wr hs.right.right.own
    have z0:=World.block_lt_of_cell? _ _ c0
    have HYES:=hQ (fun h=>kidsK_yes (g:=g) hlt h)
    have HNO:=hQ (fun h=>kidsK_no (g:=g) hlt h)
    have hkd:kidItem g g.items[k]=((g.kind == 2) || ((g.kind == 1) && (g.items[k].child != 0))):=rfl
    have HSTK:=hQ hst
    have HSK:=hQ hs
    rw [hkd] at HYES HNO
    clear hs hst hc hkd hbk hbv
    generalize g.items[k]=y at*
    have A1:=hQ (show Sat ((Row 3 1 (.slice al (kidsK g k).length cl) (kidsK g k).length ((kidsK g k).map (Value.int .i64))).star ((Pr.pts w.heap.size (pageC g.kind g.level (.slice (some ⟨b,off,none⟩) g.items.length ci) (.slice ad g.data.length cd) g.next)).star ((Pr.own h).star F))) (wr.alloc (.cells [.int .i64 y.child].toArray 3)) from(HSK.out.alloc _).right)
    have hnew:=hQ (new_cells wr [.int .i64 y.child] 3 _ rfl)
    by_cases hk2:g.kind=2
    · have hb2:(g.kind == 2)=true:=beq_iff_eq.2 hk2
      rw [hb2] at HYES HNO
      clear HNO hk2
      go_wp2_with (at_builtin;refine wpList_append_sl rfl _ _ _ rfl 3 i0 (.int .i64 0) 1 8 Tryz.underlying40 hi0 hz0 hz1 hz2 rfl _ _ _ rfl A1.out ⟨wr.heap.size,0,none⟩ 1 1 [.int .i64 y.child] rfl rfl hnew.out (by simp [Value.oneCell']) (by simp only [maxLen];omega) (by omega) ?_;intro v7 w4 hs4 hg4 _;obtain⟨a7',c7',e7',_,_⟩:=Row.read hs4;subst e7';have HS4:=hQ hs4;have HG4:=hQ ((HSTK.out.alloc _).of_grown hg4);clear hs4 hg4)
      go_roundw
      case rel=>exact⟨k+1,by omega,congrArg (Value.int .i64) (by omega),HG4.out,by rw [HYES.out rfl];exact ints_snoc HS4.out⟩
      case measure=>simp [intOf];omega
    · have hb2:(g.kind == 2)=false:=beq_eq_false_iff_ne.2 hk2
      rw [hb2] at HYES HNO
      clear hk2
      by_cases hk1:g.kind=1
      · have hb1:(g.kind == 1)=true:=beq_iff_eq.2 hk1
        rw [hb1] at HYES HNO
        clear hk1
        by_cases hch:y.child=0
        · have hb3:(y.child != 0)=false:=by rw [bne_eq_false_iff_eq];exact hch
          rw [hb3] at HNO
          clear HYES hch A1
          go_wp2
          go_roundw
          case rel=>exact⟨k+1,by omega,congrArg (Value.int .i64) (by omega),HSTK.out,by rw [HNO.out rfl];exact HSK.out⟩
          case measure=>simp [intOf];omega
        · have hb3:(y.child != 0)=true:=by rw [bne_iff_ne];exact hch
          rw [hb3] at HYES
          clear HNO hch
          go_wp2_with (at_builtin;refine wpList_append_sl rfl _ _ _ rfl 3 i0 (.int .i64 0) 1 8 Tryz.underlying40 hi0 hz0 hz1 hz2 rfl _ _ _ rfl A1.out ⟨wr.heap.size,0,none⟩ 1 1 [.int .i64 y.child] rfl rfl hnew.out (by simp [Value.oneCell']) (by simp only [maxLen];omega) (by omega) ?_;intro v7 w4 hs4 hg4 _;obtain⟨a7',c7',e7',_,_⟩:=Row.read hs4;subst e7';have HS4:=hQ hs4;have HG4:=hQ ((HSTK.out.alloc _).of_grown hg4);clear hs4 hg4)
          go_roundw
          case rel=>exact⟨k+1,by omega,congrArg (Value.int .i64) (by omega),HG4.out,by rw [HYES.out rfl];exact ints_snoc HS4.out⟩
          case measure=>simp [intOf];omega
      · have hb1:(g.kind == 1)=false:=beq_eq_false_iff_ne.2 hk1
        rw [hb1] at HYES HNO
        clear hk1 HYES A1
        go_wp2
        go_roundw
        case rel=>exact⟨k+1,by omega,congrArg (Value.int .i64) (by omega),HSTK.out,by rw [HNO.out rfl];exact HSK.out⟩
        case measure=>simp [intOf];omega
  · have hkl2:k=g.items.length:=by omega
    subst hkl2
    have hko:kidsOf g=kidsK g g.items.length++(if(g.kind == 3) && (g.next != 0) then [g.next] else []):=rfl
    have HS:=hQ hs
    have HKO:=hQ hko
    clear hs hko
    by_cases hk3:g.kind=3
    · have hb3:(g.kind == 3)=true:=beq_iff_eq.2 hk3
      rw [hb3] at HKO
      by_cases hnx:g.next=0
      · have hb4:(g.next != 0)=false:=by rw [bne_eq_false_iff_eq];exact hnx
        rw [hb4] at HKO
        clear hnx hk3
        go_wp2
        go_ret
        refine⟨_,rfl,?_,hst⟩
        rw [HKO.out,if_neg (by decide),List.append_nil]
        exact(HS.out.perm (Pr.left_comm _ _ _)).right
      · have hb4:(g.next != 0)=true:=by rw [bne_iff_ne];exact hnx
        rw [hb4] at HKO
        have A1:=hQ (show Sat ((Row 3 1 (.slice al (kidsK g g.items.length).length cl) (kidsK g g.items.length).length ((kidsK g g.items.length).map (Value.int .i64))).star ((Pr.pts w.heap.size (pageC g.kind g.level (.slice ai g.items.length ci) (.slice ad g.data.length cd) g.next)).star ((Pr.own h).star F))) (wr.alloc (.cells [.int .i64 g.next].toArray 3)) from(HS.out.alloc _).right)
        have hnew:=hQ (new_cells wr [.int .i64 g.next] 3 _ rfl)
        clear hnx hk3
        go_wp2_with (at_builtin;refine wpList_append_sl rfl _ _ _ rfl 3 i0 (.int .i64 0) 1 8 Tryz.underlying40 hi0 hz0 hz1 hz2 rfl _ _ _ rfl A1.out ⟨wr.heap.size,0,none⟩ 1 1 [.int .i64 g.next] rfl rfl hnew.out (by simp [Value.oneCell']) (by simp only [maxLen];omega) (by omega) ?_;intro v7 w4 hs4 hg4 _;obtain⟨a7',c7',e7',_,_⟩:=Row.read hs4;subst e7';have HS4:=hQ hs4;have HG4:=hQ ((hst.alloc (.cells [.int .i64 g.next].toArray 3)).of_grown hg4);clear hs4 hg4)
        go_ret
        refine⟨_,rfl,?_,HG4.out⟩
        rw [HKO.out,if_pos (by decide)]
        exact((ints_snoc HS4.out).perm (Pr.left_comm _ _ _)).right
    · have hb3:(g.kind == 3)=false:=beq_eq_false_iff_ne.2 hk3
      rw [hb3] at HKO
      clear hk3
      go_wp2
      go_ret
      refine⟨_,rfl,?_,hst⟩
      rw [HKO.out,if_neg (by simp),List.append_nil]
      exact(HS.out.perm (Pr.left_comm _ _ _)).right
end Go.Proofs.YtbobcmimkonnoaaGreat.P6
namespace Go.Proofs.YtbobcmimkonnoaaGreat.Q6
open ChangeShapes WideShapes ChangeAt RowKit Sl Cop D2 K3 N3 Q3 G2 M2 U3 Y3 L5 X3 X5 E6 F6 G6 K6 J6 M6 P6
end Go.Proofs.YtbobcmimkonnoaaGreat.Q6
namespace Go.Proofs.YtbobcmimkonnoaaGreat.S6
open ChangeShapes WideShapes ChangeAt RowKit Sl Cop D2 K3 N3 Q3 G2 M2 U3 Y3 Z3 F4 K4 X3 X5 Z5 F6
structure Looks(s:VaultS)(look:Int→Option PageV):Prop where
 none:∀n,look n=none→s.pool.count n=0
 some:∀n g,look n=some g→(1≤n∧n≤65536)∧s.pool.count n≠0∧s.on n=some g∧Fit g
def lenV:Value→Nat
 | .slice _ n _=>n
 | _=>0
end Go.Proofs.YtbobcmimkonnoaaGreat.S6
namespace Go.Proofs.YtbobcmimkonnoaaGreat.U6
open ChangeShapes WideShapes ChangeAt RowKit Sl Cop D2 K3 N3 Q3 G2 M2 U3 Y3 Z4 L5 X3 X5 E6 F6 G6 K6 J6 M6 P6 Q6 S6 L6
def countsW(r n:Nat)(w:World):List Int:=(List.range n).map fun j=>match w.cell? ⟨r,1,none⟩ with
 | some (.slice (some a) _ _)=>(match w.cell? ⟨a.block,j,none⟩ with | some (.int _ c)=>c | _=>0)
 | _=>0
theorem counts_w {r:Nat}{s:PoolS}{gs:List PageV}{hush:RTail}{x:RX}{F:Pr}{w:World}(ok:ROk s gs x)(h:Sat ((RefAt r s gs hush x).star F) w):countsW r s.counts.length w=s.counts:=by
 obtain⟨ac,cc,al,cl,ap,cp,⟨q1,_⟩,_,_,rd⟩:=ref_rd ok h
 apply List.ext_getElem
 · simp [countsW]
 · intro i h1 h2
   obtain⟨⟨b,rfl,c0⟩,_⟩:=rd i h2
   simp only [countsW,List.getElem_map,List.getElem_range,q1,c0]
   simp [h2]
theorem pts_row_ne {r b T k c n:Nat}{o:Obj}{xs:List Value}{F:Pr}{w:World}(h:Sat ((Row T k (.slice (some ⟨b,0,none⟩) n c) n xs).star ((Pr.pts r o).star F)) w):r≠b:=by
 obtain⟨_,(⟨e,_,_⟩ | ⟨b',_,_,e,_,_,_,h4⟩)⟩:=Row.open' h
 · cases e
 · cases e
   exact(h4.pts_ne).symm
theorem row_row_ne {b b2 T T2 k k2 c c2 n n2:Nat}{xs ys:List Value}{F:Pr}{w:World}(h:Sat ((Row T k (.slice (some ⟨b,0,none⟩) n c) n xs).star ((Row T2 k2 (.slice (some ⟨b2,0,none⟩) n2 c2) n2 ys).star F)) w):b≠b2:=by
 obtain⟨_,(⟨e,_,_⟩ | ⟨b',_,_,e,_,_,_,h4⟩)⟩:=Row.open' h
 · cases e
 · cases e
   exact pts_row_ne (h4.perm (Pr.left_comm _ _ _))
theorem sumC_le {cs:List Int}(h:∀c∈cs,c≤65536):sumC cs≤cs.length*65536:=by
 unfold sumC
 induction cs with
 | nil=>simp
 | cons c cs ih=>
   have h1:=ih (fun x hx=>h x (by simp [hx]))
   have h2:=h c (by simp)
   simp only [List.map_cons,List.sum_cons,List.length_cons]
   omega
theorem addC_bd {cs:List Int}{n:Int}(h0:∀c∈cs,0≤c∧c≤65536)(hb:0<cntL cs n):∀c∈addC cs n (-1),0≤c∧c≤65536:=by
 intro c hc
 unfold addC at hc
 rcases List.mem_or_eq_of_mem_set hc with h | h
 · exact h0 c h
 · have h1:cntL cs n≤65536:=by
    unfold cntL
    split
    · rename_i hn
      rw [List.getD_eq_getElem?_getD,List.getElem?_eq_getElem (by omega)]
      exact(h0 _ (List.getElem_mem (by omega))).2
    · omega
   omega
end Go.Proofs.YtbobcmimkonnoaaGreat.U6
