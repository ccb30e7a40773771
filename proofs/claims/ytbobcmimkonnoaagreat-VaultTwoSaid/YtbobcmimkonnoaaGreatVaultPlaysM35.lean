/- The document's Apart at lists that lie apart; the conditions stand as hypotheses. -/
import Derived.Test.YtbobcmimkonnoaaGreatVaultPlaysM34
import Derived.Test.YtbobcmimkonnoaaGreatVaultPlaysM21
import Derived.Test.YtbobcmimkonnoaaGreatVaultPlaysM03
import Derived.Test.YtbobcmimkonnoaaGreatVaultPlaysM15
import Derived.Test.YtbobcmimkonnoaaGreatVaultPlaysM16
import Derived.Test.YtbobcmimkonnoaaGreatVaultPlaysM19
import Derived.Test.YtbobcmimkonnoaaGreatVaultPlaysM02
import Derived.OrdersIn
import Derived.TacticsIn
import Derived.Test.YtbobcmimkonnoaaGreatVaultPlaysM01
set_option maxRecDepth 100000
set_option maxHeartbeats 16000000
namespace Go.Cop
def patB(i k:Nat):Int:=((i:Int)*31+(k:Int)*7+1) % 256
def patL(i n:Nat):List Int:=(List.range n).map (patB i)
theorem patL_len(i n:Nat):(patL i n).length=n:=by simp [patL]
theorem patL_at {i n k:Nat}(h:k<n):(patL i n)[k]? =some (patB i k):=by simp [patL,h]
theorem patL_snoc(i n:Nat):patL i n++ [patB i n]=patL i (n+1):=by simp [patL,List.range_succ]
end Go.Cop
namespace Go.Proofs.YtbobcmimkonnoaaGreat.Ay
open ChangeShapes WideShapes ChangeAt RowKit Sl Cop G2
theorem infoRows:(Tryz.prog.info? 29).map (fun i=>(i.zero,i.size,i.bytes))=some (some (.slice none 0 0),1,24):=by kernel_rfl
def rowOf(x:Value × List Int):Pr:=BytesRow x.1 x.2
abbrev patV(i n:Nat):List Value:=(patL i n).map (Value.int .u8)
theorem patV_snoc(i n:Nat):patV i n++ [Value.int .u8 (patB i n)]=patV i (n+1):=by simp only [patV, ← patL_snoc,List.map_append,List.map_cons,List.map_nil]
def grewOf(x:Nat × Value × Nat × Value):Pr:=Grew 5 x.2.1 x.2.2.1 x.2.2.2 (x.2.2.1+20) (patV x.1 (x.2.2.1+20))
theorem apart_any(lv:Value)(M:List (Value × List Int))(hm:M.length≤1000)(hn:∀x∈M,x.2.length≤65536)(F:Pr)(w:World)(hF:Sat ((Row 29 1 lv M.length (M.map (·.1))).star ((big rowOf M).star F)) w):
 Calls Tryz.prog 23 #[lv] w fun e w'=>e= .returned (.bool true)∧Stays w w'∧Sat F w':=by
 obtain⟨la,lc,rfl⟩:=Row.shape hF
 have hs0:=hQ (OwnL.in2 hF)
 have HN:=hQ hn
 have hmi:(M.length:Int)≤1000:=by omega
 clear hF hn
 go_enter Tryz.func23,Tryz.ntmps23
 go_wp2
 go_loopw [3] (fun i wr=> ∃(j:Nat) (M1:List (Value × List Int)),j≤M.length∧i= .int .i64 j∧Stays w wr∧OwnL [Row 29 1 (.slice la M.length lc) M.length (M.map (·.1)),big rowOf M1,F] wr∧Hid (M1.length=M.length)∧
  Hid (∀t (h:t<M.length),M1[t]? =some (M[t].1,if t<j then patL t M[t].2.length else M[t].2))) (fun i _=>M.length-(intOf i).toNat)
 case atStart=>exact⟨0,M,Nat.zero_le _,rfl,Stays.refl w,hs0.out,hQ rfl,hQ fun t h=>by rw [if_neg (by omega),List.getElem?_eq_getElem h]⟩
 case round=>
  obtain⟨j,M1,hj,rfl,hst,hs,hl1,hv1⟩:=hrel
  clear hs0
  rcases Nat.lt_or_ge j M.length with hlt | hge
  · have hj1:j<M1.length:=by rw [hl1.out];exact hlt
    have hs2:=hs.take rowOf M1 j hj1
    have ev:M1[j]=(M[j].1,M[j].2):=by
     have:=hv1.out j hlt
     rw [List.getElem?_eq_getElem hj1,if_neg (by omega)] at this
     exact Option.some.inj this
    rw [ev] at hs2
    obtain⟨a,c,ea⟩:=Row.shape hs2.sat
    dsimp only at ea
    obtain⟨lb,u,rfl,hu,lcell,_,lz⟩:=Row.at1 (hs2.row (.slice la M.length lc)) j hlt
    rw [List.getElem?_map,List.getElem?_eq_getElem hlt] at hu
    simp only [Option.map_some,Option.some.injEq] at hu
    rw [← hu,ea] at lcell
    have hnj:=HN.out M[j] (List.getElem_mem hlt)
    have HS2:=hQ hs2
    have EA:=hQ ea
    have HST:=hQ hst
    obtain⟨nj,hnj2⟩:∃nj,nj=M[j].2.length:=⟨_,rfl⟩
    rw [← hnj2] at lcell hnj
    have HNJ:=hQ hnj2
    clear hs hs2 ev ea hu hst hnj2
    go_wp2
    go_loopw [4] (fun i wx=> ∃(k:Nat) (Z:List Int),k≤nj∧i= .int .i64 k∧Stays w wx∧Hid (Z.length=nj)∧Hid (∀t,t<k→Z[t]? =(patL j nj)[t]?)∧
     OwnL [rowOf (.slice a nj c,Z),Row 29 1 (.slice (some ⟨lb,0,none⟩) M.length lc) M.length (M.map (·.1)),big rowOf (M1.eraseIdx j),F] wx) (fun i _=>nj-(intOf i).toNat)
    case atStart=>
     refine⟨0,M[j].2,Nat.zero_le _,rfl,HST.out,hQ HNJ.out.symm,hQ fun t h=>absurd h (by omega),?_⟩
     have h1:=HS2.out
     rw [EA.out, ← HNJ.out] at h1
     exact h1.to
    case round=>
     obtain⟨k,Z,hk,rfl,hst,hzl,hzv,hs⟩:=hrel
     obtain⟨_,_,e1,hu,lcell2,_,lz2⟩:=Row.at1 (hs.row (.slice (some ⟨lb,0,none⟩) M.length lc)) j hlt
     cases e1
     rw [List.getElem?_map,List.getElem?_eq_getElem hlt] at hu
     simp only [Option.map_some,Option.some.injEq] at hu
     rw [← hu,EA.out, ← HNJ.out] at lcell2
     clear hu lcell lz
     have HST2:=hQ hst
     have HS3:=hQ hs
     clear hst hs
     rcases Nat.lt_or_ge k nj with hlk | hgk
     · have hz:=HS3.out.sat
       have hz1:Sat ((Row 5 1 (.slice a nj c) nj (Z.map (Value.int .u8))).star (starL [Row 29 1 (.slice (some ⟨lb,0,none⟩) M.length lc) M.length (M.map (·.1)),big rowOf (M1.eraseIdx j),F])) wr:=by
        have:rowOf (.slice a nj c,Z)=Row 5 1 (.slice a nj c) nj (Z.map (Value.int .u8)):=by unfold rowOf BytesRow;dsimp only;rw [hzl.out]
        rw [← this]
        exact hz
       obtain⟨b,x,rfl,_,c1,f1,z1⟩:=Row.at1 hz1 k hlk
       have N1:=hQ (Row.put1 hz1 k (by rw [List.length_map,hzl.out];exact hlk) (.int .u8 (patB j k)))
       clear hz hz1
       have hp:patB j k=((j:Int)*31+(k:Int)*7+1) % 256:=rfl
       have HP:=hQ hp
       clear hp
       go_wp2
       refine⟨⟨k+1,Z.set k (patB j k),by omega,congrArg (Value.int .i64) (by omega),HST2.out.setCell _ _,hQ (by rw [List.length_set];exact hzl.out),hQ ?_,?_⟩,by simp [intOf];omega⟩
       · have h7:(patL j nj)[k]'(by rw [patL_len];exact hlk)=patB j k:=by
          have:=patL_at (i:=j) hlk
          rw [List.getElem?_eq_getElem (by rw [patL_len];exact hlk)] at this
          exact Option.some.inj this
         have h8:=full_step (us:=Z) (cs:=patL j nj) (k:=k) (by rw [hzl.out,patL_len]) (by rw [patL_len];exact hlk) hzv.out
         rw [h7] at h8
         exact h8
       · have h9:=N1.out
         rw [← List.map_set] at h9
         have h10:rowOf (.slice (some ⟨b,0,none⟩) nj c,Z.set k (patB j k))=Row 5 1 (.slice (some ⟨b,0,none⟩) nj c) nj ((Z.set k (patB j k)).map (Value.int .u8)):=by unfold rowOf BytesRow;dsimp only;rw [List.length_set,hzl.out]
         rw [← h10] at h9
         exact⟨h9⟩
     · have hkk:k=nj:=by omega
       subst hkk
       have e2:Z=patL j k:=full_of (by rw [hzl.out,patL_len]) (by intro i hi;rw [patL_len] at hi;exact hzv.out i hi)
       subst e2
       go_wp2
       go_roundw
       case rel=>
        refine⟨j+1,M1.set j (.slice a k c,patL j k),by omega,congrArg (Value.int .i64) (by omega),HST2.out,?_,hQ (by rw [List.length_set];exact hl1.out),hQ fun t ht=> ?_⟩
        · have h5:=HS3.out.give rowOf M1 j hj1 (.slice a k c,patL j k)
          exact h5.to
        · by_cases he:t=j
          · subst he
            rw [List.getElem?_set_self hj1,if_pos (by omega),EA.out, ← HNJ.out]
          · rw [List.getElem?_set_ne (fun e=>he e.symm),hv1.out t ht]
            congr 2
            by_cases h6:t<j
            · rw [if_pos h6,if_pos (by omega)]
            · rw [if_neg h6,if_neg (by omega)]
       case measure=>simp [intOf];omega
  · have hjj:j=M.length:=by omega
    subst hjj
    have hv2:∀t (h:t<M.length),M1[t]? =some (M[t].1,patL t M[t].2.length):=fun t h=>by rw [hv1.out t h,if_pos h]
    have HV:=hQ hv2
    have HL:=hQ hl1.out
    clear hv1 hv2 hl1
    go_wp2
    go_loopw [5,6] (fun gv i wr=> ∃(j:Nat) (gs:List Value) (D:List (Nat × Value × Nat × Value)),j≤M.length∧i= .int .i64 j∧Stays w wr∧Hid (gs.length=j)∧Hid (D.length=j)∧
     Hid (∀t (h:t<M.length) (h2:t<gs.length),t<j→D[t]? =some (t,M[t].1,M[t].2.length,gs[t]))∧
     OwnL [Row 29 1 gv j gs,Row 29 1 (.slice la M.length lc) M.length (M.map (·.1)),big grewOf D,big rowOf (M1.drop j),F] wr) (fun _ i _=>M.length-(intOf i).toNat)
    case atStart=>
     refine⟨0,[],[],Nat.zero_le _,rfl,hst,hQ rfl,hQ rfl,hQ fun t h h2 h3=>absurd h3 (by omega),?_⟩
     have h1:=(hs.nothing grewOf).emp
     rw [← Row.nil 29 1, ← List.drop_zero (l:=M1)] at h1
     exact h1.to
    case round=>
     clear hst hs
     obtain⟨j,gs,D,hj,rfl,hst,hgl,hdl,hdv,hs⟩:=hrel
     obtain⟨ga,gc,eg⟩:=Row.shape hs.sat
     subst eg
     rcases Nat.lt_or_ge j M.length with hlt | hge
     · have hj1:j<M1.length:=by rw [HL.out];exact hlt
       rw [List.drop_eq_getElem_cons hj1] at hs
       have hs2:=hs.uncons rowOf M1[j] (M1.drop (j+1))
       have ev:M1[j]=(M[j].1,patL j M[j].2.length):=by
        have:=HV.out j hlt
        rw [List.getElem?_eq_getElem hj1] at this
        exact Option.some.inj this
       rw [ev] at hs2
       obtain⟨a,c,ea⟩:=Row.shape hs2.sat
       dsimp only at ea
       rw [patL_len] at ea
       obtain⟨lb,u,rfl,hu,lcell,_,lz⟩:=Row.at1 (hs2.row (.slice la M.length lc)) j hlt
       rw [List.getElem?_map,List.getElem?_eq_getElem hlt] at hu
       simp only [Option.map_some,Option.some.injEq] at hu
       rw [← hu,ea] at lcell
       have hnj:=HN.out M[j] (List.getElem_mem hlt)
       have e3:rowOf (.slice a M[j].2.length c,patL j M[j].2.length)=Row 5 1 (.slice a M[j].2.length c) M[j].2.length (patV j M[j].2.length):=by unfold rowOf BytesRow;dsimp only;rw [patL_len]
       rw [ea,e3] at hs2
       have hg:=OwnL.of1 (Grew.start hs2.sat)
       have HG:=hQ hg
       have EA:=hQ ea
       have HST:=hQ hst
       obtain⟨nj,hnj2⟩:∃nj,nj=M[j].2.length:=⟨_,rfl⟩
       rw [← hnj2] at lcell hnj HG EA
       have HNJ:=hQ hnj2
       clear hs hs2 ev ea hu hst hnj2 hg
       go_wp2
       go_loopw [7,8] (fun g i wx=> ∃(k m:Nat),k≤20∧m=nj+k∧i= .int .i64 k∧Stays w wx∧OwnL [Grew 5 (.slice a nj c) nj g m (patV j m),Row 29 1 (.slice ga j gc) j gs,Row 29 1 (.slice (some ⟨lb,0,none⟩) M.length lc) M.length (M.map (·.1)),big grewOf D,big rowOf (M1.drop (j+1)),F] wx) (fun _ i _=>20-(intOf i).toNat)
       case atStart=>exact⟨0,nj,by omega,rfl,rfl,HST.out,HG.out.to⟩
       case round=>
        clear HG lcell lz
        obtain⟨k,m,hk,hmk,rfl,hst,hs⟩:=hrel
        obtain⟨_,_,e1,hu,lcell,_,lz⟩:=Row.at1 (hs.row (.slice (some ⟨lb,0,none⟩) M.length lc)) j hlt
        cases e1
        rw [List.getElem?_map,List.getElem?_eq_getElem hlt] at hu
        simp only [Option.map_some,Option.some.injEq] at hu
        rw [← hu,EA.out] at lcell
        clear hu
        obtain⟨_,_,a7,c7,e1,e2,_⟩:=Grew.read hs.sat
        cases e1
        subst e2
        have HST2:=hQ hst
        have HS3:=hQ hs
        clear hst hs
        rcases Nat.lt_or_ge k 20 with hlk | hgk
        · have hp:(Value.int .u8 (((j:Int)*31+((nj:Int)+(k:Int))*7+1) % 256))= .int .u8 (patB j m):=by unfold patB;rw [show (m:Int)=(nj:Int)+k by omega]
          have HP:=hQ hp
          clear hp
          obtain⟨i0,hi,hz0,hz1,hz2⟩:=info_parts infoByte
          have hs4:=(HS3.out.alloc (.cells #[.int .u8 (((j:Int)*31+((nj:Int)+(k:Int))*7+1) % 256)] 5)).drop
          have HS4:=hQ hs4
          have hc:(wr.alloc (.cells #[.int .u8 (((j:Int)*31+((nj:Int)+(k:Int))*7+1) % 256)] 5)).cell? ⟨wr.heap.size,0,none⟩=some (.int .u8 (((j:Int)*31+((nj:Int)+(k:Int))*7+1) % 256)):=cell_of_heap (heap_new wr _) 0
          have HC:=hQ hc
          clear hc
          have HMK:=hQ hmk
          have hm2:m≤65556:=by omega
          clear hs4 hmk
          go_wp2_with (at_builtin
                       refine wpList_append_grew rfl _ _ _ rfl 5 i0 (.int .u8 0) 1 Tryz.underlying29 hi hz0 hz1 hz2 rfl _ _ _ _ _ rfl HS4.out.sat ⟨wr.heap.size,0,none⟩ 1 _ rfl HC.out rfl (by simp only [maxLen];omega) (by omega) ?_
                       intro g8 w8 hs8 st8
                       have HS8:=hQ hs8
                       clear hs8 HS4 HC)
          refine⟨⟨k+1,m+1,by omega,by have:=HMK.out;omega,congrArg (Value.int .i64) (by omega),(HST2.out.alloc _).trans st8,?_⟩,by simp [intOf];omega⟩
          have h9:=OwnL.of1 HS8.out
          rw [HP.out,patV_snoc] at h9
          exact h9.to
        · have hkk:k=20:=by omega
          subst hkk hmk
          have hs5:=HS3.out
          obtain⟨j0,hj0,hy0,hy1,hy2⟩:=info_parts infoRows
          have HS6:=hQ ((OwnL.to (M:= [Row 29 1 (.slice ga j gc) j gs,Grew 5 (.slice a nj c) nj (.slice a7 (nj+20) c7) (nj+20) (patV j (nj+20)),Row 29 1 (.slice (some ⟨lb,0,none⟩) M.length lc) M.length (M.map (·.1)),big grewOf D,big rowOf (M1.drop (j+1)),F]) hs5).alloc (.cells [.slice a7 (nj+20) c7].toArray 29)).drop
          have HC:=hQ (fresh_cells wr [.slice a7 (nj+20) c7] 29)
          clear hs5
          go_wp2_with (at_builtin
                       refine wpList_append_sl rfl _ _ _ rfl 29 j0 (.slice none 0 0) 1 24 Tryz.underlying63 hj0 hy0 hy1 hy2 rfl _ _ _ rfl HS6.out.sat ⟨wr.heap.size,0,none⟩ 1 1 [.slice a7 (nj+20) c7] rfl rfl HC.out (by simp [Value.oneCell']) (by simp only [maxLen];omega) (by omega) ?_
                       intro v8 w8 hs8 hg8 _
                       obtain⟨a8,c8,e8,_,_⟩:=Row.read hs8
                       subst e8
                       have HS8:=hQ hs8
                       have HG8:=hQ ((HST2.out.alloc _).of_grown hg8)
                       clear hs8 hg8 HS6 HC)
          go_roundw
          case rel=>
           refine⟨j+1,gs++ [.slice a7 (nj+20) c7],D++ [(j,.slice a nj c,nj,.slice a7 (nj+20) c7)],by omega,congrArg (Value.int .i64) (by omega),HG8.out,hQ (by simp [hgl.out]),hQ (by simp [hdl.out]),hQ fun t h h2 h3=> ?_,?_⟩
           · by_cases he:t=j
             · subst he
               rw [List.getElem?_append_right (by rw [hdl.out];exact Nat.le_refl _),hdl.out,List.getElem_append_right (by rw [hgl.out];exact Nat.le_refl _)]
               simp [EA.out, ← HNJ.out]
             · rw [List.getElem?_append_left (by rw [hdl.out];omega),List.getElem_append_left (by rw [hgl.out];omega)]
               exact hdv.out t h _ (by omega)
           · have h0:OwnL [Row 29 1 (.slice a8 (j+1) c8) (j+1) (gs++ [.slice a7 (nj+20) c7]),grewOf (j,.slice a nj c,nj,.slice a7 (nj+20) c7),Row 29 1 (.slice (some ⟨lb,0,none⟩) M.length lc) M.length (M.map (·.1)),big grewOf D,big rowOf (M1.drop (j+1)),F] w8:=⟨HS8.out⟩
             have h1:=h0.snoc grewOf D (j,.slice a nj c,nj,.slice a7 (nj+20) c7)
             exact h1.to
          case measure=>simp [intOf];omega
     · have hjj:j=M.length:=by omega
       subst hjj
       rw [List.drop_of_length_le (by rw [HL.out];exact Nat.le_refl _)] at hs
       have HS3:=hQ hs
       have HST3:=hQ hst
       clear hs hst
       go_wp2
       go_loopw [9] (fun i wx=> ∃j:Nat,j≤M.length∧i= .int .i64 j∧wx=wr) (fun i _=>M.length-(intOf i).toNat)
       case atStart=>exact⟨0,Nat.zero_le _,rfl,rfl⟩
       case round=>
        obtain⟨j,hj,rfl,rfl⟩:=hrel
        rcases Nat.lt_or_ge j M.length with hlt | hge
        · have hs:=HS3.out
          obtain⟨lb,u,rfl,hu,lcell,_,lz⟩:=Row.at1 (hs.row (.slice la M.length lc)) j hlt
          rw [List.getElem?_map,List.getElem?_eq_getElem hlt] at hu
          simp only [Option.map_some,Option.some.injEq] at hu
          obtain⟨gb,u2,rfl,hu2,gcell,_,gz⟩:=Row.at1 (hs.row (.slice ga M.length gc)) j hlt
          have hjg:j<gs.length:=by rw [hgl.out];exact hlt
          have hjd:j<D.length:=by rw [hdl.out];exact hlt
          rw [List.getElem?_eq_getElem hjg] at hu2
          simp only [Option.some.injEq] at hu2
          have ed:D[j]=(j,M[j].1,M[j].2.length,gs[j]):=by
           have:=hdv.out j hlt hjg hlt
           rw [List.getElem?_eq_getElem hjd] at this
           exact Option.some.inj this
          have h1:=hs.take grewOf D j hjd
          rw [ed] at h1
          have h2:Sat ((Grew 5 M[j].1 M[j].2.length gs[j] (M[j].2.length+20) (patV j (M[j].2.length+20))).star _) _:=h1.sat
          obtain⟨va,vc,gga,ggc,e1,e2,_,hyl,r1,r2⟩:=Grew.read h2
          rw [← hu,e1] at lcell
          rw [← hu2,e2] at gcell
          have hnj:=HN.out M[j] (List.getElem_mem hlt)
          generalize M[j].2.length=nj at*
          have R1:=hQ r1
          have R2:=hQ r2
          clear hs h1 h2 ed hu hu2 e1 e2 hyl r1 r2
          go_wp2
          go_loopw [10] (fun i wx=> ∃k:Nat,k≤nj+20∧i= .int .i64 k∧wx=wr) (fun i _=>nj+20-(intOf i).toNat)
          case atStart=>exact⟨0,by omega,rfl,rfl⟩
          case round=>
           obtain⟨k,hk,rfl,rfl⟩:=hrel
           rcases Nat.lt_or_ge k (nj+20) with hlk | hgk
           · obtain⟨b2,rfl,c2⟩:=R2.out k hlk
             rw [List.getElem?_map,patL_at hlk] at c2
             have c3:wr.cell? ⟨b2,k,none⟩=some (.int .u8 (((j:Int)*31+(k:Int)*7+1) % 256)):=c2
             have z2:=World.block_lt_of_cell? _ _ c3
             clear c2
             by_cases hv:k<nj
             · obtain⟨b1,rfl,c1⟩:=R1.out k hv
               rw [List.getElem?_map,patL_at hlk] at c1
               have c4:wr.cell? ⟨b1,k,none⟩=some (.int .u8 (((j:Int)*31+(k:Int)*7+1) % 256)):=c1
               have z1:=World.block_lt_of_cell? _ _ c4
               clear c1
               go_wp2
               exact⟨⟨k+1,by omega,congrArg (Value.int .i64) (by omega),trivial⟩,by simp [intOf];omega⟩
             · go_wp2
               exact⟨⟨k+1,by omega,congrArg (Value.int .i64) (by omega),trivial⟩,by simp [intOf];omega⟩
           · have hkk:k=nj+20:=by omega
             subst hkk
             go_wp2
             go_roundw
             case rel=>exact⟨j+1,by omega,congrArg (Value.int .i64) (by omega),trivial⟩
             case measure=>simp [intOf];omega
        · have hjj:j=M.length:=by omega
          subst hjj
          go_wp2
          go_ret
          exact⟨rfl,HST3.out,(HS3.out.end1 (A1:=F))⟩
end Go.Proofs.YtbobcmimkonnoaaGreat.Ay
namespace Go.Sl
section
variable {P:Program}{sz:Nat}
def lastPost(P:Program)(Q:Exit→Act→World→Prop)(o:Oper):Exit→Act→World→Prop
 | .normal,a,w=>o.wp P a w (Q .normal) Q
 | e,a,w=>Q e a w
def lastOk(front:Array Oper)(o:Oper):Bool:=
 o.guard.isNone && (o.after.all fun e=> !Region.binds .any e || decide (e.on<front.size)) && ((List.range front.size).all fun i=>bindsOn o i) &&
  (List.range front.size).all fun i=>match front[i]? with
    | none=>true
    | some p=>p.guard.isNone
theorem wp_both {o:Oper}{a:Act}{w:World}{K K':Act→World→Prop}{Q Q':Exit→Act→World→Prop}(h:∀a w,K a w→K' a w)(hq:∀e a w,e≠ .normal→Q' e a w→Q e a w)(hh:o.wp P a w K Q'):o.wp P a w K' Q:=by
 unfold Oper.wp at*
 generalize (execOp a.eval o).run P w=r at*
 cases r with
 | ok n w'=>
   cases n<;>simp only [Oper.upon] at hh ⊢ <;>
    first
     | exact h _ _ hh
     | exact Calls.mono hh (fun e w'' he=>by cases e<;>first | exact h _ _ he | exact hq _ _ _ (by simp) he | (obtain⟨a,w,x⟩:=he;exact⟨a,w,hq _ _ _ (by simp) x⟩))
     | exact Rows.mono hh (fun _ _ he=>h _ _ he)
 | halt x w'=>cases x<;>simp only [Oper.upon] at hh ⊢ <;>first | exact hq _ _ _ (by simp) hh | exact hh
theorem post_other {Q:Exit→Act→World→Prop}{o:Oper}:∀e a w,e≠ .normal→lastPost P Q o e a w→Q e a w:=fun e a w he h=>by
 cases e<;>first | exact(he rfl).elim | exact h
theorem lst_push {L:Array Bool}{i:Nat}:Lst (L.push false) i↔(i≠L.size∧Lst L i):=by
 unfold Lst
 rcases Nat.lt_trichotomy i L.size with h | h | h
 · simp [Array.getD_eq_getD_getElem?,Array.getElem?_push,show i≠L.size by omega]
 · subst h;simp [Array.getD_eq_getD_getElem?]
 · simp [Array.getD_eq_getD_getElem?,Array.getElem?_push,show i≠L.size by omega]
theorem getD_push {L:Array Bool}{i:Nat}(h:i<L.size):(L.push false).getD i false=L.getD i false:=by
 simp [Array.getD_eq_getD_getElem?,Array.getElem?_push,show i≠L.size by omega]
theorem getD_of_lst {L:Array Bool}{i:Nat}(h:i<L.size):L.getD i false=true↔Lst L i:=by
 unfold Lst
 simp [Array.getD_eq_getD_getElem?,Array.getElem?_eq_getElem h]
theorem set_push {L:Array Bool}{i:Nat}(h:i<L.size):(L.push false).setIfInBounds i true=(L.setIfInBounds i true).push false:=by
 apply Array.ext_getElem?
 intro j
 simp only [Array.getElem?_setIfInBounds,Array.getElem?_push,Array.size_push,Array.size_setIfInBounds]
 by_cases he:i=j
 · subst he
   simp [h,show i≠L.size by omega,show i<L.size+1 by omega]
 · simp [he]
theorem any_last {front:Array Oper}{o:Oper}{Q:Exit→Act→World→Prop}(hs:slotsOk front sz=true)(hl:lastOk front o=true):
 ∀(fuel:Nat) (L:Array Bool) (a:Act) (w:World),L.size=front.size→wpAny P .any front (lastPost P Q o) fuel L a w→wpAny P .any (front.push o) Q (fuel+1) (L.push false) a w:=by
 simp only [lastOk,Bool.and_eq_true] at hl
 obtain⟨⟨⟨g1,g2⟩,g3⟩,g4⟩:=hl
 have hog:o.guard=none:=by simpa using g1
 have hfront:∀i,i<front.size→(front.push o)[i]? =front[i]? :=fun i hi=>by simp [Array.getElem?_push,show i≠front.size by omega]
 have hlastat:(front.push o)[front.size]? =some o:=by simp
 have rd:∀(L:Array Bool),L.size=front.size→∀i,i<front.size→(i∈Region.ready .any (front.push o) (L.push false)↔i∈Region.ready .any front L):=fun L hL i hi=>by
  rw [ready_mem,ready_mem,lst_push,hfront i hi,Array.size_push]
  constructor
  · rintro⟨_,h2,p,hp,h3⟩
    refine⟨hi,fun h=>h2 ⟨by omega,h⟩,p,hp,fun e he hb=> ?_⟩
    have:=(slots_at hs hp).2.2.1 e he hb
    rw [← getD_push (by omega)]
    exact h3 e he hb
  · rintro⟨_,h2,p,hp,h3⟩
    refine⟨by omega,fun h=>h2 h.2,p,hp,fun e he hb=> ?_⟩
    have:=(slots_at hs hp).2.2.1 e he hb
    rw [getD_push (by omega)]
    exact h3 e he hb
 have rl:∀(L:Array Bool),L.size=front.size→(front.size∈Region.ready .any (front.push o) (L.push false)↔∀i,i<front.size→Lst L i):=fun L hL=>by
  rw [ready_mem,lst_push,hlastat,Array.size_push]
  constructor
  · rintro⟨_,_,p,hp,h3⟩ i hi
    cases hp
    have hb:=List.all_eq_true.1 g3 i (List.mem_range.2 hi)
    unfold bindsOn at hb
    obtain⟨e,hem,heb⟩:=any_mem hb
    simp only [Bool.and_eq_true,beq_iff_eq] at heb
    have:=h3 e hem heb.1
    rw [heb.2,getD_push (by omega),getD_of_lst (by omega)] at this
    exact this
  · intro hall
    refine⟨by omega,fun h=>h.1 hL.symm,o,rfl,fun e he hb=> ?_⟩
    have h5:=Array.all_eq_true_iff_forall_mem.1 g2 e he
    have h6:e.on<front.size:=by simpa [hb] using h5
    rw [getD_push (by omega),getD_of_lst (by omega)]
    exact hall _ h6
 have done:∀(L:Array Bool),L.size=front.size→(∀i,i<front.size→Lst L i)→Region.ready .any (front.push o) ((L.push false).setIfInBounds front.size true)= []:=fun L hL hall=>by
  rw [List.eq_nil_iff_forall_not_mem]
  intro i hi
  obtain⟨h1,h2,_⟩:=ready_mem.1 hi
  apply h2
  rw [lst_set]
  rw [Array.size_push] at h1
  by_cases he:i=front.size
  · exact .inl he
  · exact .inr (lst_push.2 ⟨by omega,hall i (by omega)⟩)
 have lastStep:∀(fuel:Nat) (L:Array Bool) (a:Act) (w:World),L.size=front.size→(∀i,i<front.size→Lst L i)→lastPost P Q o .normal a w→
  wpOp P (front.push o) Q front.size (wpAny P .any (front.push o) Q fuel ((L.push false).setIfInBounds front.size true)) a w:=fun fuel L a w hL hall h=>by
  unfold wpOp
  rw [hlastat]
  simp only [Region.wanted,hog,if_true]
  refine .inl (Oper.wp_mono (fun a' w' h'=> ?_) h)
  have hd:=done L hL hall
  cases fuel with
  | zero=>exact⟨hd,h'⟩
  | succ n=>exact⟨fun _=>h',fun i hi=>by rw [hd] at hi;cases hi⟩
 have lastOr:∀(L:Array Bool),L.size=front.size→Region.ready .any front L= []→∀i,i<front.size→Lst L i:=fun L hL hnil i hi=>by
  by_cases h:Lst L i
  · exact h
  · obtain⟨j,hj⟩:=unlisted_ready hs hL i i (Nat.le_refl _) hi h
    rw [hnil] at hj;cases hj
 have cases':∀(L:Array Bool) (i:Nat),i∈Region.ready .any (front.push o) (L.push false)→i<front.size∨i=front.size:=fun L i hi=>by
  have:=(ready_mem.1 hi).1
  rw [Array.size_push] at this
  omega
 intro fuel
 induction fuel with
 | zero=>
   intro L a w hL ⟨h1,h2⟩
   have hall:=lastOr L hL h1
   refine⟨fun hnil=> ?_,fun i hi=> ?_⟩
   · have:=(rl L hL).2 hall
     rw [hnil] at this;cases this
   · rcases cases' L i hi with h | h
     · have:=(rd L hL i h).1 hi
       rw [h1] at this;cases this
     · subst h
       exact lastStep 0 L a w hL hall h2
 | succ fuel ih=>
   intro L a w hL ⟨h1,h2⟩
   refine⟨fun hnil=> ?_,fun i hi=> ?_⟩
   · exfalso
     by_cases hr:Region.ready .any front L= []
     · have:=(rl L hL).2 (lastOr L hL hr)
       rw [hnil] at this;cases this
     · obtain⟨j,hj⟩:=List.exists_mem_of_ne_nil _ hr
       have:=(rd L hL j (ready_mem.1 hj).1).2 hj
       rw [hnil] at this;cases this
   · rcases cases' L i hi with h | h
     · have hi2:=(rd L hL i h).1 hi
       have h3:=h2 i hi2
       obtain⟨_,_,p,hp,_⟩:=ready_mem.1 hi2
       have hpg:p.guard=none:=by
        have:=List.all_eq_true.1 g4 i (List.mem_range.2 h)
        simpa [hp] using this
       unfold wpOp at h3 ⊢
       rw [hfront i h,hp]
       simp only [hp,Region.wanted,hpg,if_true] at h3 ⊢
       rw [set_push (by omega)]
       rcases h3 with h3 | ⟨h3,h4⟩
       · exact .inl (wp_both (fun a' w' h'=>ih (L.setIfInBounds i true) a' w' (by simpa using hL) h') post_other h3)
       · obtain⟨a',w',h5⟩:=h4
         exact .inr ⟨h3,a',w',h5⟩
     · subst h
       have hall:=(rl L hL).1 hi
       exact lastStep (fuel+1) L a w hL hall (h1 (by
        rw [List.eq_nil_iff_forall_not_mem]
        intro j hj
        exact(ready_mem.1 hj).2.1 (hall j (ready_mem.1 hj).1)))
theorem wp_region_staged_last {Q:Exit→Act→World→Prop}{id:Nat}{a:Act}{w:World}(hm:P.follows .mixedOrders=true){l L:List Oper}{o:Oper}(E0:List Nat)(rest:List (Nat × List Nat × List Nat))
 (hL:l.dropLast=L) (hlo:l.getLast?=some o) (hsz:a.tmps.size=sz) (hs:slotsOk L.toArray sz=true) (hl:lastOk L.toArray o=true) (ho:orderOk L.toArray [] E0=true) (hp:planOk L.toArray E0 [] rest=true)
 (h:wpQ P L.toArray E0 (fun f=>wpRest P L.toArray (lastPost P Q o) rest f w.drew) a w.drew):(Code.region id l.toArray true).wp P Q a w:=by
 have e:l.toArray=L.toArray.push o:=by
  obtain⟨ys,rfl⟩:=List.getLast?_eq_some_iff.1 hlo
  rw [List.dropLast_concat] at hL
  rw [hL]
  simp
 rw [e]
 refine wp_region_any hm ?_
 rw [Array.size_push,show Array.replicate (L.toArray.size+1) false=(Array.replicate L.toArray.size false).push false by simp [Array.replicate_succ]]
 refine any_last hs hl _ _ _ _ (by simp) ?_
 obtain⟨f,hc,hfs,hfd,hft,hfy⟩:=wpQ_out hs E0 _ _ _ ho hsz h
 have hno:∀i,i<L.toArray.size→¬Lst (Array.replicate L.toArray.size false) i:=fun i hi h=>by
  have hi2:i<L.length:=by simpa using hi
  simp [Lst,hi2,Array.getD_eq_getD_getElem?] at h
 refine staged_any hs _ _ _ _ E0 [] rest f hp (by simp) ?_ hfs ⟨hsz.trans hfs.symm,hfd.symm,fun t ht=>(hft t fun j hj e=> ?_).symm⟩ (fun i hi hl=>absurd hl (hno i hi)) (fun i hi=>by cases hi) (fun i hi _=>hfy i hi) hc
 · unfold unl
   rw [List.filter_eq_self.2]
   · simp
   · intro i hi
     have:=hno i (List.mem_range.1 hi)
     simpa [Lst] using this
 · have hj2:=(order_nin _ _ ho j hj).2
   exact hno j hj2 (ht j e)
end
end Go.Sl
namespace Go.Proofs.YtbobcmimkonnoaaGreat.Cy
open ChangeShapes WideShapes ChangeAt RowKit Sl Cop K3 Q3 G2 M2 N2 U3 Y3 X3 X5 Y5 N6 Ay
def isSl(v:Value):Prop:= ∃a m c,v= .slice a m c
def bothOf(y:Value × Value):List Value:= [y.1,y.2]
theorem row_one {T:Nat}{v:Value}{F:Pr}{w:World}{J:Nat}(h:Sat ((Pr.pts J (.cells #[v] T)).star F) w):Sat ((Row T 1 (.slice (some ⟨J,0,none⟩) 1 1) 1 [v]).star F) w:=
 Row.mk' (sp:= []) (by simp) (by simp) (Nat.le_refl _) (by simp [maxLen]) h
theorem lists_any(ai:Option Addr)(ci:Nat)(ys:List (Value × Value))(its:List ItemV)(hyl:ys.length=its.length)(hn:its.length≤8)(hsl:∀y∈ys,isSl y.1∧isSl y.2)(ad:Option Addr)(md cd:Nat)(k0 l0 nx:Int)(F:Pr)(w:World)
 (hF:Sat ((ItRow (.slice ai its.length ci) ys its).star F) w):
 Calls Tryz.prog 121 #[pageV k0 l0 (.slice ai its.length ci) (.slice ad md cd) nx] w fun e w'=> ∃v,e= .returned v∧Stays w w'∧Sat ((Row 29 1 v (1+2*its.length) (.slice ad md cd :: ys.flatMap bothOf)).star ((ItRow (.slice ai its.length ci) ys its).star F)) w':=by
 have hs1:=(OwnL.in1 hF).alloc (pageC k0 l0 (.slice ai its.length ci) (.slice ad md cd) nx)
 have hs2:=hs1.alloc (.cells #[.slice ad md cd] 29)
 rw [show (w.alloc (pageC k0 l0 (.slice ai its.length ci) (.slice ad md cd) nx)).heap.size=w.heap.size+1 by simp] at hs2
 have hs3:=OwnL.of1 (row_one hs2.sat)
 have HST:=hQ (((Stays.refl w).alloc (pageC k0 l0 (.slice ai its.length ci) (.slice ad md cd) nx)).alloc (.cells #[.slice ad md cd] 29))
 have HS3:=hQ hs3
 have HSL:=hQ hsl
 have HYL:=hQ hyl
 have c1:=hs1.facts
 simp only [CellsAt,Nat.reduceAdd,and_true] at c1
 have hn0:(its.length:Int)≤8:=by omega
 clear hF hs1 hs2 hs3 hsl hyl
 go_enter Tryz.func121,Tryz.ntmps121
 go_wp2_with fail
 clear c1
 have T1:=HST.out
 have T2:=HS3.out
 clear HST HS3
 generalize (w.alloc (pageC k0 l0 (.slice ai its.length ci) (.slice ad md cd) nx)).alloc (.cells #[.slice ad md cd] 29)=w0 at*
 generalize w.heap.size+1=I1 at*
 generalize w.heap.size=I0 at*
 go_loopw [3,4] (fun o i wr=> ∃(k m:Nat) (xs:List Value),k≤its.length∧i= .int .i64 k∧Hid (m=1+2*k)∧m≤17∧Hid (xs= .slice ad md cd :: (ys.take k).flatMap bothOf)∧Stays w wr∧
  OwnL [Row 29 1 o m xs,Pr.pts I0 (pageC k0 l0 (.slice ai its.length ci) (.slice ad md cd) nx),ItRow (.slice ai its.length ci) ys its,F] wr) (fun _ i _=>its.length-(intOf i).toNat)
 case atStart=>exact⟨0,1,_,Nat.zero_le _,rfl,hQ rfl,by omega,hQ rfl,T1,T2⟩
 case round=>
  clear T1 T2
  obtain⟨k,m,xs,hk,rfl,hm,hm2,hxs,hst,hs⟩:=hrel
  obtain⟨al2,cl2,rfl⟩:=Row.shape hs.sat
  have c6:=hs.facts
  simp only [CellsAt,Nat.reduceAdd,and_true] at c6
  rcases Nat.lt_or_ge k its.length with hlt | hge
  · have hky:k<ys.length:=by have:=HYL.out;omega
    have hr0:=hs.pull1 (A1:=ItRow (.slice ai its.length ci) ys its)
    have ha1:∃b,ai=some ⟨b,0,none⟩:=by
     obtain⟨_,_,e,_,hc⟩:=Row.read hr0
     cases e
     obtain⟨b,e,_⟩:=hc (by omega)
     exact⟨b,e⟩
    obtain⟨b,rfl⟩:=ha1
    obtain⟨⟨r0,r1,r2,r3⟩,_⟩:=itRow_rd hr0 hky hlt
    obtain⟨⟨q1,qa,q2,e1⟩,⟨q3,qb,q4,e2⟩⟩:=HSL.out ys[k] (List.getElem_mem hky)
    rw [e1] at r0
    rw [e2] at r1
    have zb:=World.block_lt_of_cell? _ _ r0
    have HRD:=hQ (show ∀wx,∀Fx:Pr,Sat ((ItRow (.slice (some ⟨b,0,none⟩) its.length ci) ys its).star Fx) wx→wx.cell? ⟨b,k*4,none⟩=some (.slice q1 qa q2)∧wx.cell? ⟨b,k*4+1,none⟩=some (.slice q3 qb q4) from fun wx Fx hx=>by
     obtain⟨⟨g0,g1,_,_⟩,_⟩:=itRow_rd hx hky hlt
     rw [e1] at g0
     rw [e2] at g1
     exact⟨g0,g1⟩)
    have HTK:=hQ (show Value.slice ad md cd :: (ys.take (k+1)).flatMap bothOf=(Value.slice ad md cd :: (ys.take k).flatMap bothOf)++ [.slice q1 qa q2,.slice q3 qb q4] by
     rw [List.take_succ_eq_append_getElem hky,List.flatMap_append]
     simp only [List.flatMap_cons,List.flatMap_nil,bothOf,e1,e2,List.append_nil,List.cons_append])
    obtain⟨j0,hj,hy0,hy1,hy2⟩:=info_parts infoRows
    have A1:=hQ ((hs.alloc (.cells #[.slice q1 qa q2,.slice q3 qb q4] 29)).drop.drew.pull1 (A1:=Row 29 1 (.slice al2 m cl2) m xs))
    have hnew:=hQ (show ∀j u,[Value.slice q1 qa q2,.slice q3 qb q4][j]? =some u→(wr.alloc (.cells #[.slice q1 qa q2,.slice q3 qb q4] 29)).drew.cell? ((⟨wr.heap.size,0,none⟩:Addr).add j)=some u from fresh_cells wr [.slice q1 qa q2,.slice q3 qb q4] 29)
    have HSTA:=hQ (hst.alloc (.cells #[.slice q1 qa q2,.slice q3 qb q4] 29)).drew
    clear hs hr0 hst e1 e2
    go_wp2_with fail
    refine wp_region_staged_last (sz:=31) (by kernel_rfl) [0,1,2,3,4,5,6,7,8,9,10,11,12] [(13,[],[0,1,2,3,4,5,7,8,9,10,11]),(14,[],[1,2,3,4,5,7,8,9,10,11])] rfl rfl rfl (by kernel_rfl) (by kernel_rfl) (by kernel_rfl) (by kernel_rfl) ?_
    simp only [List.dropLast]
    refine wpQ_all _ rfl rfl ?_
    simp only [pick,pQ]
    iterate 13 (go_big_quiet_step (fail))
    refine wpQuiet_nil ?_
    refine wpRest_act rfl ?_
    go_wp2
    refine onN_mk ?_
    refine wpQ_nil ⟨?_,?_⟩
    · refine chk_all _ rfl rfl ?_
      simp only [pick,Same,pQ,and_true]
      repeat' (first | apply And.intro | (go_big_quiet_step (fail);exact wpQuiet_nil rfl))
    refine wpRest_act rfl ?_
    refine wpList_append_slK rfl _ _ _ rfl 29 j0 (.slice none 0 0) 1 24 Tryz.underlying63 hj hy0 hy1 hy2 rfl _ _ _ rfl A1.out ⟨wr.heap.size,0,none⟩ 2 2 [.slice q1 qa q2,.slice q3 qb q4] rfl rfl hnew.out (by simp [Value.oneCell']) (by simp only [maxLen];omega) (by omega) (fun v7 w7 hs7 hg7 K0 hK0=> ?_)
    obtain⟨a7,c7,rfl⟩:=Row.shape hs7
    go_simp
    refine hK0 _ ?_
    clear hK0 K0
    have hs8:=OwnL.of1 hs7
    have HS8:=hQ hs8
    have HST8:=hQ (HSTA.out.of_grown hg7)
    clear r0 r1 r2 r3 zb
    obtain⟨r0,r1⟩:=HRD.out _ _ (hs8.pull1 (A1:=ItRow (.slice (some ⟨b,0,none⟩) its.length ci) ys its))
    have zb:=World.block_lt_of_cell? _ _ r0
    clear c6
    have c6:=hs8.facts
    simp only [CellsAt,Nat.reduceAdd,and_true] at c6
    clear hs7 hs8 hg7 A1 hnew HSTA HRD
    refine wpList_nil ?_
    refine onN_mk ?_
    refine wpQ_nil ⟨?_,?_⟩
    · refine chk_all _ rfl rfl ?_
      simp only [pick,Same,pQ,and_true]
      repeat' (first | apply And.intro | (go_big_quiet_step (fail);exact wpQuiet_nil rfl))
    refine wpRest_nil ?_
    unfold lastPost
    clear c6 r0 r1 zb
    go_wp2
    go_roundw
    case rel=>exact⟨k+1,m+2,_,by omega,congrArg (Value.int .i64) (by omega),hQ (by have:=hm.out;omega),by have:=hm.out;omega,hQ (by rw [HTK.out, ← hxs.out]),HST8.out,HS8.out.to⟩
    case measure=>simp [intOf];omega
  · have hkl:k=its.length:=by omega
    subst hkl
    have HS:=hQ hs
    have HSTR:=hQ hst
    clear hs hst
    go_wp2
    go_ret
    have hx:=hxs.out
    have hmm:=hm.out
    rw [List.take_of_length_le (by have:=HYL.out;omega)] at hx
    subst hx
    rw [show 1+2*its.length=m by omega]
    exact⟨.slice al2 m cl2,rfl,HSTR.out,(HS.out.lose (Pr.pts I0 (pageC k0 l0 (.slice ai its.length ci) (.slice ad md cd) nx))).end3⟩
end Go.Proofs.YtbobcmimkonnoaaGreat.Cy
namespace Go.Sl
def noDefer:Op→Bool
 | .defer _=>false
 | _=>true
def cutQ(Q:Exit→Act→World→Prop):Exit→Act→World→Prop
 | .normal,a,w=>Q .normal a w
 | .panic c,a,w=>Q (.panic c) a w
 | _,_,_=>False
theorem cutQ_out(Q:Exit→Act→World→Prop):¬LetsOut (cutQ Q):=fun h=>by
 first | exact h | exact h default default | exact h { tmps:= #[],defers:= [] } default | (obtain⟨_,_,h⟩:=h;exact h)
def slotsOkD(ops:Array Oper):Bool:=ops.all fun o=>noDefer o.op
section
variable {P:Program}{ops:Array Oper}{Q:Exit→Act→World→Prop}{l n:Nat}
theorem wpRest_cut:∀(rest:List (Nat × List Nat × List Nat)),wpRest P ops Q rest=wpRest P ops (cutQ Q) rest
 | []=>rfl
 | (x,E,C) :: rest=>by
   funext f w
   simp only [wpRest,wpRest_cut rest]
theorem oper_in {o:Oper}(hd:noDefer o.op=true){a:Act}{w:World}{next next':Act→World→Prop}(hn:∀a w,next a w→next' a w)(h:o.wp P a w next (cutQ Q)):o.wpIn (Fence.wide.inRound l) n P a w next' Q:=by
 refine⟨fun _ _=>trivial,?_⟩
 have e:o.semAt (Fence.wide.inRound l).round a.eval=execOp a.eval o:=Oper.semAt_eq _ _ _ (fun c e=>by rw [e] at hd;cases hd)
 rw [e]
 unfold Oper.wp at h
 generalize (execOp a.eval o).run P w=r at*
 cases r with
 | ok x w'=>
   cases x with
   | value v=>exact hn _ _ h
   | skip=>exact hn _ _ h
   | defer d=>exact hn _ _ h
   | enter f args=>
     refine⟨fun h=>by simp [Fence.wide,Fence.inRound] at h,?_⟩
     refine((callsIn_wide (n:=n-1)).2 h:CallsIn (Fence.wide.inRound l) (n-1) P f args w' _).mono ?_
     intro e w'' he
     cases e with
     | returned v=>exact hn _ _ he
     | panicked c=>exact he
     | outgrown=>exact absurd he (cutQ_out Q)
   | row row args=>
     refine⟨fun h=>by simp [Fence.wide,Fence.inRound] at h,?_⟩
     have h':Rows P row args w' fun v w''=>next (a.put o.dst v) w'':=h
     exact RowsIn.mono (F:=Fence.wide.inRound l) (fun c cs _=>let ⟨v,w',r,s⟩:=h' c cs;⟨v,w',r,stepsIn_wide.2 s⟩) (fun _ _ he=>hn _ _ he)
   | _=>exact(h:False).elim
 | halt x w'=>
   cases x<;>first | exact h | exact(h:False).elim
theorem any_in(hs:slotsOkD ops=true):∀(fuel:Nat) (L:Array Bool) (a:Act) (w:World),wpAny P .any ops (cutQ Q) fuel L a w→wpAnyIn (Fence.wide.inRound l) n P .any ops Q fuel L a w:=by
 intro fuel
 induction fuel with
 | zero=>intro L a w h;exact h
 | succ fuel ih=>
   intro L a w h
   refine⟨fun e=>h.1 e,fun i hi=> ?_⟩
   have h2:=h.2 i hi
   unfold wpOp at h2
   unfold wpOpIn
   cases ho:ops[i]? with
   | none=>simp only [ho] at h2 ⊢;exact ih _ _ _ h2
   | some o=>
     simp only [ho] at h2 ⊢
     have hd:noDefer o.op=true:=by
      have hi2:=(Array.getElem?_eq_some_iff.1 ho)
      obtain⟨hi3,e⟩:=hi2
      have:=Array.all_eq_true_iff_forall_mem.1 hs o (by rw [← e];exact Array.getElem_mem hi3)
      exact this
     split
     · rename_i hw
       rw [if_pos hw] at h2
       rcases h2 with h2 | ⟨_,h2⟩
       · exact oper_in hd (fun a w h=>ih _ a w h) h2
       · exact absurd h2 (cutQ_out Q)
     · rename_i hw
       rw [if_neg hw] at h2
       exact⟨fun _ _=>trivial,ih _ _ _ h2⟩
theorem wpIn_region_staged {sz:Nat}{id:Nat}{a:Act}{w:World}(hm:P.follows .mixedOrders=true)(E0:List Nat)(rest:List (Nat × List Nat × List Nat))
 (hsz:a.tmps.size=sz) (hs:slotsOk ops sz=true) (hsd:slotsOkD ops=true) (ho:orderOk ops [] E0=true) (hp:planOk ops E0 [] rest=true)
 (h:wpQ P ops E0 (fun f=>wpRest P ops Q rest f w.drew) a w.drew):(Code.region id ops true).wpIn (Fence.wide.inRound l) n P Q a w:=by
 refine wpIn_region_any hm (any_in hsd _ _ _ _ ?_)
 rw [wpRest_cut rest] at h
 obtain⟨f,hc,hfs,hfd,hft,hfy⟩:=wpQ_out hs E0 _ _ _ ho hsz h
 have hno:∀i,i<ops.size→¬Lst (Array.replicate ops.size false) i:=fun i hi h=>by simp [Lst,hi,Array.getD_eq_getD_getElem?] at h
 refine staged_any hs _ _ _ _ E0 [] rest f hp (by simp) ?_ hfs ⟨hsz.trans hfs.symm,hfd.symm,fun t ht=>(hft t fun j hj e=> ?_).symm⟩ (fun i hi hl=>absurd hl (hno i hi)) (fun i hi=>by cases hi) (fun i hi _=>hfy i hi) hc
 · unfold unl
   rw [List.filter_eq_self.2]
   · simp
   · intro i hi
     have:=hno i (List.mem_range.1 hi)
     simpa [Lst] using this
 · have hj2:=(order_nin _ _ ho j hj).2
   exact hno j hj2 (ht j e)
end
end Go.Sl
