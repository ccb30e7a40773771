/- The document's Apart at lists that lie apart; the conditions stand as hypotheses. -/
import Derived.Test.YtpfafhklppondaaGreatVaultCountsM05
import Derived.Test.YtpfafhklppondaaGreatVaultCountsM01
import Derived.Lib.Bytealg
import Derived.Lib.BytesEntry
set_option maxRecDepth 100000
set_option maxHeartbeats 16000000
namespace Go.Cop
def patB(i k:Nat):Int:=((i:Int)*31+(k:Int)*7+1) % 256
def patL(i n:Nat):List Int:=(List.range n).map (patB i)
theorem patL_len(i n:Nat):(patL i n).length=n:=by simp [patL]
theorem patL_at {i n k:Nat}(h:k<n):(patL i n)[k]? =some (patB i k):=by simp [patL,h]
theorem patL_snoc(i n:Nat):patL i n++ [patB i n]=patL i (n+1):=by simp [patL,List.range_succ]
end Go.Cop
namespace Go.Proofs.YtpfafhklppondaaGreat.Y2
open ChangeShapes WideShapes ChangeAt RowKit Sl Cop Q2
theorem infoRows:(Tryz.prog.info? 35).map (fun i=>(i.zero,i.size,i.bytes))=some (some (.slice none 0 0),1,24):=by kernel_rfl
def rowOf(x:Value × List Int):Pr:=BytesRow x.1 x.2
abbrev patV(i n:Nat):List Value:=(patL i n).map (Value.int .u8)
theorem patV_snoc(i n:Nat):patV i n++ [Value.int .u8 (patB i n)]=patV i (n+1):=by simp only [patV, ← patL_snoc,List.map_append,List.map_cons,List.map_nil]
def grewOf(x:Nat × Value × Nat × Value):Pr:=Grew 5 x.2.1 x.2.2.1 x.2.2.2 (x.2.2.1+20) (patV x.1 (x.2.2.1+20))
theorem apart_any(lv:Value)(M:List (Value × List Int))(hm:M.length≤1000)(hn:∀x∈M,x.2.length≤65536)(F:Pr)(w:World)(hF:Sat ((Row 35 1 lv M.length (M.map (·.1))).star ((big rowOf M).star F)) w):
 Calls Tryz.prog 18 #[lv] w fun e w'=>e= .returned (.bool true)∧Stays w w'∧Sat F w':=by
 obtain⟨la,lc,rfl⟩:=Row.shape hF;have hs0:=hQ (OwnL.in2 hF);have HN:=hQ hn;have hmi:(M.length:Int)≤1000:=by omega
 clear hF hn;go_enter Tryz.func18,Tryz.ntmps18
 go_wp2
 go_loopw [3] (fun i wr=> ∃(j:Nat) (M1:List (Value × List Int)),j≤M.length∧i= .int .i64 j∧Stays w wr∧OwnL [Row 35 1 (.slice la M.length lc) M.length (M.map (·.1)),big rowOf M1,F] wr∧Hid (M1.length=M.length)∧
  Hid (∀t (h:t<M.length),M1[t]? =some (M[t].1,if t<j then patL t M[t].2.length else M[t].2))) (fun i _=>M.length-(intOf i).toNat)
 case atStart=>exact⟨0,M,Nat.zero_le _,rfl,Stays.refl w,hs0.out,hQ rfl,hQ fun t h=>by rw [if_neg (by omega),List.getElem?_eq_getElem h]⟩
 case round=>
  obtain⟨j,M1,hj,rfl,hst,hs,hl1,hv1⟩:=hrel;clear hs0;rcases Nat.lt_or_ge j M.length with hlt | hge
  · have hj1:j<M1.length:=by rw [hl1.out];exact hlt
    have hs2:=hs.take rowOf M1 j hj1
    have ev:M1[j]=(M[j].1,M[j].2):=by
     have:=hv1.out j hlt
     rw [List.getElem?_eq_getElem hj1,if_neg (by omega)] at this;exact Option.some.inj this
    rw [ev] at hs2;obtain⟨a,c,ea⟩:=Row.shape hs2.sat;dsimp only at ea;obtain⟨lb,u,rfl,hu,lcell,_,lz⟩:=Row.at1 (hs2.row (.slice la M.length lc)) j hlt;rw [List.getElem?_map,List.getElem?_eq_getElem hlt] at hu;simp only [Option.map_some,Option.some.injEq] at hu;rw [← hu,ea] at lcell;have hnj:=HN.out M[j] (List.getElem_mem hlt);have HS2:=hQ hs2;have EA:=hQ ea;have HST:=hQ hst
    obtain⟨nj,hnj2⟩:∃nj,nj=M[j].2.length:=⟨_,rfl⟩;rw [← hnj2] at lcell hnj;have HNJ:=hQ hnj2;clear hs hs2 ev ea hu hst hnj2;go_wp2
    go_loopw [4] (fun i wx=> ∃(k:Nat) (Z:List Int),k≤nj∧i= .int .i64 k∧Stays w wx∧Hid (Z.length=nj)∧Hid (∀t,t<k→Z[t]? =(patL j nj)[t]?)∧
     OwnL [rowOf (.slice a nj c,Z),Row 35 1 (.slice (some ⟨lb,0,none⟩) M.length lc) M.length (M.map (·.1)),big rowOf (M1.eraseIdx j),F] wx) (fun i _=>nj-(intOf i).toNat)
    case atStart=>
     refine⟨0,M[j].2,Nat.zero_le _,rfl,HST.out,hQ HNJ.out.symm,hQ fun t h=>absurd h (by omega),?_⟩;have h1:=HS2.out;rw [EA.out, ← HNJ.out] at h1;exact h1.to
    case round=>
     obtain⟨k,Z,hk,rfl,hst,hzl,hzv,hs⟩:=hrel;obtain⟨_,_,e1,hu,lcell2,_,lz2⟩:=Row.at1 (hs.row (.slice (some ⟨lb,0,none⟩) M.length lc)) j hlt;cases e1;rw [List.getElem?_map,List.getElem?_eq_getElem hlt] at hu;simp only [Option.map_some,Option.some.injEq] at hu;rw [← hu,EA.out, ← HNJ.out] at lcell2;clear hu lcell lz;have HST2:=hQ hst;have HS3:=hQ hs;clear hst hs
     rcases Nat.lt_or_ge k nj with hlk | hgk
     · have hz:=HS3.out.sat
       have hz1:Sat ((Row 5 1 (.slice a nj c) nj (Z.map (Value.int .u8))).star (starL [Row 35 1 (.slice (some ⟨lb,0,none⟩) M.length lc) M.length (M.map (·.1)),big rowOf (M1.eraseIdx j),F])) wr:=by
        have:rowOf (.slice a nj c,Z)=Row 5 1 (.slice a nj c) nj (Z.map (Value.int .u8)):=by unfold rowOf BytesRow;dsimp only;rw [hzl.out]
        rw [← this];exact hz
       obtain⟨b,x,rfl,_,c1,f1,z1⟩:=Row.at1 hz1 k hlk;have N1:=hQ (Row.put1 hz1 k (by rw [List.length_map,hzl.out];exact hlk) (.int .u8 (patB j k)));clear hz hz1;have hp:patB j k=((j:Int)*31+(k:Int)*7+1) % 256:=rfl;have HP:=hQ hp;clear hp;go_wp2
       refine⟨⟨k+1,Z.set k (patB j k),by omega,congrArg (Value.int .i64) (by omega),HST2.out.setCell _ _,hQ (by rw [List.length_set];exact hzl.out),hQ ?_,?_⟩,by simp [intOf];omega⟩
       · have h7:(patL j nj)[k]'(by rw [patL_len];exact hlk)=patB j k:=by
          have:=patL_at (i:=j) hlk
          rw [List.getElem?_eq_getElem (by rw [patL_len];exact hlk)] at this;exact Option.some.inj this
         have h8:=full_step (us:=Z) (cs:=patL j nj) (k:=k) (by rw [hzl.out,patL_len]) (by rw [patL_len];exact hlk) hzv.out;rw [h7] at h8;exact h8
       · have h9:=N1.out
         rw [← List.map_set] at h9;have h10:rowOf (.slice (some ⟨b,0,none⟩) nj c,Z.set k (patB j k))=Row 5 1 (.slice (some ⟨b,0,none⟩) nj c) nj ((Z.set k (patB j k)).map (Value.int .u8)):=by unfold rowOf BytesRow;dsimp only;rw [List.length_set,hzl.out]
         rw [← h10] at h9;exact⟨h9⟩
     · have hkk:k=nj:=by omega
       subst hkk;have e2:Z=patL j k:=full_of (by rw [hzl.out,patL_len]) (by intro i hi;rw [patL_len] at hi;exact hzv.out i hi);subst e2;go_wp2;go_roundw
       case rel=>
        refine⟨j+1,M1.set j (.slice a k c,patL j k),by omega,congrArg (Value.int .i64) (by omega),HST2.out,?_,hQ (by rw [List.length_set];exact hl1.out),hQ fun t ht=> ?_⟩
        · have h5:=HS3.out.give rowOf M1 j hj1 (.slice a k c,patL j k)
          exact h5.to
        · by_cases he:t=j
          · subst he
            rw [List.getElem?_set_self hj1,if_pos (by omega),EA.out, ← HNJ.out]
          · rw [List.getElem?_set_ne (fun e=>he e.symm),hv1.out t ht]
            congr 2
            by_cases h6:t<j
            · rw [if_pos h6,if_pos (by omega)]
            · rw [if_neg h6,if_neg (by omega)]
       case measure=>simp [intOf];omega
  · have hjj:j=M.length:=by omega
    subst hjj;have hv2:∀t (h:t<M.length),M1[t]? =some (M[t].1,patL t M[t].2.length):=fun t h=>by rw [hv1.out t h,if_pos h]
    have HV:=hQ hv2;have HL:=hQ hl1.out;clear hv1 hv2 hl1;go_wp2
    go_loopw [5,6] (fun gv i wr=> ∃(j:Nat) (gs:List Value) (D:List (Nat × Value × Nat × Value)),j≤M.length∧i= .int .i64 j∧Stays w wr∧Hid (gs.length=j)∧Hid (D.length=j)∧
     Hid (∀t (h:t<M.length) (h2:t<gs.length),t<j→D[t]? =some (t,M[t].1,M[t].2.length,gs[t]))∧
     OwnL [Row 35 1 gv j gs,Row 35 1 (.slice la M.length lc) M.length (M.map (·.1)),big grewOf D,big rowOf (M1.drop j),F] wr) (fun _ i _=>M.length-(intOf i).toNat)
    case atStart=>
     refine⟨0,[],[],Nat.zero_le _,rfl,hst,hQ rfl,hQ rfl,hQ fun t h h2 h3=>absurd h3 (by omega),?_⟩;have h1:=(hs.nothing grewOf).emp;rw [← Row.nil 35 1, ← List.drop_zero (l:=M1)] at h1;exact h1.to
    case round=>
     clear hst hs;obtain⟨j,gs,D,hj,rfl,hst,hgl,hdl,hdv,hs⟩:=hrel;obtain⟨ga,gc,eg⟩:=Row.shape hs.sat;subst eg;rcases Nat.lt_or_ge j M.length with hlt | hge
     · have hj1:j<M1.length:=by rw [HL.out];exact hlt
       rw [List.drop_eq_getElem_cons hj1] at hs;have hs2:=hs.uncons rowOf M1[j] (M1.drop (j+1))
       have ev:M1[j]=(M[j].1,patL j M[j].2.length):=by
        have:=HV.out j hlt
        rw [List.getElem?_eq_getElem hj1] at this;exact Option.some.inj this
       rw [ev] at hs2;obtain⟨a,c,ea⟩:=Row.shape hs2.sat;dsimp only at ea;rw [patL_len] at ea;obtain⟨lb,u,rfl,hu,lcell,_,lz⟩:=Row.at1 (hs2.row (.slice la M.length lc)) j hlt;rw [List.getElem?_map,List.getElem?_eq_getElem hlt] at hu;simp only [Option.map_some,Option.some.injEq] at hu;rw [← hu,ea] at lcell;have hnj:=HN.out M[j] (List.getElem_mem hlt)
       have e3:rowOf (.slice a M[j].2.length c,patL j M[j].2.length)=Row 5 1 (.slice a M[j].2.length c) M[j].2.length (patV j M[j].2.length):=by unfold rowOf BytesRow;dsimp only;rw [patL_len]
       rw [ea,e3] at hs2;have hg:=OwnL.of1 (Grew.start hs2.sat);have HG:=hQ hg;have EA:=hQ ea;have HST:=hQ hst;obtain⟨nj,hnj2⟩:∃nj,nj=M[j].2.length:=⟨_,rfl⟩;rw [← hnj2] at lcell hnj HG EA;have HNJ:=hQ hnj2;clear hs hs2 ev ea hu hst hnj2 hg;go_wp2
       go_loopw [7,8] (fun g i wx=> ∃(k m:Nat),k≤20∧m=nj+k∧i= .int .i64 k∧Stays w wx∧OwnL [Grew 5 (.slice a nj c) nj g m (patV j m),Row 35 1 (.slice ga j gc) j gs,Row 35 1 (.slice (some ⟨lb,0,none⟩) M.length lc) M.length (M.map (·.1)),big grewOf D,big rowOf (M1.drop (j+1)),F] wx) (fun _ i _=>20-(intOf i).toNat)
       case atStart=>exact⟨0,nj,by omega,rfl,rfl,HST.out,HG.out.to⟩
       case round=>
        clear HG lcell lz;obtain⟨k,m,hk,hmk,rfl,hst,hs⟩:=hrel;obtain⟨_,_,e1,hu,lcell,_,lz⟩:=Row.at1 (hs.row (.slice (some ⟨lb,0,none⟩) M.length lc)) j hlt;cases e1;rw [List.getElem?_map,List.getElem?_eq_getElem hlt] at hu;simp only [Option.map_some,Option.some.injEq] at hu;rw [← hu,EA.out] at lcell;clear hu;obtain⟨_,_,a7,c7,e1,e2,_⟩:=Grew.read hs.sat;cases e1;subst e2;have HST2:=hQ hst
        have HS3:=hQ hs;clear hst hs;rcases Nat.lt_or_ge k 20 with hlk | hgk
        · have hp:(Value.int .u8 (((j:Int)*31+((nj:Int)+(k:Int))*7+1) % 256))= .int .u8 (patB j m):=by unfold patB;rw [show (m:Int)=(nj:Int)+k by omega]
          have HP:=hQ hp;clear hp;obtain⟨i0,hi,hz0,hz1,hz2⟩:=info_parts infoByte;have hs4:=(HS3.out.alloc (.cells #[.int .u8 (((j:Int)*31+((nj:Int)+(k:Int))*7+1) % 256)] 5)).drop;have HS4:=hQ hs4
          have hc:(wr.alloc (.cells #[.int .u8 (((j:Int)*31+((nj:Int)+(k:Int))*7+1) % 256)] 5)).cell? ⟨wr.heap.size,0,none⟩=some (.int .u8 (((j:Int)*31+((nj:Int)+(k:Int))*7+1) % 256)):=cell_of_heap (heap_new wr _) 0;have HC:=hQ hc;clear hc;have HMK:=hQ hmk;have hm2:m≤65556:=by omega
          clear hs4 hmk
          go_wp2_with (at_builtin
                       refine wpList_append_grew rfl _ _ _ rfl 5 i0 (.int .u8 0) 1 Tryz.underlying35 hi hz0 hz1 hz2 rfl _ _ _ _ _ rfl HS4.out.sat ⟨wr.heap.size,0,none⟩ 1 _ rfl HC.out rfl (by simp only [maxLen];omega) (by omega) ?_
                       intro g8 w8 hs8 st8
                       have HS8:=hQ hs8
                       clear hs8 HS4 HC)
          refine⟨⟨k+1,m+1,by omega,by have:=HMK.out;omega,congrArg (Value.int .i64) (by omega),(HST2.out.alloc _).trans st8,?_⟩,by simp [intOf];omega⟩;have h9:=OwnL.of1 HS8.out;rw [HP.out,patV_snoc] at h9;exact h9.to
        · have hkk:k=20:=by omega
          subst hkk hmk;have hs5:=HS3.out;obtain⟨j0,hj0,hy0,hy1,hy2⟩:=info_parts infoRows;have HS6:=hQ ((OwnL.to (M:= [Row 35 1 (.slice ga j gc) j gs,Grew 5 (.slice a nj c) nj (.slice a7 (nj+20) c7) (nj+20) (patV j (nj+20)),Row 35 1 (.slice (some ⟨lb,0,none⟩) M.length lc) M.length (M.map (·.1)),big grewOf D,big rowOf (M1.drop (j+1)),F]) hs5).alloc (.cells [.slice a7 (nj+20) c7].toArray 35)).drop
          have HC:=hQ (fresh_cells wr [.slice a7 (nj+20) c7] 35);clear hs5
          go_wp2_with (at_builtin
                       refine wpList_append_sl rfl _ _ _ rfl 35 j0 (.slice none 0 0) 1 24 Tryz.underlying54 hj0 hy0 hy1 hy2 rfl _ _ _ rfl HS6.out.sat ⟨wr.heap.size,0,none⟩ 1 1 [.slice a7 (nj+20) c7] rfl rfl HC.out (by simp [Value.oneCell']) (by simp only [maxLen];omega) (by omega) ?_
                       intro v8 w8 hs8 hg8 _
                       obtain⟨a8,c8,e8,_,_⟩:=Row.read hs8
                       subst e8
                       have HS8:=hQ hs8
                       have HG8:=hQ ((HST2.out.alloc _).of_grown hg8)
                       clear hs8 hg8 HS6 HC)
          go_roundw
          case rel=>
           refine⟨j+1,gs++ [.slice a7 (nj+20) c7],D++ [(j,.slice a nj c,nj,.slice a7 (nj+20) c7)],by omega,congrArg (Value.int .i64) (by omega),HG8.out,hQ (by simp [hgl.out]),hQ (by simp [hdl.out]),hQ fun t h h2 h3=> ?_,?_⟩
           · by_cases he:t=j
             · subst he
               rw [List.getElem?_append_right (by rw [hdl.out];exact Nat.le_refl _),hdl.out,List.getElem_append_right (by rw [hgl.out];exact Nat.le_refl _)];simp [EA.out, ← HNJ.out]
             · rw [List.getElem?_append_left (by rw [hdl.out];omega),List.getElem_append_left (by rw [hgl.out];omega)]
               exact hdv.out t h _ (by omega)
           · have h0:OwnL [Row 35 1 (.slice a8 (j+1) c8) (j+1) (gs++ [.slice a7 (nj+20) c7]),grewOf (j,.slice a nj c,nj,.slice a7 (nj+20) c7),Row 35 1 (.slice (some ⟨lb,0,none⟩) M.length lc) M.length (M.map (·.1)),big grewOf D,big rowOf (M1.drop (j+1)),F] w8:=⟨HS8.out⟩
             have h1:=h0.snoc grewOf D (j,.slice a nj c,nj,.slice a7 (nj+20) c7);exact h1.to
          case measure=>simp [intOf];omega
     · have hjj:j=M.length:=by omega
       subst hjj;rw [List.drop_of_length_le (by rw [HL.out];exact Nat.le_refl _)] at hs;have HS3:=hQ hs;have HST3:=hQ hst;clear hs hst;go_wp2;go_loopw [9] (fun i wx=> ∃j:Nat,j≤M.length∧i= .int .i64 j∧wx=wr) (fun i _=>M.length-(intOf i).toNat)
       case atStart=>exact⟨0,Nat.zero_le _,rfl,rfl⟩
       case round=>
        obtain⟨j,hj,rfl,rfl⟩:=hrel;rcases Nat.lt_or_ge j M.length with hlt | hge
        · have hs:=HS3.out
          obtain⟨lb,u,rfl,hu,lcell,_,lz⟩:=Row.at1 (hs.row (.slice la M.length lc)) j hlt;rw [List.getElem?_map,List.getElem?_eq_getElem hlt] at hu;simp only [Option.map_some,Option.some.injEq] at hu;obtain⟨gb,u2,rfl,hu2,gcell,_,gz⟩:=Row.at1 (hs.row (.slice ga M.length gc)) j hlt;have hjg:j<gs.length:=by rw [hgl.out];exact hlt
          have hjd:j<D.length:=by rw [hdl.out];exact hlt
          rw [List.getElem?_eq_getElem hjg] at hu2;simp only [Option.some.injEq] at hu2
          have ed:D[j]=(j,M[j].1,M[j].2.length,gs[j]):=by
           have:=hdv.out j hlt hjg hlt
           rw [List.getElem?_eq_getElem hjd] at this;exact Option.some.inj this
          have h1:=hs.take grewOf D j hjd;rw [ed] at h1;have h2:Sat ((Grew 5 M[j].1 M[j].2.length gs[j] (M[j].2.length+20) (patV j (M[j].2.length+20))).star _) _:=h1.sat;obtain⟨va,vc,gga,ggc,e1,e2,_,hyl,r1,r2⟩:=Grew.read h2;rw [← hu,e1] at lcell;rw [← hu2,e2] at gcell;have hnj:=HN.out M[j] (List.getElem_mem hlt);generalize M[j].2.length=nj at*;have R1:=hQ r1;have R2:=hQ r2
          clear hs h1 h2 ed hu hu2 e1 e2 hyl r1 r2;go_wp2;go_loopw [10] (fun i wx=> ∃k:Nat,k≤nj+20∧i= .int .i64 k∧wx=wr) (fun i _=>nj+20-(intOf i).toNat)
          case atStart=>exact⟨0,by omega,rfl,rfl⟩
          case round=>
           obtain⟨k,hk,rfl,rfl⟩:=hrel;rcases Nat.lt_or_ge k (nj+20) with hlk | hgk
           · obtain⟨b2,rfl,c2⟩:=R2.out k hlk
             rw [List.getElem?_map,patL_at hlk] at c2;have c3:wr.cell? ⟨b2,k,none⟩=some (.int .u8 (((j:Int)*31+(k:Int)*7+1) % 256)):=c2;have z2:=World.block_lt_of_cell? _ _ c3;clear c2;by_cases hv:k<nj
             · obtain⟨b1,rfl,c1⟩:=R1.out k hv
               rw [List.getElem?_map,patL_at hlk] at c1;have c4:wr.cell? ⟨b1,k,none⟩=some (.int .u8 (((j:Int)*31+(k:Int)*7+1) % 256)):=c1;have z1:=World.block_lt_of_cell? _ _ c4;clear c1;go_wp2;exact⟨⟨k+1,by omega,congrArg (Value.int .i64) (by omega),trivial⟩,by simp [intOf];omega⟩
             · go_wp2
               exact⟨⟨k+1,by omega,congrArg (Value.int .i64) (by omega),trivial⟩,by simp [intOf];omega⟩
           · have hkk:k=nj+20:=by omega
             subst hkk;go_wp2;go_roundw
             case rel=>exact⟨j+1,by omega,congrArg (Value.int .i64) (by omega),trivial⟩
             case measure=>simp [intOf];omega
        · have hjj:j=M.length:=by omega
          subst hjj;go_wp2;go_ret;exact⟨rfl,HST3.out,(HS3.out.end1 (A1:=F))⟩
end Go.Proofs.YtpfafhklppondaaGreat.Y2
namespace Go.Proofs.YtpfafhklppondaaGreat.Z2
open ChangeShapes WideShapes ChangeAt RowKit Sl Cop
theorem wpList_min {ops:Array Oper}{rest:List Oper}{o:Oper}{ac:Act}{Q:Exit→Act→World→Prop}{w:World}(hgd:o.guard=none)(x y:Operand)(hop:o.op= .call { callee:= .builtin .min,args:= #[x,y],argTypes:= #[3,3] })
 (hty:o.type=3) (a b n:Int) (hn:n=min a b) (hx:ac.eval x= .int .i64 a) (hy:ac.eval y= .int .i64 b) (hK:wpList Tryz.prog ops Q rest (ac.put o.dst (.int .i64 n)) w):wpList Tryz.prog ops Q (o :: rest) ac w:=by
 refine wpList_plain hgd fun K' hK'=> ?_
 subst hn;unfold Oper.wp execOp;simp only [hop,resolve,invoke,builtin,Sem.run_bind,Sem.run_pure,Result.andThen_ok,List.map_toArray,List.map_cons,List.map_nil,hx,hy,hty];by_cases h:b<a
 · have e:min a b=b:=by omega
   rw [e] at hK;go_simp;exact hK' _ _ hK
 · have e:min a b=a:=by omega
   rw [e] at hK;go_simp;exact hK' _ _ hK
theorem slice_to(T e:TypeId)(hu:Tryz.prog.underlying T=some (.slice e))(k:Nat)(hz:∀w:World,(Go.sizeOf e).run Tryz.prog w= .ok k w)(a:Option Addr)(len cap n:Nat)(hn:n≤cap)(w:World):(Instr.sliceAt T (.slice a len cap) none (some (.int .i64 (n:Int))) none).run Tryz.prog w= .ok (.slice a n cap) w:=by
 have h0:(0:Int)≤(n:Int):=by omega
 have h1:(n:Int)≤(cap:Int):=by omega
 cases a with
 | none=>go_simp
 | some x=>
   by_cases hc:cap=0
   · subst hc
     obtain rfl:n=0:=by omega
     go_simp
   · go_simp
theorem wpList_slice_to {ops:Array Oper}{rest:List Oper}{o:Oper}{ac:Act}{Q:Exit→Act→World→Prop}{w:World}(hgd:o.guard=none)(T e:TypeId)(x h:Operand)(hop:o.op=Op.slice T x none (some h) none)(hu:Tryz.prog.underlying T=some (.slice e))(k:Nat)(hz:∀w:World,(Go.sizeOf e).run Tryz.prog w= .ok k w)(a:Option Addr)(len cap n:Nat)(hn:n≤cap)
 (hx:ac.eval x= .slice a len cap) (hh:ac.eval h= .int .i64 (n:Int)) (hK:wpList Tryz.prog ops Q rest (ac.put o.dst (.slice a n cap)) w):wpList Tryz.prog ops Q (o :: rest) ac w:=by
 refine wpList_plain hgd fun K' hK'=> ?_
 have hr:=slice_to T e hu k hz a len cap n hn w;unfold Oper.wp;simp [execOp,hop,hx,hh,hr,Result.andThen]
 exact hK' _ _ hK
end Go.Proofs.YtpfafhklppondaaGreat.Z2
namespace Go.Proofs.YtpfafhklppondaaGreat.D3
open ChangeShapes WideShapes ChangeAt RowKit Sl Cop Q2 X2
theorem bytes_rd {h:Hp}{v:Value}{V:List Int}(hb:Bytes h v V):∃a c,v= .slice a V.length c∧∀i,i<V.length→∃b off,a=some ⟨b,off,none⟩∧∀w,h.le w→w.cell? ⟨b,off+i,none⟩=some (.int .u8 (V.getD i 0)):=by
 obtain⟨hl,a,c,e,_,_,hc⟩:=hb;refine⟨a,c,e,fun i hi=> ?_⟩;obtain⟨b,off,e1,e2⟩:=hc (by omega);refine⟨b,off,e1,fun w hw=> ?_⟩;refine Hp.cell_le hw ((e2 i (by omega)).trans ?_);simp [hi]
theorem compare_same(ha hb:Hp)(va vb:Value)(V:List Int)(h1:Bytes ha va V)(h2:Bytes hb vb V)(hn:V.length≤9000000000000000000)(w:World)(l1:ha.le w)(l2:hb.le w):
 Calls Tryz.prog 63 #[va,vb] w fun e w'=>e= .returned (.int .i64 0)∧Only w w':=by
 obtain⟨a,c,rfl,r1⟩:=bytes_rd h1;obtain⟨a',c',rfl,r2⟩:=bytes_rd h2;have R1:=hQ r1;have R2:=hQ r2;have L1:=hQ l1;have L2:=hQ l2;clear r1 r2 h1 h2 l1 l2;go_enter Tryz.func63,Tryz.ntmps63
 go_wp2;go_loopw [5] (fun i wr=> ∃k:Nat,k≤V.length∧i= .int .i64 k∧Only w wr) (fun i _=>V.length-(intOf i).toNat)
 case atStart=>exact⟨0,Nat.zero_le _,rfl,Only.refl w⟩
 case round=>
  obtain⟨k,hk,rfl,ho⟩:=hrel;rcases Nat.lt_or_ge k V.length with hlt | hge
  · obtain⟨b,off,rfl,c1⟩:=R1.out k hlt
    obtain⟨b',off',rfl,c2⟩:=R2.out k hlt;have q1:=c1 wr (fun k o e=>(ho.heap k (Array.getElem?_eq_some_iff.1 (L1.out k o e)).1).trans (L1.out k o e));have q2:=c2 wr (fun k o e=>(ho.heap k (Array.getElem?_eq_some_iff.1 (L2.out k o e)).1).trans (L2.out k o e));have HO:=hQ ho;clear c1 c2 ho;generalize V.getD k 0=x at*;go_wp2;go_region
    go_wp2;go_region
    go_wp2;go_roundw
    case rel=>exact⟨k+1,by omega,by go_num,HO.out.drew.drew⟩
    case measure=>simp [intOf];omega
  · have hkl:k=V.length:=by omega
    subst hkl;go_wp2;go_ret;exact⟨rfl,ho⟩
theorem eq_same(ha hb:Hp)(va vb:Value)(V:List Int)(h1:Bytes ha va V)(h2:Bytes hb vb V)(hn:V.length≤9000000000000000000)(w:World)(l1:ha.le w)(l2:hb.le w):
 Calls Tryz.prog 17 #[va,vb] w fun e w'=>e= .returned (.bool true)∧Only w w':=by
 have C:=hQ (compare_same ha hb va vb V h1 h2 hn w l1 l2);clear h1 h2 l1 l2;go_enter Tryz.func17,Tryz.ntmps17
 go_wp2_with fail
 refine C.out.mono ?_;rintro e w' ⟨rfl,ho⟩;go_wp2;go_ret;exact⟨rfl,ho⟩
end Go.Proofs.YtpfafhklppondaaGreat.D3
namespace Go.Cop
def cmpI:List Int→List Int→Int
 | [],[]=>0
 | [],_ :: _=> -1
 | _ :: _,[]=>1
 | x :: a,y :: b=>if x<y then -1 else if y<x then 1 else cmpI a b
def U8(l:List Int):Prop:= ∀z∈l,0≤z∧z≤255
theorem u8_lt {x y:Int}(hx:0≤x∧x≤255)(hy:0≤y∧y≤255):(x.toNat.toUInt8<y.toNat.toUInt8)↔x<y:=by
 rw [UInt8.lt_iff_toNat_lt];have e1:x.toNat.toUInt8.toNat=x.toNat:=by simp;omega
 have e2:y.toNat.toUInt8.toNat=y.toNat:=by simp;omega
 rw [e1,e2];omega
theorem cmp_map:∀ {a b:List Int},U8 a→U8 b→Lib.compareBytes (a.map fun z=>z.toNat.toUInt8) (b.map fun z=>z.toNat.toUInt8)=cmpI a b
 | [],[],_,_=>rfl
 | [],_ :: _,_,_=>rfl
 | _ :: _,[],_,_=>rfl
 | x :: a,y :: b,ha,hb=>by
   have ih:=cmp_map (a:=a) (b:=b) (fun z hz=>ha z (by simp [hz])) (fun z hz=>hb z (by simp [hz]));have hx:=ha x (by simp);have hy:=hb y (by simp);simp only [List.map_cons,Lib.compareBytes,cmpI,u8_lt hx hy,u8_lt hy hx,ih]
theorem cmp_step {A B:List Int}{k:Nat}(ha:k<A.length)(hb:k<B.length)(h:cmpI A B=cmpI (A.drop k) (B.drop k)):
 cmpI A B=if A.getD k 0<B.getD k 0 then -1 else if B.getD k 0<A.getD k 0 then 1 else cmpI (A.drop (k+1)) (B.drop (k+1)):=by
 rw [h,List.drop_eq_getElem_cons ha,List.drop_eq_getElem_cons hb];simp [cmpI,ha,hb]
theorem cmp_end {A B:List Int}{k:Nat}(hk:k≤A.length∧k≤B.length)(he:k=A.length∨k=B.length)(h:cmpI A B=cmpI (A.drop k) (B.drop k)):
 cmpI A B=if A.length<B.length then -1 else if B.length<A.length then 1 else 0:=by
 rw [h];rcases he with rfl | rfl
 · rw [List.drop_length]
   by_cases h1:A.length<B.length
   · rw [if_pos h1,List.drop_eq_getElem_cons h1];rfl
   · rw [if_neg h1,if_neg (by omega),List.drop_of_length_le (by omega)];rfl
 · rw [List.drop_length]
   by_cases h1:B.length<A.length
   · rw [if_neg (by omega),if_pos h1,List.drop_eq_getElem_cons h1];rfl
   · rw [if_neg (by omega),if_neg h1,List.drop_of_length_le (by omega)];rfl
end Go.Cop
namespace Go.Proofs.YtpfafhklppondaaGreat.F3
open ChangeShapes WideShapes ChangeAt RowKit Sl Cop Q2 X2 D3
theorem compare_any(ha hb:Hp)(va vb:Value)(A B:List Int)(h1:Bytes ha va A)(h2:Bytes hb vb B)(hn:A.length≤9000000000000000000)(w:World)(l1:ha.le w)(l2:hb.le w):
 Calls Tryz.prog 63 #[va,vb] w fun e w'=>e= .returned (.int .i64 (cmpI A B))∧Only w w':=by
 obtain⟨a,c,rfl,r1⟩:=bytes_rd h1;obtain⟨a',c',rfl,r2⟩:=bytes_rd h2;have R1:=hQ r1;have R2:=hQ r2;have L1:=hQ l1;have L2:=hQ l2;clear r1 r2 h1 h2 l1 l2;go_enter Tryz.func63,Tryz.ntmps63
 go_wp2;go_loopw [5] (fun i wr=> ∃k:Nat,k≤A.length∧k≤B.length∧i= .int .i64 k∧Only w wr∧Hid (cmpI A B=cmpI (A.drop k) (B.drop k))) (fun i _=>A.length-(intOf i).toNat)
 case atStart=>exact⟨0,Nat.zero_le _,Nat.zero_le _,rfl,Only.refl w,hQ rfl⟩
 case round=>
  obtain⟨k,hk,hk2,rfl,ho,hc⟩:=hrel;by_cases hlt:k<A.length∧k<B.length
  · obtain⟨hlt1,hlt2⟩:=hlt
    obtain⟨b,off,rfl,c1⟩:=R1.out k hlt1;obtain⟨b',off',rfl,c2⟩:=R2.out k hlt2;have q1:=c1 wr (fun k o e=>(ho.heap k (Array.getElem?_eq_some_iff.1 (L1.out k o e)).1).trans (L1.out k o e));have q2:=c2 wr (fun k o e=>(ho.heap k (Array.getElem?_eq_some_iff.1 (L2.out k o e)).1).trans (L2.out k o e));have HO:=hQ ho;have HC:=hQ (cmp_step hlt1 hlt2 hc.out);clear c1 c2 ho hc;generalize A.getD k 0=x at*
    generalize B.getD k 0=y at*;by_cases hxy:x<y
    · go_wp2
      go_region
      go_wp2;go_ret;have:=HC.out
      rw [if_pos hxy] at this;rw [this];exact⟨rfl,HO.out.drew⟩
    · by_cases hyx:y<x
      · go_wp2
        go_region
        go_wp2;go_region
        go_wp2;go_ret;have:=HC.out
        rw [if_neg (by omega),if_pos hyx] at this;rw [this];exact⟨rfl,HO.out.drew.drew⟩
      · go_wp2
        go_region
        go_wp2;go_region
        go_wp2;go_roundw
        case rel=>
         have:=HC.out
         rw [if_neg (by omega),if_neg (by omega)] at this;exact⟨k+1,by omega,by omega,congrArg (Value.int .i64) (by omega),HO.out.drew.drew,hQ this⟩
        case measure=>simp [intOf];omega
  · have HC:=hQ (cmp_end ⟨hk,hk2⟩ (by omega) hc.out)
    clear hc;have hlt2:¬(k<A.length∧k<B.length):=hlt;rcases Nat.lt_trichotomy A.length B.length with h | h | h
    · have hkA:k=A.length:=by omega
      subst hkA;go_wp2;go_ret;have:=HC.out
      rw [if_pos h] at this;rw [this];exact⟨rfl,ho⟩
    · have hkA:k=A.length:=by omega
      subst hkA;have hE:=HC.out;rw [if_neg (by omega),if_neg (by omega)] at hE;rw [hE];have h9:=hQ h;have hd1:¬((A.length:Int)<(B.length:Int)):=by omega
      have hd2:¬((B.length:Int)<(A.length:Int)):=by omega
      clear h;go_wp2;go_ret;exact⟨rfl,ho⟩
    · have hkA:k=B.length:=by omega
      subst hkA;go_wp2;go_ret;have:=HC.out
      rw [if_neg (by omega),if_pos h] at this;rw [this];exact⟨rfl,ho⟩
theorem run_bytesOf_slice(h:Hp)(v:Value)(l:List Int)(hx:Bytes h v l)(w:World)(hl:h.le w):
 ∃b:ByteArray,(Extern.Bytes.bytesOf v).run Tryz.prog w= .ok b w∧b.data.toList=l.map fun z=>z.toNat.toUInt8:=by
 obtain⟨a,c,rfl,r⟩:=bytes_rd hx;cases a with
 | none=>
   have:l= []:=by
    rcases Nat.eq_zero_or_pos l.length with h0 | h0
    · exact List.eq_nil_of_length_eq_zero h0
    · obtain⟨b,off,e,_⟩:=r 0 h0;cases e
   subst this;exact⟨.empty,rfl,rfl⟩
 | some ad=>
   refine⟨⟨ByteArray.empty.data++(Lib.bytesOf l).toArray⟩,Lib.run_loadBytesX (P:=Tryz.prog) w l ad .empty (fun j x hj=> ?_),?_⟩
   · have hjl:j<l.length:=(List.getElem?_eq_some_iff.1 hj).1
     obtain⟨b,off,e,hc⟩:=r j hjl;cases e;have e:(⟨b,off,none⟩:Addr).add j=⟨b,off+j,none⟩:=by unfold Addr.add;split<;>simp_all
     rw [e,hc w hl,List.getD_eq_getElem?_getD,hj];rfl
   · simp [Lib.bytesOf,ByteArray.empty,ByteArray.emptyWithCapacity]
     rfl
theorem run_compareSlices(ha hb:Hp)(va vb:Value)(A B:List Int)(h1:Bytes ha va A)(h2:Bytes hb vb B)(u1:U8 A)(u2:U8 B)(w:World)(l1:ha.le w)(l2:hb.le w):
 (Extern.BytealgCompare.compare #[va,vb]).run Tryz.prog w= .ok (.int .i64 (cmpI A B)) w:=by
 obtain⟨x,hx,ex⟩:=run_bytesOf_slice ha va A h1 w l1;obtain⟨y,hy,ey⟩:=run_bytesOf_slice hb vb B h2 w l2;change Sem.run Tryz.prog (do pure (goInt (Extern.BytealgCompare.cmp (← Extern.Bytes.bytesOf va) (← Extern.Bytes.bytesOf vb)))) w=_
 simp only [Sem.run_bind,Sem.run_pure,hx,hy,Result.andThen];rw [Lib.cmp_eq,ex,ey,cmp_map u1 u2];rfl
theorem bcompare_any(ha hb:Hp)(va vb:Value)(A B:List Int)(h1:Bytes ha va A)(h2:Bytes hb vb B)(u1:U8 A)(u2:U8 B)(w:World)(l1:ha.le w)(l2:hb.le w):
 Calls Tryz.prog 127 #[va,vb] w fun e w'=>e= .returned (.int .i64 (cmpI A B))∧w=w':=by
 have hr:=run_compareSlices ha hb va vb A B h1 h2 u1 u2 w l1 l2;obtain⟨a,c,rfl,_⟩:=bytes_rd h1;obtain⟨a',c',rfl,_⟩:=bytes_rd h2;have HR:=hQ hr;clear h1 h2 u1 u2 l1 l2 hr;go_enter Tryz.func127,Tryz.ntmps127
 go_wp2;rw [run_callFunc_extern Tryz.func156 (by kernel_rfl) (by kernel_rfl) (by kernel_rfl) (e:=Extern.BytealgCompare.compare) (by kernel_rfl),HR.out];simp only [Result.andThen];rw [Oper.upon_value];go_wp2;go_ret;exact⟨rfl,rfl⟩
end Go.Proofs.YtpfafhklppondaaGreat.F3
namespace Go.Cop
def isPg(n:Int):Bool:=decide (1≤n∧n≤65536)
def formP(k l:Int)(n d:Nat)(nx:Int):Bool:=
 if k=1 then decide (d=0∧nx=0∧l=0∧1≤n∧n≤8)
 else if k=2 then decide (d=0∧nx=0∧1≤l∧l<12∧2≤n∧n≤8)
 else decide (l=0∧n=0∧1≤d∧d≤480)
def mustP(f:Int)(b:Bool)(e:Int):Int:=if b then f else if f=0 then e else f
end Go.Cop
namespace Go.Proofs.YtpfafhklppondaaGreat.G3
open ChangeShapes WideShapes ChangeAt RowKit Sl Cop Q2 X2 D3 F3
theorem risPage_any(n:Int)(w:World):Calls Tryz.prog 135 #[.int .i64 n] w fun e w'=>e= .returned (.bool (isPg n))∧w=w':=by
 unfold isPg;by_cases h1:1≤n
 · by_cases h2:n≤65536
   · go_enter Tryz.func135,Tryz.ntmps135
     go_wp2;go_ret;simp [h1,h2]
   · go_enter Tryz.func135,Tryz.ntmps135
     go_wp2;go_ret;simp [h2]
 · go_enter Tryz.func135,Tryz.ntmps135
   go_wp2;go_ret;simp;omega
theorem must_any(f x:Int)(h:Bool)(b:Nat)(F:Pr)(w:World)(hF:Sat ((Pr.pts b (.cells #[.int .i64 f] 25)).star F) w):
 Calls Tryz.prog 125 #[.bool h,.int .i64 x,.pointer (some ⟨b,0,none⟩)] w fun e w'=>e= .returned (.tuple #[])∧Sat ((Pr.pts b (.cells #[.int .i64 (mustP f h x)] 25)).star F) w'∧Stays w w':=by
 have q:=hF.pts_heap;have q0:w.cell? ⟨b,0,none⟩=some (.int .i64 f):=by rw [cell_of_heap q];rfl
 have z0:=frozen_of_heap q 0;have HF:=hQ hF;clear hF q;cases h with
 | true=>
   go_enter Tryz.func125,Tryz.ntmps125
   go_wp2;first | refine bodyPost_ret (results_none rfl _ _ _) rfl ?_ | go_end0
   exact⟨rfl,HF.out,Stays.refl w⟩
 | false=>
   by_cases h0:f=0
   · subst h0
     go_enter Tryz.func125,Tryz.ntmps125
     go_wp2;first | refine bodyPost_ret (results_none rfl _ _ _) rfl ?_ | go_end0
     exact⟨rfl,HF.out.setCell (i:=0) (.int .i64 x),(Stays.refl w).setCell _ _⟩
   · have hb:(f == 0)=false:=by rw [beq_eq_false_iff_ne];exact h0
     go_enter Tryz.func125,Tryz.ntmps125
     go_wp2;first | refine bodyPost_ret (results_none rfl _ _ _) rfl ?_ | go_end0
     have e:mustP f false x=f:=by unfold mustP;rw [if_neg (by simp),if_neg h0]
     rw [e];exact⟨rfl,HF.out,Stays.refl w⟩
theorem form_any(ai ad:Option Addr)(n ci d cd:Nat)(k l nx:Int)(w:World):
 Calls Tryz.prog 126 #[pageV k l (.slice ai n ci) (.slice ad d cd) nx] w fun e w'=>e= .returned (.bool (formP k l n d nx))∧Only w w':=by
 have fin:∀(b:Bool),b=formP k l n d nx→Ending.returned (Value.bool b)=Ending.returned (Value.bool (formP k l n d nx)):=fun b e=>by rw [e]
 have hk:(k=1∨k=2)∨(k≠1∧k≠2):=by omega
 rcases Nat.eq_zero_or_pos d with hd | hd
 · subst hd
   rcases hk with(rfl | rfl) | ⟨h1,h2⟩
   · go_enter Tryz.func126,Tryz.ntmps126
     go_wp2;go_region
     go_wp2;all_goals (go_ret;refine⟨fin _ ?_,((Only.refl w).alloc _).drew⟩;rw [Bool.eq_iff_iff];simp [formP];try omega)
   · go_enter Tryz.func126,Tryz.ntmps126
     go_wp2;go_region
     go_wp2;all_goals (go_ret;refine⟨fin _ ?_,((Only.refl w).alloc _).drew⟩;rw [Bool.eq_iff_iff];simp [formP];try omega)
   · have e1:(k == 1)=false:=by rw [beq_eq_false_iff_ne];exact h1
     have e2:(k == 2)=false:=by rw [beq_eq_false_iff_ne];exact h2
     go_enter Tryz.func126,Tryz.ntmps126
     go_wp2;go_region
     go_wp2;all_goals (go_ret;refine⟨fin _ ?_,((Only.refl w).alloc _).drew⟩;rw [Bool.eq_iff_iff];simp [formP,h1,h2];try omega)
 · have h0:((d:Int) == 0)=false:=by rw [beq_eq_false_iff_ne];omega
   rcases hk with(rfl | rfl) | ⟨h1,h2⟩
   · go_enter Tryz.func126,Tryz.ntmps126
     go_wp2;go_region
     go_wp2;all_goals (go_ret;refine⟨fin _ ?_,((Only.refl w).alloc _).drew⟩;rw [Bool.eq_iff_iff];simp [formP];try omega)
   · go_enter Tryz.func126,Tryz.ntmps126
     go_wp2;go_region
     go_wp2;all_goals (go_ret;refine⟨fin _ ?_,((Only.refl w).alloc _).drew⟩;rw [Bool.eq_iff_iff];simp [formP];try omega)
   · have e1:(k == 1)=false:=by rw [beq_eq_false_iff_ne];exact h1
     have e2:(k == 2)=false:=by rw [beq_eq_false_iff_ne];exact h2
     go_enter Tryz.func126,Tryz.ntmps126
     go_wp2;go_region
     go_wp2;all_goals (go_ret;refine⟨fin _ ?_,((Only.refl w).alloc _).drew⟩;rw [Bool.eq_iff_iff];simp [formP,h1,h2];try omega)
theorem rform_any(ai ad:Option Addr)(n ci d cd:Nat)(k l nx:Int)(hk:k=1∨k=2∨k=3)(w:World):
 Calls Tryz.prog 131 #[pageV k l (.slice ai n ci) (.slice ad d cd) nx] w fun e w'=>e= .returned (.bool (formP k l n d nx))∧Only w w':=by
 have fin:∀(b:Bool),b=formP k l n d nx→Ending.returned (Value.bool b)=Ending.returned (Value.bool (formP k l n d nx)):=fun b e=>by rw [e]
 rcases hk with rfl | rfl | rfl
 · go_enter Tryz.func131,Tryz.ntmps131
   go_wp2;all_goals (go_ret;refine⟨fin _ ?_,((Only.refl w).alloc _)⟩;rw [Bool.eq_iff_iff];simp [formP];try omega)
 · go_enter Tryz.func131,Tryz.ntmps131
   go_wp2;all_goals (go_ret;refine⟨fin _ ?_,((Only.refl w).alloc _)⟩;rw [Bool.eq_iff_iff];simp [formP];try omega)
 · go_enter Tryz.func131,Tryz.ntmps131
   go_wp2;all_goals (go_ret;refine⟨fin _ ?_,((Only.refl w).alloc _)⟩;rw [Bool.eq_iff_iff];simp [formP];try omega)
end Go.Proofs.YtpfafhklppondaaGreat.G3
