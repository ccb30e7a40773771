/- The law's calls of chapter 11 as an argument: opened, and read one by one. Plain lemmas. -/
import Derived.Test.YtpfafhklppondaaGreatVaultCountsM17
set_option maxRecDepth 100000
set_option maxHeartbeats 16000000
namespace Go.Cop
structure OpP where
 kind:Int
 n:Int
 k:Int
 g:PageV
end Go.Cop
namespace Go.Proofs.YtpfafhklppondaaGreat.S6
open ChangeShapes WideShapes ChangeAt RowKit Sl Cop Deep Q2 X2 X5 Y5 J4 K6 P4 G5 P6
theorem cells_op11:Tryz.prog.cellsOf 39=8:=by kernel_rfl
def i64P(z:Int):Prop:= -9223372036854775808≤z∧z≤9223372036854775807
def opPCells(o:OpP)(v:Value × Value):List Value:= [.int .i64 o.kind,.int .i64 o.n,.int .i64 o.k,.int .i64 o.g.kind,.int .i64 o.g.level,v.1,v.2,.int .i64 o.g.next]
def OpPB(h:Hp)(o:OpP)(v:Value × Value):Prop:=ItemsIn h v.1 o.g.items∧Bytes h v.2 o.g.data
def OpsP(h:Hp)(v:Value)(l:List OpP):Prop:=
 ∃xs:List (Value × Value),xs.length=l.length∧RowIn h 8 v l.length ((xs.zip l).flatMap fun y=>opPCells y.2 y.1)∧∀i (hx:i<xs.length) (hl:i<l.length),OpPB h l[i] xs[i]
theorem opsP_rd {h:Hp}{v:Value}{l:List OpP}(hi:OpsP h v l):∃a c,v= .slice a l.length c∧l.length≤c∧c≤maxLen∧∀i (hl:i<l.length),∃b off ai ad ci cd,a=some ⟨b,off,none⟩∧
 OpPB h l[i] (.slice ai l[i].g.items.length ci,.slice ad l[i].g.data.length cd)∧
 ∀w,h.le w→w.cell? ⟨b,off+i*8,none⟩=some (.int .i64 l[i].kind)∧w.cell? ⟨b,off+i*8+1,none⟩=some (.int .i64 l[i].n)∧
  w.cell? ⟨b,off+i*8+2,none⟩=some (.int .i64 l[i].k)∧w.cell? ⟨b,off+i*8+3,none⟩=some (.int .i64 l[i].g.kind)∧
  w.cell? ⟨b,off+i*8+4,none⟩=some (.int .i64 l[i].g.level)∧w.cell? ⟨b,off+i*8+5,none⟩=some (.slice ai l[i].g.items.length ci)∧
  w.cell? ⟨b,off+i*8+6,none⟩=some (.slice ad l[i].g.data.length cd)∧w.cell? ⟨b,off+i*8+7,none⟩=some (.int .i64 l[i].g.next):=by
 obtain⟨xs,hxl,⟨hlen,a,c,e,hnc,hcm,hc⟩,hb⟩:=hi;refine⟨a,c,e,hnc,hcm,fun i hl=> ?_⟩;obtain⟨b,off,ea,hcell⟩:=hc (by omega);have hxi:i<xs.length:=by omega
 obtain⟨h1,h2⟩:=hb i hxi hl;obtain⟨ai,ci,e1, -, -⟩:=items_rd h1;obtain⟨ad,cd,e2⟩:=bytes_shape h2;have hz:i<(xs.zip l).length:=by simp;omega
 have ez:(xs.zip l)[i]=(xs[i],l[i]):=by simp
 refine⟨b,off,ai,ad,ci,cd,ea,⟨e1 ▸ h1,e2 ▸ h2⟩,fun w hw=> ?_⟩
 have at':∀j,j<8→∀v,(opPCells l[i] xs[i])[j]? =some v→w.cell? ⟨b,off+i*8+j,none⟩=some v:=by
  intro j hj v hv;have h3:=hcell (i*8+j) (by omega);have h4:=flat_at (fun y:(Value × Value) × OpP=>opPCells y.2 y.1) 8 (fun _=>rfl) (xs.zip l) i j hz hj;rw [ez,hv] at h4;rw [Nat.add_assoc];exact Hp.cell_le hw (h3.trans h4)
 have k5:=at' 5 (by omega) _ rfl;have k6:=at' 6 (by omega) _ rfl;rw [e1] at k5;rw [e2] at k6;exact⟨at' 0 (by omega) _ rfl,at' 1 (by omega) _ rfl,at' 2 (by omega) _ rfl,at' 3 (by omega) _ rfl,at' 4 (by omega) _ rfl,k5,k6,at' 7 (by omega) _ rfl⟩
section
variable {H:Type}{enc:TypeId × Value→H}
instance:Inhabited OpP:=⟨⟨0,0,0,default⟩⟩
def OpPI(o:OpP):Prop:=(i64P o.kind∧i64P o.n∧i64P o.k)∧PageFits o.g
theorem opP_of {W:World}{base n:Nat}{cs:List Value}{x:DataW H × List MemPlace}(h:DataW.trod enc Tryz.prog W base (fun _=>true) true n 39 cs=some x):
 ∃(o:OpP) (v:Value × Value),cs=opPCells o v∧OpPB (heapOf W) o v∧OpPI o∧(Small x.1 39→PageSized o.g):=by
 obtain⟨xs,m,rfl,rfl,hl,hlen,hf⟩:=DataW.trod_struct Tryz.underlying39 h;rw [cells_op11] at hl;match cs,hl with
 | [c0,c1,c2,c3,c4,c5,c6,c7],_=>
   match xs,hlen with
   | [x0,x1,x2,x3],_=>
     have f0:=hf 0 _ rfl;have f1:=hf 1 _ rfl;have f2:=hf 2 _ rfl;have f3:=hf 3 _ rfl;simp only [List.getElem?_cons_zero,List.getElem?_cons_succ] at f0 f1 f2 f3;obtain⟨kind,rfl,hk⟩:=int_of f0;obtain⟨nn,rfl,hn⟩:=int_of f1;obtain⟨kk,rfl,hkk⟩:=int_of f2;obtain⟨g,⟨vi,vd,e,h1,h2⟩,fy,sy⟩:=page_of f3;cases e;refine⟨⟨kind,nn,kk,g⟩,(c5,c6),rfl,⟨h1,h2⟩,⟨⟨hk,hn,hkk⟩,fy⟩,fun hw=>sy fun m hm=>hw m ?_⟩
     simp only [DataW.weights,Tryz.underlying39,List.map_cons,List.map_nil,DataW.weightsEach,List.mem_append];exact .inr (.inr (.inr (.inl hm)))
theorem opsP_of {W:World}{base n:Nat}{v:Value}{x:DataW H × List MemPlace}(h:DataW.trod enc Tryz.prog W base (fun _=>true) true n 22 [v]=some x):
 ∃l:List OpP,OpsP (heapOf W) v l∧(∀o∈l,OpPI o)∧(Small x.1 22→∀o∈l,PageSized o.g):=by
 obtain⟨len,n',C,D,Pl,hC,hr,hs⟩:=rows_of Tryz.underlying22 cells_op11 (by omega) h
 obtain⟨Y,hY⟩:=choose_lt (α:=OpP × Value × Value) (n:=len) (p:=fun i y=>C i=opPCells y.1 y.2∧OpPB (heapOf W) y.1 y.2∧OpPI y.1∧(Small (D i) 39→PageSized y.1.g)) (fun i hi=>by
  obtain⟨o,v,h1,h2,h3,h4⟩:=opP_of (hC i hi).2
  exact⟨(o,v),h1,h2,h3,h4⟩)
 refine⟨(List.range len).map fun i=>(Y i).1,⟨(List.range len).map fun i=>(Y i).2,by simp,?_,?_⟩,?_,?_⟩
 · rw [zip_range]
   have e1:(List.range len).flatMap C=((List.range len).map fun i=>((Y i).2,(Y i).1)).flatMap fun y=>opPCells y.2 y.1:=by
    rw [List.flatMap_map];exact flatMap_congr_range fun i hi=>(hY i hi).1
   rw [← e1];simpa using hr
 · intro i hx hl
   simp at hl
   simp only [List.getElem_map,List.getElem_range];exact(hY i hl).2.1
 · intro o ho
   obtain⟨i,hi,rfl⟩:=List.mem_map.1 ho;exact(hY i (List.mem_range.1 hi)).2.2.1
 · intro hw o ho
   obtain⟨i,hi,rfl⟩:=List.mem_map.1 ho;exact(hY i (List.mem_range.1 hi)).2.2.2 ((hs hw).2 i (List.mem_range.1 hi))
theorem open_opsP {W:World}{base:Nat}{v:Value}{d:DataW H}{p:List MemPlace}(hval:Value.okWide Tryz.prog W .any base 22 v)(h:DataW.Trod enc Tryz.prog W 0 (fun _=>true) true 22 v d p):
 ∃l:List OpP,OpsP (heapOf W) v l∧(∀o∈l,OpPI o)∧(Small d 22→∀o∈l,PageSized o.g):=by
 obtain⟨a,len,cap,rfl⟩:=okWide_slice Tryz.underlying22 hval;obtain⟨n,hn⟩:=h;exact opsP_of hn
end
end Go.Proofs.YtpfafhklppondaaGreat.S6
namespace Go.Proofs.YtpfafhklppondaaGreat.W6
open ChangeShapes WideShapes ChangeAt RowKit Sl Cop M6
end Go.Proofs.YtpfafhklppondaaGreat.W6
