/- The document's Store: what it refuses, and short values; the conditions stand as hypotheses. -/
import Derived.Test.YtkfjilnmnbeokaaGreatPutInPlaceM34
import Derived.Test.YtkfjilnmnbeokaaGreatPutInPlaceM22
import Derived.Test.YtkfjilnmnbeokaaGreatPutInPlaceM32
import Derived.Test.YtkfjilnmnbeokaaGreatPutInPlaceM01
set_option maxRecDepth 100000
set_option maxHeartbeats 16000000
namespace Go.Cop
open Go.Proofs.YtkfjilnmnbeokaaGreat.N8
end Go.Cop
namespace Go.Proofs.YtkfjilnmnbeokaaGreat.D9
open ChangeShapes WideShapes ChangeAt RowKit Sl Cop D2 D3 J3 V3 G2 J2 X3 Y3 M4 P5 Z3 Y5 Q5 Z4 B5 J5 K7 L7 P7 T7 N8 Y8
theorem check_blob {d:List Int}{c:Int}(hd:1≤d.length∧d.length≤480)(hc:c=0∨1≤c∧c≤65536):checkP (blobV d c)=0:=by
 unfold checkP;have h1:Go.Cop.kindOk 3=true:=by decide
 have h2:Go.Cop.formP 3 0 0 d.length c=true:=by
  unfold Go.Cop.formP;simp
  omega
 have h3:nextOk c=true:=by
  unfold nextOk Go.Cop.isPg;rcases hc with rfl | hc
  · rfl
  · simp;omega
 dsimp only;rw [h1,if_neg (by decide)];rw [show ([]:List ItemV).length=0 from rfl,h2,if_neg (by decide),h3];rfl
end Go.Proofs.YtkfjilnmnbeokaaGreat.D9
namespace Go.Cop
def StandT(look:Int→Option PageV)(root height items:Int)(L:List ItemV):Prop:=(root=0∧height=0∧items=0∧L= [])∨(root≠0∧items=(L.length:Int)∧∃lv:Nat,height=(lv:Int)+1∧lv≤11∧TrK look lv root everyR L)
def wayK(look:Int→Option PageV)(root height:Int)(key:List Int):List Int:=if height=0 then [] else pathK look key (height-1).toNat root
def valK(look:Int→Option PageV)(x:ItemV):List Int:=(valueL look x.size x.child x.value).1
def getV(look:Int→Option PageV)(L:List ItemV)(key:List Int):List Int:=if keyR key then(match findK key L with | some x=>valK look x | none=> []) else []
def getB(L:List ItemV)(key:List Int):Bool:=keyR key && (findK key L).isSome
def getE(key:List Int):Int:=if keyR key then 0 else 7
theorem get_bad(look:Int→Option PageV)(L:List ItemV){key:List Int}(h:keyR key=false):getV look L key= []∧getB L key=false∧getE key=7:=by
 unfold getV getB getE;rw [h];exact⟨rfl,rfl,rfl⟩
theorem get_none(look:Int→Option PageV){L:List ItemV}{key:List Int}(h:keyR key=true)(hf:findK key L=none):getV look L key= []∧getB L key=false∧getE key=0:=by
 unfold getV getB getE;rw [h,hf];exact⟨rfl,rfl,rfl⟩
theorem get_some(look:Int→Option PageV){L:List ItemV}{key:List Int}{x:ItemV}(h:keyR key=true)(hf:findK key L=some x):getV look L key=valK look x∧getB L key=true∧getE key=0:=by
 unfold getV getB getE;rw [h,hf];exact⟨rfl,rfl,rfl⟩
end Go.Cop
namespace Go.Proofs.YtkfjilnmnbeokaaGreat.E9
open ChangeShapes WideShapes ChangeAt RowKit Sl Cop D3 G2 J2 X3 Y3 M4 Z3 Y5 N2 N7 X7 M8 Z5 E6 M2 Q8 J6 K6 Z8 B9
theorem way_any(v:Nat)(s:VaultS)(look:Int→Option PageV)(hl:N7.Looks s look)(okp:PgsOk look)(hb:Hp)(kv:Value)(key:List Int)(hk:Bytes hb kv key)(uk:U8 key)(root height items:Int)(L:List ItemV)(hT:StandT look root height items L)(F:Pr)(w:World)(hF:OwnL [VaultA v s,Pr.own hb,F] w):
 Calls Tryz.prog 18 #[.pointer (some ⟨v,0,none⟩),treeV root height items,kv] w fun e w'=>Stays w w'∧∃o,e= .returned (.tuple #[o,.int .i64 0])∧OwnL [IntsRow o (wayK look root height key),VaultA v s,Pr.own hb,F] w':=by
 rcases hT with⟨rfl,rfl,rfl,rfl⟩ | ⟨h0,_,lv,rfl,hlv,hT⟩
 · have HST:=hQ ((Stays.refl w).alloc (treeC 0 0 0))
   have HS0:=hQ (hF.alloc (treeC 0 0 0)).emp;clear hF;go_enter Tryz.func18,Tryz.ntmps18
   go_wp2;go_loopw [8,9,10] (fun o n left wr=>o= .slice none 0 0∧n= .int .i64 0∧left= .int .i64 0∧Stays w wr∧OwnL [Pr.emp,VaultA v s,Pr.own hb,F] wr) (fun _ _ _ _=>0)
   case atStart=>exact⟨rfl,rfl,rfl,HST.out,HS0.out.to⟩
   case round=>
    obtain⟨rfl,rfl,rfl,hst,hs⟩:=hrel;have HST2:=hQ hst;have HS2:=hQ hs;clear hst hs HST HS0;go_wp2;go_ret2;refine⟨HST2.out,.slice none 0 0,rfl,?_⟩;have h1:=HS2.out;rw [← Row.nil 3 1] at h1;exact h1
 · have e:wayK look root ((lv:Int)+1) key=pathK look key lv root:=by
    unfold wayK;rw [if_neg (by omega),show ((lv:Int)+1-1).toNat=lv by omega]
   rw [e];exact path_any v s look hl okp hb kv key hk uk root lv items hlv everyR L hT F w hF
theorem get_any(v:Nat)(s:VaultS)(look:Int→Option PageV)(hl:N7.Looks s look)(okp:PgsOk look)(hb:Hp)(kv:Value)(key:List Int)(hk:Bytes hb kv key)(uk:U8 key)(nk:key.length≤140737488355328)(root height items:Int)(L:List ItemV)(hT:StandT look root height items L)(F:Pr)(w:World)(hF:OwnL [VaultA v s,Pr.own hb,F] w):
 Calls Tryz.prog 34 #[.pointer (some ⟨v,0,none⟩),treeV root height items,kv] w fun e w'=>Stays w w'∧∃o,e= .returned (.tuple #[o,.bool (getB L key),.int .i64 (getE key)])∧OwnL [BytesRow o (getV look L key),VaultA v s,Pr.own hb,F] w':=by
 obtain⟨kak,kck,rfl⟩:=bytes_shape hk;have hs0:=hF.alloc (treeC root height items);have HST:=hQ ((Stays.refl w).alloc (treeC root height items));have c1:=hs0.facts;simp only [CellsAt,Nat.reduceAdd,and_true] at c1;have hk63:(key.length:Int)≤140737488355328:=by omega
 by_cases hkr:keyR key=true
 · have HKR:=hQ hkr
   have hkr2:1≤key.length∧key.length≤24:=of_decide_eq_true hkr;have hk1:¬(key.length:Int)<1:=by omega
   have hk2:¬24<(key.length:Int):=by omega
   have WA:=hQ (way_any v s look hl okp hb _ key hk uk root height items L hT _ _ (OwnL.in2 (hs0.pull2 (A1:=VaultA v s) (A2:=Pr.own hb))));have HH:=hQ (And.intro hl (And.intro okp (And.intro hk uk)));have HT:=hQ hT;clear hF hs0 hl okp hk uk hT hkr hkr2;go_enter Tryz.func34,Tryz.ntmps34
   go_wp2_with fail
   refine WA.out.mono ?_;rintro e w1 ⟨st1,o,rfl,hs1⟩;have hs2:=hs1.flat;obtain⟨ao,co,rfl⟩:=Row.shape (hs2.pull1 (A1:=IntsRow o (wayK look root height key)));have HST1:=hQ (HST.out.trans st1);clear c1;have c1:=hs2.facts;simp only [CellsAt,Nat.reduceAdd,and_true] at c1;rcases HT.out with⟨_,rfl,_,rfl⟩ | ⟨_,_,lv,rfl,hlv,hTr⟩
   · have hw0:(wayK look root 0 key)= []:=by unfold wayK;rw [if_pos rfl]
     rw [hw0];have h1:=(hs2.to (M:= [VaultA v s,Pr.own hb,F])).emp;rw [← Row.nil 5 1] at h1;have HE:=hQ h1;clear hs1 hs2 st1 hw0 h1;go_wp2;go_ret3
     obtain⟨e1,e2,e3⟩:=get_none look (L:= []) HKR.out (show findK key []=none from rfl);rw [e1,e2,e3];exact⟨HST1.out,.slice none 0 0,rfl,HE.out⟩
   · have hw1:wayK look root ((lv:Int)+1) key=pathK look key lv root:=by
      unfold wayK;rw [if_neg (by omega),show ((lv:Int)+1-1).toNat=lv by omega]
     rw [hw1] at hs2 ⊢;obtain⟨⟨p1,p2,p3⟩,g,hlg,p4,p5,p6⟩:=path_tr HH.out.2.1 key hTr;clear p3 p4 p5 p6;obtain⟨f1,f2⟩:=find_tr HH.out.2.1 key hTr hlg;obtain⟨P,hP⟩:∃P,pathK look key lv root=P:=⟨_,rfl⟩;rw [hP] at hs2 p1 p2 ⊢;obtain⟨b,u,rfl,hu,d0,_,zb⟩:=Row.at1 (hs2.pull1 (A1:=IntsRow (.slice ao P.length co) P)) lv (by omega);rw [List.getElem?_map,p2] at hu
     obtain rfl:u= .int .i64 (leafK look key lv root):=(Option.some.inj hu).symm;generalize leafK look key lv root=nl at*;have hval:∀x∈L,(valueL look x.size x.child x.value).2=0:=fun x hx=>(tr_has hTr x hx).2
     have hfit:=fit_of_check (HH.out.2.1.chk _ g hlg);have hu8:=HH.out.2.1.u8 _ g hlg;have hsp:=(search_spec key (page_sorted (HH.out.2.1.chk _ g hlg))).1;have VR:=vread_any v s look HH.out.1 nl _ _ (hs2.pull1 (A1:=VaultA v s));rw [hlg] at VR;simp only [reduceCtorEq,if_false,Option.getD_some] at VR;have VRH:=hQ VR;have HF12:=hQ (And.intro f1 (And.intro f2 (And.intro hval (And.intro hfit hu8))))
     have hpl:P.length=lv+1:=p1;rw [hpl];have hn8:=hfit.n;clear hs1 hs2 st1 VR f1 f2 hval hfit hu8 hTr hw1 p1 p2 hP hu hpl;go_wp2_with fail
     refine VRH.out.mono ?_;rintro e w2 ⟨st2,pv,rfl,h',hp,hs3⟩;obtain⟨tai,tad,tci,tcd,rfl⟩:=page_sh hp;dsimp only [pageV];have hs4:=(OwnL.of2 hs3).alloc (pageC g.kind g.level (.slice tai g.items.length tci) (.slice tad g.data.length tcd) g.next);have SE:=hQ (search_any h' hb _ _ g hp HF12.out.2.2.2.1 HF12.out.2.2.2.2 key HH.out.2.2.1 HH.out.2.2.2 _ (hs4.le (a:=h')) (hs4.le (a:=hb)))
     have HS4:=hQ hs4;have HP:=hQ hp;have HST2:=hQ ((HST1.out.trans st2).alloc (pageC g.kind g.level (.slice tai g.items.length tci) (.slice tad g.data.length tcd) g.next));clear hs3 hs4 st2 hp VRH HST1 c1 d0 zb;go_wp2_with fail
     refine SE.out.mono ?_;rintro e w3 ⟨rfl,ho⟩;have hs5:=HS4.out.ext ho.heap;have HST3:=hQ (HST2.out.trans ho.st);have c1:=hs5.facts;simp only [CellsAt,Nat.reduceAdd,and_true] at c1;have HS5:=hQ hs5;clear hs5 ho SE HS4 HST2;generalize w2.heap.size=PB at*;obtain⟨sk,hsk⟩:∃sk,searchK key g.items=sk:=⟨_,rfl⟩;have hf1:=HF12.out.1;have hf2:=HF12.out.2.1;rw [hsk] at hf1 hf2 hsp ⊢;obtain⟨at',th⟩:=sk
     dsimp only at hf1 hf2 hsp;cases th with
     | false=>
       have HFD:=hQ (get_none look HKR.out (hf2 rfl));have h1:=(HS5.out.to (M:= [VaultA v s,Pr.own hb,F])).emp;rw [← Row.nil 5 1] at h1;have HE:=hQ h1;clear h1 hf1 hf2 hsk HF12;go_wp2;go_ret3
       obtain⟨e1,e2,e3⟩:=HFD.out;rw [e1,e2,e3];exact⟨HST3.out,.slice none 0 0,rfl,HE.out⟩
     | true=>
       obtain⟨hat,hfd⟩:=hf1 rfl;have HFD:=hQ (get_some look HKR.out hfd);obtain⟨_,_,hpe,hpi,_⟩:=HP.out;cases hpe;obtain⟨_,_,epi,_,rd⟩:=items_rd hpi;cases epi;obtain⟨b2,off,ak,ck,av,cv,rfl,hbk2,hbv2,hc⟩:=rd at' hat;obtain⟨d0,d1,d2,d3⟩:=hc w3 (HS5.out.le (a:=h'));have zb2:=World.block_lt_of_cell? _ _ d0;simp only at zb2;rw [← itemAt_get hat] at d0 d1 d2 d3 hbk2 hbv2
       have h0:=HF12.out.2.2.1 _ (List.mem_of_find?_eq_some hfd);generalize itemAt g.items at'=x at*;have BL:=bload_any v s look HH.out.1 x h' _ ⟨_,_,rfl,hbk2,hbv2⟩ _ _ (HS5.out.pull2 (A1:=VaultA v s) (A2:=Pr.own h'));rw [h0] at BL;have HBL:=hQ BL;have hat3:(at':Int)<(g.items.length:Int):=by omega
       clear BL h0 hbk2 hbv2 hc rd hpi hfd hf1 hf2 hsk HF12 HP hsp;go_wp2_with fail
       refine HBL.out.mono ?_;rintro e w4 ⟨st4,o,rfl,hs6⟩;have hs7:=OwnL.of3 hs6;have HE:=hQ (hs7.to (M:= [BytesRow o (valueL look x.size x.child x.value).1,VaultA v s,Pr.own hb,F]));have HST4:=hQ (HST3.out.trans st4);clear hs6 hs7 st4 HBL HST3 c1 d0 d1 d2 d3 HS5;go_wp2;go_ret3
       obtain⟨e1,e2,e3⟩:=HFD.out;rw [e1,e2,e3];exact⟨HST4.out,o,rfl,HE.out⟩
 · have hkr1:keyR key=false:=by simpa using hkr
   have HFD:=hQ (get_bad look L hkr1);have hkr2:¬(1≤key.length∧key.length≤24):=of_decide_eq_false hkr1;have h1:=(hs0.to (M:= [VaultA v s,Pr.own hb,F])).emp;rw [← Row.nil 5 1] at h1;have HE:=hQ h1;clear hF hs0 hl okp hk uk hT h1 hkr hkr1;by_cases hk1:(key.length:Int)<1
   · clear hkr2
     go_enter Tryz.func34,Tryz.ntmps34
     go_wp2;go_ret3
     obtain⟨e1,e2,e3⟩:=HFD.out;rw [e1,e2,e3];exact⟨HST.out,.slice none 0 0,rfl,HE.out⟩
   · have hk2:24<(key.length:Int):=by omega
     clear hkr2;go_enter Tryz.func34,Tryz.ntmps34
     go_wp2;go_ret3
     obtain⟨e1,e2,e3⟩:=HFD.out;rw [e1,e2,e3];exact⟨HST.out,.slice none 0 0,rfl,HE.out⟩
end Go.Proofs.YtkfjilnmnbeokaaGreat.E9
