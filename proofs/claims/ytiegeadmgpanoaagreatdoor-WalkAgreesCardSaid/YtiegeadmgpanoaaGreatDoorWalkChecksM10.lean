/- A list of items is read; the conditions stand as hypotheses. -/
import Derived.Test.YtiegeadmgpanoaaGreatDoorWalkChecksM08
import Derived.BigQuiet
import Derived.Test.YtiegeadmgpanoaaGreatDoorWalkChecksM01
set_option maxRecDepth 100000
set_option maxHeartbeats 16000000
namespace Go.Sl
theorem flat_at {α:Type}(f:α→List Value)(k:Nat)(hf:∀x,(f x).length=k):∀(l:List α) (i j:Nat) (hi:i<l.length),j<k→(l.flatMap f)[i*k+j]? =(f l[i])[j]?
 | [],i,j,hi,_=>absurd hi (by simp)
 | x :: l,0,j,_,hj=>by
   simp only [List.flatMap_cons,Nat.zero_mul,Nat.zero_add,List.getElem_cons_zero];rw [List.getElem?_append_left (by rw [hf];exact hj)]
 | x :: l,i+1,j,hi,hj=>by
   have hx:=hf x;simp only [List.flatMap_cons,List.getElem_cons_succ];rw [List.getElem?_append_right (by rw [hx,Nat.succ_mul];omega),hx,show (i+1)*k+j-k=i*k+j by rw [Nat.succ_mul];omega];exact flat_at f k hf l i j (by simpa using hi) hj
theorem flat_len {α:Type}(f:α→List Value)(k:Nat)(hf:∀x,(f x).length=k):∀(l:List α),(l.flatMap f).length=l.length*k
 | []=>by simp
 | x :: l=>by simp only [List.flatMap_cons,List.length_append,List.length_cons,flat_len f k hf l,hf x,Nat.succ_mul];omega
theorem flat_set {α:Type}(f:α→List Value)(k:Nat)(hf:∀x,(f x).length=k)(j:Nat)(v:Value)(y:α)(hj:j<k):∀(l:List α) (i:Nat) (hi:i<l.length),(f l[i]).set j v=f y→(l.flatMap f).set (i*k+j) v=(l.set i y).flatMap f
 | [],i,hi,_=>absurd hi (by simp)
 | x :: l,0,_,e=>by
   simp only [List.flatMap_cons,Nat.zero_mul,Nat.zero_add,List.set_cons_zero,List.getElem_cons_zero] at e ⊢;rw [List.set_append_left _ _ (by rw [hf];exact hj),e]
 | x :: l,i+1,hi,e=>by
   have hx:=hf x;simp only [List.flatMap_cons,List.set_cons_succ,List.getElem_cons_succ] at e ⊢;rw [List.set_append_right _ _ (by rw [hx,Nat.succ_mul];omega),hx,show (i+1)*k+j-k=i*k+j by rw [Nat.succ_mul];omega];rw [flat_set f k hf j v y hj l i (by simpa using hi) e]
theorem Row.set {T k b c n:Nat}{xs:List Value}{F:Pr}{w:World}(h:Sat ((Row T k (.slice (some ⟨b,0,none⟩) n c) n xs).star F) w)(i:Nat)(hi:i<xs.length)(v:Value):
 Sat ((Row T k (.slice (some ⟨b,0,none⟩) n c) n (xs.set i v)).star F) (w.setCell ⟨b,i,none⟩ v):=by
 obtain⟨hl,(⟨e,_,_⟩ | ⟨b',cap,sp,e,h1,h2,h3,h4⟩)⟩:=Row.open' h
 · cases e
 · cases e
   have h5:=h4.setCell (i:=i) v;refine Row.mk' (sp:=sp) (by simpa using hl) (by simpa using h1) h2 h3 ?_
   have e6:(xs.set i v++sp).toArray=(xs++sp).toArray.setIfInBounds i v:=by
    rw [List.setIfInBounds_toArray,List.set_append_left _ _ hi]
   rw [e6];exact h5
end Go.Sl
namespace Go.Proofs.YtiegeadmgpanoaaGreatDoor.X3
open ChangeShapes WideShapes ChangeAt RowKit Sl Cop G2 J2 Q3
abbrev itemV(kv vv:Value)(c s:Int):Value:= .agg #[kv,vv,.int .i64 c,.int .i64 s]
def ItemIn(h:Hp)(v:Value)(x:ItemV):Prop:= ∃kv vv,v=itemV kv vv x.child x.size∧Bytes h kv x.key∧Bytes h vv x.value
theorem ItemIn.sub {a b:Hp}(hs:a.sub b){v:Value}{x:ItemV}(h:ItemIn a v x):ItemIn b v x:=by
 obtain⟨kv,vv,e,h1,h2⟩:=h;exact⟨kv,vv,e,h1.sub hs,h2.sub hs⟩
theorem bytes_shape {h:Hp}{v:Value}{l:List Int}(hb:Bytes h v l):∃a c,v= .slice a l.length c:=by
 obtain⟨_,a,c,e,_⟩:=hb;exact⟨a,c,e⟩
def itCells(x:(Value × Value) × ItemV):List Value:= [x.1.1,x.1.2,.int .i64 x.2.child,.int .i64 x.2.size]
theorem items_rd {h:Hp}{vi:Value}{l:List ItemV}(hi:ItemsIn h vi l):∃a c,vi= .slice a l.length c∧c≤maxLen∧∀i (hl:i<l.length),∃b off ak ck av cv,a=some ⟨b,off,none⟩∧
 Bytes h (.slice ak l[i].key.length ck) l[i].key∧Bytes h (.slice av l[i].value.length cv) l[i].value∧
 ∀w,h.le w→w.cell? ⟨b,off+i*4,none⟩=some (.slice ak l[i].key.length ck)∧w.cell? ⟨b,off+i*4+1,none⟩=some (.slice av l[i].value.length cv)∧
  w.cell? ⟨b,off+i*4+2,none⟩=some (.int .i64 l[i].child)∧w.cell? ⟨b,off+i*4+3,none⟩=some (.int .i64 l[i].size):=by
 obtain⟨xs,hxl,⟨hlen,a,c,e,_,hcm,hc⟩,hb⟩:=hi;refine⟨a,c,e,hcm,fun i hl=> ?_⟩;obtain⟨b,off,ea,hcell⟩:=hc (by omega);have hxi:i<xs.length:=by omega
 obtain⟨h1,h2⟩:=hb i hxi hl;obtain⟨ak,ck,e1⟩:=bytes_shape h1;obtain⟨av,cv,e2⟩:=bytes_shape h2;have hz:i<(xs.zip l).length:=by simp;omega
 have ez:(xs.zip l)[i]=(xs[i],l[i]):=by simp
 refine⟨b,off,ak,ck,av,cv,ea,e1 ▸ h1,e2 ▸ h2,fun w hw=> ?_⟩
 have at':∀j,j<4→∀v,(itCells (xs[i],l[i]))[j]? =some v→w.cell? ⟨b,off+i*4+j,none⟩=some v:=by
  intro j hj v hv;have h3:=hcell (i*4+j) (by omega);have h4:=flat_at itCells 4 (fun _=>rfl) (xs.zip l) i j hz hj;rw [ez,hv] at h4;rw [Nat.add_assoc];exact Hp.cell_le hw (h3.trans h4)
 have k0:=at' 0 (by omega) _ rfl;have k1:=at' 1 (by omega) _ rfl;have k2:=at' 2 (by omega) _ rfl;have k3:=at' 3 (by omega) _ rfl;dsimp only at k0 k1;rw [e1] at k0;rw [e2] at k1;exact⟨k0,k1,k2,k3⟩
theorem items_mk' {h:Hp}{vi:Value}{l:List ItemV}(xs:List (Value × Value))(hxl:xs.length=l.length)(hr:RowIn h 4 vi l.length ((xs.zip l).flatMap itCells))
 (hb:∀i (hx:i<xs.length) (hl:i<l.length),Bytes h xs[i].1 l[i].key∧Bytes h xs[i].2 l[i].value):ItemsIn h vi l:=⟨xs,hxl,hr,hb⟩
end Go.Proofs.YtiegeadmgpanoaaGreatDoor.X3
namespace Go.Cop
structure NumV where
 no:Int
 page:PageV
abbrev zeroP:PageV:=⟨0,0,[],[],0⟩
def rangeOk(pages refs:Int):Bool:=decide (1≤pages∧pages≤65536∧2≤refs∧refs<65536)
def cntL(cs:List Int)(n:Int):Int:=if 1≤n∧n≤cs.length then cs.getD (n.toNat-1) 0 else 0
def lay(cs:List Int):List NumV→(Int→Option PageV)→Int × (Int→Option PageV)
 | [],on=>(0,on)
 | x :: l,on=>if cntL cs x.no=0 then(15,on) else if(on x.no).isSome then(10,on) else if checkP x.page≠0 then(checkP x.page,on) else lay cs l (fun m=>if m=x.no then some x.page else on m)
def lacks(cs:List Int)(on:Int→Option PageV):Bool:=(List.range cs.length).any fun i=>decide (cs.getD i 0≠0) && (on ((i:Int)+1)).isNone
def badC(refs:Int)(cs:List Int):Bool:=cs.any fun c=>decide (c<0∨refs<c)
def loadE(refs:Int)(cs:List Int)(l:List NumV):Int × (Int→Option PageV):=
 if rangeOk cs.length refs=false then(1,fun _=>none)
 else if badC refs cs=true then(13,fun _=>none)
 else if(lay cs l fun _=>none).1≠0 then lay cs l fun _=>none
 else if lacks cs (lay cs l fun _=>none).2=true then(9,fun _=>none) else lay cs l fun _=>none
structure OnOk(cs:List Int)(on:Int→Option PageV):Prop where
 there:∀n g,on n=some g→cntL cs n≠0
 fit:∀n g,on n=some g→Fit g
theorem cntL_bd {cs:List Int}{n:Int}(h:cntL cs n≠0):1≤n∧n≤cs.length:=by
 unfold cntL at h;split at h
 · assumption
 · exact absurd rfl h
theorem OnOk.none(cs:List Int):OnOk cs fun _=>none:=⟨fun _ _ e=>(by cases e),fun _ _ e=>(by cases e)⟩
theorem OnOk.put {cs:List Int}{on:Int→Option PageV}(h:OnOk cs on){x:NumV}(h1:cntL cs x.no≠0)(h2:checkP x.page=0):OnOk cs fun m=>if m=x.no then some x.page else on m:=by
 constructor
 · intro n g e
   split at e
   · rename_i hn;rw [hn];exact h1
   · exact h.there n g e
 · intro n g e
   split at e
   · cases e;exact fit_of_check h2
   · exact h.fit n g e
theorem lay_ok {cs:List Int}:∀ {l:List NumV} {on:Int→Option PageV},OnOk cs on→OnOk cs (lay cs l on).2
 | [],_,h=>h
 | x :: l,on,h=>by
   unfold lay;split
   · exact h
   · split
     · exact h
     · split
       · exact h
       · exact lay_ok (h.put (by assumption) (by rename_i h3;exact Decidable.not_not.1 h3))
def lookL(cs:List Int)(on:Int→Option PageV)(n:Int):Option PageV:=if cntL cs n=0 then none else some ((on n).getD zeroP)
def chainL(look:Int→Option PageV)(size:Nat):Nat→List Int→Int→List Int × Int
 | 0,out,_=>(out,0)
 | k+1,out,n=>if size≤out.length then(out,0) else match look n with
   | none=>([],15)
   | some g=>if g.kind≠3 then([],15)
     else if(g.data.length=min (size-out.length) 480∧((g.next=0)↔(size-out.length≤480))) then chainL look size k (out++g.data) g.next else([],5)
def valueL(look:Int→Option PageV)(size child:Int)(value:List Int):List Int × Int:=
 if size<0∨3840<size∨(size≤32∧(value.length:Int)≠size) then([],8)
 else if size≤32 then(value,0) else chainL look size.toNat size.toNat [] child
end Go.Cop
namespace Go.Proofs.YtiegeadmgpanoaaGreatDoor.Y3
open ChangeShapes WideShapes ChangeAt RowKit Sl Cop G2 J2 N2 P2 Q2 Q3 X3
def ChkAt(fb pb:Nat)(f k l:Int)(vi vd:Value)(nx:Int)(R:Pr):Pr:=
 (Pr.pts fb (.cells #[.int .i64 f] 32)).star ((Pr.pts pb (.cells #[.int .i64 k,.int .i64 l,vi,vd,.int .i64 nx] 83)).star R)
theorem chkAt_rd {fb pb:Nat}{f k l:Int}{vi vd:Value}{nx:Int}{R:Pr}{w:World}(h:Sat (ChkAt fb pb f k l vi vd nx R) w):
 w.cell? ⟨fb,0,none⟩=some (.int .i64 f)∧w.cell? ⟨pb,0,none⟩=some (.int .i64 k)∧w.cell? ⟨pb,1,none⟩=some (.int .i64 l)∧w.cell? ⟨pb,2,none⟩=some vi∧w.cell? ⟨pb,3,none⟩=some vd∧w.cell? ⟨pb,4,none⟩=some (.int .i64 nx)∧fb<w.heap.size∧pb<w.heap.size:=by
 have h1:=h.pts_heap;have h2:=(h.right).pts_heap;refine⟨by rw [cell_of_heap h1];rfl,by rw [cell_of_heap h2];rfl,by rw [cell_of_heap h2];rfl,by rw [cell_of_heap h2];rfl,by rw [cell_of_heap h2];rfl,by rw [cell_of_heap h2];rfl,h.lt,h.right.lt⟩
theorem chk_start {k l:Int}{vi vd:Value}{nx:Int}{R:Pr}{w:World}(h:Sat R w):
 Sat (ChkAt (w.heap.size+1) w.heap.size 0 k l vi vd nx R) ((w.alloc (.cells #[.int .i64 k,.int .i64 l,vi,vd,.int .i64 nx] 83)).alloc (.cells #[.int .i64 0] 32)):=by
 have h1:=(h.alloc (.cells #[.int .i64 k,.int .i64 l,vi,vd,.int .i64 nx] 83)).alloc (.cells #[.int .i64 0] 32);rw [show (w.alloc (.cells #[.int .i64 k,.int .i64 l,vi,vd,.int .i64 nx] 83)).heap.size=w.heap.size+1 by simp] at h1;exact h1
theorem itm_start {fb pb:Nat}{f k l:Int}{vi vd:Value}{nx:Int}{R:Pr}{w:World}{kv vv:Value}{c sz:Int}(h:Sat (ChkAt fb pb f k l vi vd nx R) w):
 Sat (ChkAt fb pb f k l vi vd nx ((Pr.pts w.heap.size (.cells #[kv,vv,.int .i64 c,.int .i64 sz] 89)).star R)) (w.alloc (.cells #[kv,vv,.int .i64 c,.int .i64 sz] 89)):=by
 have h1:=h.alloc (.cells #[kv,vv,.int .i64 c,.int .i64 sz] 89);exact h1.perm (by unfold ChkAt;ac_rfl)
theorem itm_rd {fb pb xb:Nat}{f k l:Int}{vi vd:Value}{nx:Int}{R:Pr}{w:World}{kv vv:Value}{c sz:Int}(h:Sat (ChkAt fb pb f k l vi vd nx ((Pr.pts xb (.cells #[kv,vv,.int .i64 c,.int .i64 sz] 89)).star R)) w):
 w.cell? ⟨xb,0,none⟩=some kv∧w.cell? ⟨xb,1,none⟩=some vv∧w.cell? ⟨xb,2,none⟩=some (.int .i64 c)∧w.cell? ⟨xb,3,none⟩=some (.int .i64 sz)∧xb<w.heap.size:=by
 have h1:=h.right.right.pts_heap;exact⟨by rw [cell_of_heap h1];rfl,by rw [cell_of_heap h1];rfl,by rw [cell_of_heap h1];rfl,by rw [cell_of_heap h1];rfl,h.right.right.lt⟩
theorem itm_drop {fb pb xb:Nat}{f k l:Int}{vi vd:Value}{nx:Int}{R:Pr}{w:World}{o:Obj}(h:Sat (ChkAt fb pb f k l vi vd nx ((Pr.pts xb o).star R)) w):Sat (ChkAt fb pb f k l vi vd nx R) w:=by
 have h1:Sat ((Pr.pts xb o).star (ChkAt fb pb f k l vi vd nx R)) w:=h.perm (by unfold ChkAt;ac_rfl);exact h1.right
theorem close4 {f rest T:Int}{kk:Int}{i:Nat}{prev:List Int}{x:ItemV}{b7 b11 b8 b15:Bool}(h7:keyOk kk i x=b7)(h11:ordOk i prev x=b11)(h8:valOk kk x=b8)(h15:kidOk kk x=b15)
 (he:thenE f (thenE (thenE (if keyOk kk i x then 0 else 7) (thenE (if ordOk i prev x then 0 else 11) (thenE (if valOk kk x then 0 else 8) (if kidOk kk x then 0 else 15)))) rest)=T):
 thenE (mustP (mustP (mustP (mustP f b7 7) b11 11) b8 8) b15 15) rest=T:=by
 rw [← he,h7,h11,h8,h15];simp only [mustP_then,thenE_assoc]
theorem close3 {f rest T:Int}{kk:Int}{i:Nat}{prev:List Int}{x:ItemV}{b7 b8 b15:Bool}(h7:keyOk kk i x=b7)(h11:ordOk i prev x=true)(h8:valOk kk x=b8)(h15:kidOk kk x=b15)
 (he:thenE f (thenE (thenE (if keyOk kk i x then 0 else 7) (thenE (if ordOk i prev x then 0 else 11) (thenE (if valOk kk x then 0 else 8) (if kidOk kk x then 0 else 15)))) rest)=T):
 thenE (mustP (mustP (mustP f b7 7) b8 8) b15 15) rest=T:=by
 rw [← he,h7,h11,h8,h15];simp only [mustP_then,thenE_assoc,if_true,zero_thenE]
theorem len_dec(l:List Int):(Hid (l.length=0)∧(1≤(l.length:Int))=False)∨(Hid (0<l.length)∧(1≤(l.length:Int))=True):=by
 rcases Nat.eq_zero_or_pos l.length with h | h
 · exact .inl ⟨hQ h,eq_false (by omega)⟩
 · exact .inr ⟨hQ h,eq_true (by omega)⟩
theorem len_zero(l:List Int):(Hid (l.length=0)∧((l.length:Int) == 0)=true)∨(Hid (0<l.length)∧((l.length:Int) == 0)=false):=by
 rcases Nat.eq_zero_or_pos l.length with h | h
 · exact .inl ⟨hQ h,by rw [beq_iff_eq];omega⟩
 · exact .inr ⟨hQ h,by rw [beq_eq_false_iff_ne];omega⟩
theorem mustP_22(b:Bool):mustP (mustP 0 false 22) b 5=22:=by cases b<;>rfl
theorem check_kind(ai ad:Option Addr)(n ci d cd:Nat)(k l nx:Int)(hk:¬(1≤k∧k≤3))(F:Pr)(w:World)(hF:Sat F w):
 Calls Tryz.prog 69 #[pageV k l (.slice ai n ci) (.slice ad d cd) nx] w fun e w'=>e= .returned (.int .i64 22)∧Sat F w'∧Stays w w':=by
 have h0:=chk_start (k:=k) (l:=l) (vi:= .slice ai n ci) (vd:= .slice ad d cd) (nx:=nx) hF;have H0:=hQ h0;have HST:=hQ (((Stays.refl w).alloc (.cells #[.int .i64 k,.int .i64 l,.slice ai n ci,.slice ad d cd,.int .i64 nx] 83)).alloc (.cells #[.int .i64 0] 32));have MB:=fun(F:Pr) (w:World) (f:Int) (b:Bool) (x:Int) (hF:Sat ((Pr.pts (w.heap.size+1) (.cells #[.int .i64 f] 32)).star F) w)=>hQ hF
 clear h0 hF MB;by_cases h1:1≤k
 · have h3:¬k≤3:=by omega
   go_enter Tryz.func69,Tryz.ntmps69
   go_wp2_with fail
   refine(must_any 0 22 false _ _ _ H0.out).mono ?_;rintro e w1 ⟨rfl,hs1,st1⟩;obtain⟨q0,q1,q2,q3,q4,q5,z0,z1⟩:=chkAt_rd (f:=mustP 0 false 22) hs1;go_wp2_with fail
   refine(form_any ai ad n ci d cd k l nx _).mono ?_;rintro e w2 ⟨rfl,ho⟩;go_wp2_with fail
   refine(must_any _ 5 _ _ _ _ (hs1.only ho)).mono ?_;rintro e w3 ⟨rfl,hs3,st3⟩;rw [mustP_22] at hs3;obtain⟨q0',_⟩:=chkAt_rd (f:=22) hs3;go_wp2;go_ret;exact⟨rfl,hs3.right.right,HST.out.trans (st1.trans (ho.st.trans st3))⟩
 · go_enter Tryz.func69,Tryz.ntmps69
   go_wp2_with fail
   refine(must_any 0 22 false _ _ _ H0.out).mono ?_;rintro e w1 ⟨rfl,hs1,st1⟩;obtain⟨q0,q1,q2,q3,q4,q5,z0,z1⟩:=chkAt_rd (f:=mustP 0 false 22) hs1;go_wp2_with fail
   refine(form_any ai ad n ci d cd k l nx _).mono ?_;rintro e w2 ⟨rfl,ho⟩;go_wp2_with fail
   refine(must_any _ 5 _ _ _ _ (hs1.only ho)).mono ?_;rintro e w3 ⟨rfl,hs3,st3⟩;rw [mustP_22] at hs3;obtain⟨q0',_⟩:=chkAt_rd (f:=22) hs3;go_wp2;go_ret;exact⟨rfl,hs3.right.right,HST.out.trans (st1.trans (ho.st.trans st3))⟩
theorem check_form(ai ad:Option Addr)(n ci d cd:Nat)(k l nx:Int)(hk:1≤k∧k≤3)(hf:formP k l n d nx=false)(F:Pr)(w:World)(hF:Sat F w):
 Calls Tryz.prog 69 #[pageV k l (.slice ai n ci) (.slice ad d cd) nx] w fun e w'=>e= .returned (.int .i64 5)∧Sat F w'∧Stays w w':=by
 have h0:=chk_start (k:=k) (l:=l) (vi:= .slice ai n ci) (vd:= .slice ad d cd) (nx:=nx) hF;have H0:=hQ h0;have HST:=hQ (((Stays.refl w).alloc (.cells #[.int .i64 k,.int .i64 l,.slice ai n ci,.slice ad d cd,.int .i64 nx] 83)).alloc (.cells #[.int .i64 0] 32));clear h0 hF;obtain⟨h1,h3⟩:=hk;go_enter Tryz.func69,Tryz.ntmps69
 go_wp2_with fail
 refine(must_any 0 22 true _ _ _ H0.out).mono ?_;rintro e w1 ⟨rfl,hs1,st1⟩;obtain⟨q0,q1,q2,q3,q4,q5,z0,z1⟩:=chkAt_rd (f:=mustP 0 true 22) hs1;go_wp2_with fail
 refine(form_any ai ad n ci d cd k l nx _).mono ?_;rintro e w2 ⟨rfl,ho⟩;rw [hf];go_wp2_with fail
 refine(must_any _ 5 _ _ _ _ (hs1.only ho)).mono ?_;rintro e w3 ⟨rfl,hs3,st3⟩;obtain⟨q0',_⟩:=chkAt_rd (f:=5) hs3;go_wp2;go_ret;exact⟨rfl,hs3.right.right,HST.out.trans (st1.trans (ho.st.trans st3))⟩
theorem check_index(h:Hp)(a ad:Option Addr)(c d cd:Nat)(its:List ItemV)(l nx:Int)(hi:ItemsIn h (.slice a its.length c) its)(hu:∀x∈its,U8 x.key)(hf:formP 2 l its.length d nx=true)(F:Pr)(w:World)(hF:Sat ((Pr.own h).star F) w):
 Calls Tryz.prog 69 #[pageV 2 l (.slice a its.length c) (.slice ad d cd) nx] w fun e w'=>e= .returned (.int .i64 (thenE (itemsE 2 0 [] its) (if nextOk nx then 0 else 15)))∧Sat ((Pr.own h).star F) w'∧Stays w w':=by
 have hnx:nx=0:=by unfold formP at hf;simp at hf;omega
 have hnl:its.length≤8:=by unfold formP at hf;simp at hf;omega
 subst hnx;obtain⟨a',c',e',_,rd⟩:=items_rd hi;cases e';have h0:=chk_start (k:=2) (l:=l) (vi:= .slice a its.length c) (vd:= .slice ad d cd) (nx:=0) hF;have H0:=hQ h0;have RD:=hQ rd;have HU:=hQ hu;have HST:=hQ (((Stays.refl w).alloc (.cells #[.int .i64 2,.int .i64 l,.slice a its.length c,.slice ad d cd,.int .i64 0] 83)).alloc (.cells #[.int .i64 0] 32));clear h0 hF rd hu
 go_enter Tryz.func69,Tryz.ntmps69
 go_wp2_with fail
 refine(must_any 0 22 true _ _ _ H0.out).mono ?_;rintro e w1 ⟨rfl,hs1,st1⟩;obtain⟨q0,q1,q2,q3,q4,q5,z0,z1⟩:=chkAt_rd (f:=mustP 0 true 22) hs1;go_wp2_with fail
 refine(form_any a ad its.length c d cd 2 l 0 _).mono ?_;rintro e w2 ⟨rfl,ho⟩;rw [hf];go_wp2_with fail
 refine(must_any _ 5 _ _ _ _ (hs1.only ho)).mono ?_;rintro e w3 ⟨rfl,hs3,st3⟩;have HST3:=hQ (HST.out.trans (st1.trans (ho.st.trans st3)));have hs3':Sat (ChkAt (w.heap.size+1) w.heap.size 0 2 l (.slice a its.length c) (.slice ad d cd) 0 ((Pr.own h).star F)) w3:=hs3;clear q0 q1 q2 q3 q4 q5 z0 z1 hs1 hs3 st1 ho st3 HST H0;obtain⟨q0,q1,q2,q3,q4,q5,z0,z1⟩:=chkAt_rd hs3';have H3:=hQ hs3';clear hs3'
 go_wp2_with fail
 go_loopw [5,30] (fun above i wr=> ∃(k:Nat) (f:Int) (prev:List Int),k≤its.length∧i= .int .i64 k∧Stays w wr∧Sat (ChkAt (w.heap.size+1) w.heap.size f 2 l (.slice a its.length c) (.slice ad d cd) 0 ((Pr.own h).star F)) wr∧Bytes h above prev∧Hid (U8 prev)∧
  Hid (thenE f (itemsE 2 k prev (its.drop k))=itemsE 2 0 [] its)) (fun _ i _=>its.length-(intOf i).toNat)
 case atStart=>exact⟨0,0,[],Nat.zero_le _,rfl,HST3.out,H3.out,RowIn.nil _ _,hQ (fun z hz=>by cases hz),hQ rfl⟩
 case round=>
  obtain⟨k,f,prev,hk,rfl,hst,hs,hab,hup,heq⟩:=hrel;clear q0 q1 q2 q3 q4 q5 z0 z1;obtain⟨q0,q1,q2,q3,q4,q5,z0,z1⟩:=chkAt_rd hs;rcases Nat.lt_or_ge k its.length with hlt | hge
  · obtain⟨b,off,ak,ck,av,cv,rfl,hbk,hbv,hcell⟩:=RD.out k hlt
    obtain⟨c0,c1,c2,c3⟩:=hcell wr hs.right.right.own;have heq1:=heq.out;rw [drop_at hlt,itemsE_cons,itemE_then] at heq1;have HE:=hQ heq1;have hux:=hQ (HU.out its[k] (List.getElem_mem hlt));clear hcell heq heq1;generalize its[k]=x at*;have HA:=hQ (itm_start (kv:= .slice ak x.key.length ck) (vv:= .slice av x.value.length cv) (c:=x.child) (sz:=x.size) hs)
    have HSTK:=hQ (hst.alloc (.cells #[.slice ak x.key.length ck,.slice av x.value.length cv,.int .i64 x.child,.int .i64 x.size] 89));clear hs hst;have hn2:=len_dec x.key;have hv2:=len_zero x.value;rcases Nat.eq_zero_or_pos k with hk0 | hk0
    · subst hk0
      simp only [Nat.zero_mul,Nat.add_zero] at c0 c1 c2 c3;rcases hv2 with⟨hv,hv1⟩ | ⟨hv,hv1⟩
      all_goals
       go_wp2_with fail
       refine(must_any f 7 _ _ _ _ HA.out).mono ?_;rintro e w4 ⟨rfl,hs4,st4⟩;obtain⟨q0,q1,q2,q3,q4,q5,z0,z1⟩:=chkAt_rd hs4;obtain⟨i0,i1,i2,i3,z2⟩:=itm_rd hs4;go_wp2_with fail
       refine(must_any _ 8 _ _ _ _ hs4).mono ?_;rintro e w5 ⟨rfl,hs5,st5⟩;clear q0 q1 q2 q3 q4 q5 z0 z1 i0 i1 i2 i3 z2;obtain⟨q0,q1,q2,q3,q4,q5,z0,z1⟩:=chkAt_rd hs5;obtain⟨i0,i1,i2,i3,z2⟩:=itm_rd hs5;go_wp2_with fail
       refine(isPage_any _ _).mono ?_;rintro e w6 ⟨rfl,rfl⟩;go_wp2_with fail
       refine(must_any _ 15 _ _ _ _ hs5).mono ?_;rintro e w7 ⟨rfl,hs7,st7⟩;go_wp2;go_roundw
       case rel=>
        refine⟨1,_,x.key,by omega,rfl,HSTK.out.trans (st4.trans (st5.trans st7)),itm_drop hs7,hbk,hux,hQ (close3 ?_ rfl ?_ ?_ HE.out)⟩
        · rw [Bool.eq_iff_iff];simp [keyOk]
        · have hv':=hv.out
          rw [Bool.eq_iff_iff];unfold valOk;rw [if_pos rfl];simp [-List.length_eq_zero_iff];try omega
        · rw [Bool.eq_iff_iff];simp [kidOk,isPg]
       case measure=>simp [intOf];omega
    · have hk1:((k:Int) == 0)=false:=by rw [beq_eq_false_iff_ne];omega
      rcases hn2 with⟨hn,hn1⟩ | ⟨hn,hn1⟩
      all_goals
       rcases hv2 with⟨hv,hv1⟩ | ⟨hv,hv1⟩
       all_goals
        go_wp2_with fail
        refine(must_any f 7 _ _ _ _ HA.out).mono ?_;rintro e w4 ⟨rfl,hs4,st4⟩;obtain⟨q0,q1,q2,q3,q4,q5,z0,z1⟩:=chkAt_rd hs4;obtain⟨i0,i1,i2,i3,z2⟩:=itm_rd hs4;go_wp2_with fail
        refine(bcompare_any h h _ _ x.key prev hbk hab hux.out hup.out _ hs4.right.right.right.own hs4.right.right.right.own).mono ?_;rintro e w4' ⟨rfl,rfl⟩;go_wp2_with fail
        refine(must_any _ 11 _ _ _ _ hs4).mono ?_;rintro e w8 ⟨rfl,hs8,st8⟩;clear q0 q1 q2 q3 q4 q5 z0 z1 i0 i1 i2 i3 z2;obtain⟨q0,q1,q2,q3,q4,q5,z0,z1⟩:=chkAt_rd hs8;obtain⟨i0,i1,i2,i3,z2⟩:=itm_rd hs8;go_wp2_with fail
        refine(must_any _ 8 _ _ _ _ hs8).mono ?_;rintro e w5 ⟨rfl,hs5,st5⟩;clear q0 q1 q2 q3 q4 q5 z0 z1 i0 i1 i2 i3 z2;obtain⟨q0,q1,q2,q3,q4,q5,z0,z1⟩:=chkAt_rd hs5;obtain⟨i0,i1,i2,i3,z2⟩:=itm_rd hs5;go_wp2_with fail
        refine(isPage_any _ _).mono ?_;rintro e w6 ⟨rfl,rfl⟩;go_wp2_with fail
        refine(must_any _ 15 _ _ _ _ hs5).mono ?_;rintro e w7 ⟨rfl,hs7,st7⟩;go_wp2;go_roundw
        case rel=>
         refine⟨k+1,_,x.key,by omega,congrArg (Value.int .i64) (by omega),HSTK.out.trans (st4.trans (st8.trans (st5.trans st7))),itm_drop hs7,hbk,hux,hQ (close4 ?_ ?_ ?_ ?_ HE.out)⟩
         · have hn':=hn.out
           rw [Bool.eq_iff_iff];unfold keyOk;rw [if_neg (by omega)];simp [-List.length_eq_zero_iff];try omega
         · rw [Bool.eq_iff_iff];simp [ordOk];try omega
         · have hv':=hv.out
           rw [Bool.eq_iff_iff];unfold valOk;rw [if_pos rfl];simp [-List.length_eq_zero_iff];try omega
         · rw [Bool.eq_iff_iff];simp [kidOk,isPg]
        case measure=>simp [intOf];omega
  · have hkl:k=its.length:=by omega
    subst hkl;have heq1:=heq.out;rw [List.drop_length] at heq1;have HE:=hQ heq1;clear heq heq1;go_wp2_with fail
    refine(must_any _ 15 true _ _ _ hs).mono ?_;rintro e w4 ⟨rfl,hs4,st4⟩;obtain⟨q0',_⟩:=chkAt_rd hs4;go_wp2;go_ret;refine⟨?_,hs4.right.right,hst.trans st4⟩;rw [← HE.out];show _=Ending.returned (Value.int .i64 (thenE (thenE f 0) 0))
    rw [thenE_zero,thenE_zero];rfl
end Go.Proofs.YtiegeadmgpanoaaGreatDoor.Y3
namespace Go.Proofs.YtiegeadmgpanoaaGreatDoor.Z3
open ChangeShapes WideShapes ChangeAt RowKit Sl Cop G2 J2 N2 P2 Q2 Q3 X3
theorem len_zero(l:List Int):(Hid (l.length=0)∧((l.length:Int) == 0)=true)∨(Hid (0<l.length)∧((l.length:Int) == 0)=false):=by
 rcases Nat.eq_zero_or_pos l.length with h | h
 · exact .inl ⟨hQ h,by rw [beq_iff_eq];omega⟩
 · exact .inr ⟨hQ h,by rw [beq_eq_false_iff_ne];omega⟩
theorem le_alloc {h:Hp}{w:World}(hl:h.le w)(o:Obj):h.le (w.alloc o):=fun k x e=>(Below.heap_alloc w o k (Array.getElem?_eq_some_iff.1 (hl k x e)).1).trans (hl k x e)
theorem rkey_any(h:Hp)(k l nx:Int)(a ad:Option Addr)(c d cd:Nat)(its:List ItemV)(hi:ItemsIn h (.slice a its.length c) its)(hk:k=1∨k=2)(i:Nat)(hlt:i<its.length)(w:World)(hh:h.le w):
 Calls Tryz.prog 142 #[pageV k l (.slice a its.length c) (.slice ad d cd) nx,.int .i64 (i:Int)] w fun e w'=>e= .returned (.bool (keyOk k i its[i]))∧Only w w':=by
 have fin:∀(b:Bool),b=keyOk k i its[i]→Ending.returned (Value.bool b)=Ending.returned (Value.bool (keyOk k i its[i])):=fun b e=>by rw [e]
 obtain⟨a',c',e',_,rd⟩:=items_rd hi;cases e';obtain⟨b,off,ak,ck,av,cv,rfl,hbk,hbv,hcell⟩:=rd i hlt;obtain⟨c0,c1,c2,c3⟩:=hcell _ (le_alloc hh (.cells #[.int .i64 k,.int .i64 l,.slice (some ⟨b,off,none⟩) its.length c,.slice ad d cd,.int .i64 nx] 83));clear hcell rd hi hbk hbv;have hlt':=hQ hlt;generalize its[i]=x at*;rcases Nat.eq_zero_or_pos i with hi0 | hi0
 · subst hi0
   simp only [Nat.zero_mul,Nat.add_zero] at c0 c1 c2 c3;rcases hk with rfl | rfl
   all_goals
    go_enter Tryz.func142,Tryz.ntmps142
    go_wp2;all_goals (go_ret;refine⟨fin _ ?_,((Only.refl w).alloc _)⟩;rw [Bool.eq_iff_iff];simp [keyOk];try omega)
 · have hk1:((i:Int) == 0)=false:=by rw [beq_eq_false_iff_ne];omega
   have hi1:i≠0:=by omega
   rcases hk with rfl | rfl
   all_goals
    go_enter Tryz.func142,Tryz.ntmps142
    go_wp2;all_goals (go_ret;refine⟨fin _ ?_,((Only.refl w).alloc _)⟩;rw [Bool.eq_iff_iff];simp [keyOk,hi1];try omega)
theorem rvalue_any(k l nx:Int)(vi vd:Value)(x:ItemV)(ak av:Option Addr)(ck cv:Nat)(hk:k=1∨k=2)(w:World):
 Calls Tryz.prog 143 #[pageV k l vi vd nx,itemV (.slice ak x.key.length ck) (.slice av x.value.length cv) x.child x.size] w fun e w'=>e= .returned (.bool (valOk k x))∧Only w w':=by
 have fin:∀(b:Bool),b=valOk k x→Ending.returned (Value.bool b)=Ending.returned (Value.bool (valOk k x)):=fun b e=>by rw [e]
 rcases hk with rfl | rfl
 · go_enter Tryz.func143,Tryz.ntmps143
   go_wp2;all_goals (go_ret;refine⟨fin _ ?_,((Only.refl w).alloc _).alloc _⟩;rw [Bool.eq_iff_iff];simp [valOk, -List.length_eq_zero_iff];try (split<;>omega);try omega)
 · rcases len_zero x.value with⟨hv,hv1⟩ | ⟨hv,hv1⟩
   all_goals
    go_enter Tryz.func143,Tryz.ntmps143
    go_wp2;go_ret;refine⟨fin _ ?_,((Only.refl w).alloc _).alloc _⟩;have hv':=hv.out;rw [Bool.eq_iff_iff];simp [valOk, -List.length_eq_zero_iff];try omega
theorem rchild_any(k l nx:Int)(vi vd:Value)(x:ItemV)(kv vv:Value)(hk:k=1∨k=2)(w:World):
 Calls Tryz.prog 144 #[pageV k l vi vd nx,itemV kv vv x.child x.size] w fun e w'=>e= .returned (.bool (kidOk k x))∧Only w w':=by
 have fin:∀(b:Bool),b=kidOk k x→Ending.returned (Value.bool b)=Ending.returned (Value.bool (kidOk k x)):=fun b e=>by rw [e]
 rcases hk with rfl | rfl
 · by_cases hs:x.size≤32
   · go_enter Tryz.func144,Tryz.ntmps144
     go_wp2;go_ret;refine⟨fin _ ?_,((Only.refl w).alloc _).alloc _⟩;rw [Bool.eq_iff_iff];simp [kidOk,hs]
   · have hs1:(x.size≤32)=False:=eq_false hs
     go_enter Tryz.func144,Tryz.ntmps144
     go_wp2_with fail
     refine(risPage_any _ _).mono ?_;rintro e w1 ⟨rfl,rfl⟩;go_wp2;go_ret;refine⟨fin _ ?_,((Only.refl w).alloc _).alloc _⟩;rw [show kidOk 1 x=isPg x.child from if_neg (fun h=>absurd h.2 (by omega))]
 · go_enter Tryz.func144,Tryz.ntmps144
   go_wp2_with fail
   refine(risPage_any _ _).mono ?_;rintro e w1 ⟨rfl,rfl⟩;go_wp2;go_ret;refine⟨fin _ ?_,((Only.refl w).alloc _).alloc _⟩;rw [Bool.eq_iff_iff];simp [kidOk]
end Go.Proofs.YtiegeadmgpanoaaGreatDoor.Z3
namespace Go.Cop
structure RangeV where
 lo:List Int
 hi:List Int
 op:Bool
def keyR(k:List Int):Bool:=decide (1≤k.length∧k.length≤24)
def hasR(r:RangeV)(k:List Int):Bool:=keyR k && (decide (0≤cmpI k r.lo) && (r.op || decide (cmpI k r.hi<0)))
def moreL(a b:List Int):List Int:=if cmpI a b<0 then b else a
def lessL(a b:List Int):List Int:=if 0<cmpI a b then b else a
def meetR(a b:RangeV):RangeV:=⟨moreL a.lo b.lo,if a.op && b.op then [] else if a.op then b.hi else if b.op then a.hi else lessL a.hi b.hi,a.op && b.op⟩
def everyR:RangeV:=⟨[],[],true⟩
structure RU8(r:RangeV):Prop where
 lo:U8 r.lo
 hi:U8 r.hi
structure RLen(n:Nat)(r:RangeV):Prop where
 lo:r.lo.length≤n
 hi:r.hi.length≤n
theorem moreL_or(a b:List Int):moreL a b=a∨moreL a b=b:=by unfold moreL;split<;>simp
theorem lessL_or(a b:List Int):lessL a b=a∨lessL a b=b:=by unfold lessL;split<;>simp
theorem meetR_u8 {a b:RangeV}(ha:RU8 a)(hb:RU8 b):RU8 (meetR a b):=by
 constructor
 · show U8 (moreL a.lo b.lo)
   rcases moreL_or a.lo b.lo with h | h<;>rw [h]
   · exact ha.lo
   · exact hb.lo
 · show U8 (if a.op && b.op then [] else if a.op then b.hi else if b.op then a.hi else lessL a.hi b.hi)
   split
   · exact fun z hz=>by cases hz
   · split
     · exact hb.hi
     · split
       · exact ha.hi
       · rcases lessL_or a.hi b.hi with h | h<;>rw [h]
         · exact ha.hi
         · exact hb.hi
theorem meetR_len {n:Nat}{a b:RangeV}(ha:RLen n a)(hb:RLen n b):RLen n (meetR a b):=by
 constructor
 · show (moreL a.lo b.lo).length≤n
   rcases moreL_or a.lo b.lo with h | h<;>rw [h]
   · exact ha.lo
   · exact hb.lo
 · show (if a.op && b.op then [] else if a.op then b.hi else if b.op then a.hi else lessL a.hi b.hi).length≤n
   split
   · exact Nat.zero_le _
   · split
     · exact hb.hi
     · split
       · exact ha.hi
       · rcases lessL_or a.hi b.hi with h | h<;>rw [h]
         · exact ha.hi
         · exact hb.hi
def zeroI:ItemV:=⟨[],[],0,0⟩
abbrev itemAt(l:List ItemV)(i:Nat):ItemV:=l.getD i zeroI
def ownR(l:List ItemV)(i:Nat):RangeV:=if i+1<l.length then⟨(itemAt l i).key,(itemAt l (i+1)).key,false⟩ else⟨(itemAt l i).key,[],true⟩
abbrev MetS:=List Int × Int
def enterK(look:Int→Option PageV)(M:List Int)(n:Int):Option PageV:=if n∈M then none else look n
def chainK(look:Int→Option PageV):Nat→Int→Int→List Int→Int × List Int
 | 0,_,_,M=>(0,M)
 | f+1,lack,n,M=>if lack≤0 then(0,M) else match enterK look M n with
   | none=>(15,M)
   | some g=>if g.kind≠3 then(15,n :: M) else if(g.data.length:Int)≠min lack 480∨¬(g.next=0↔lack≤480) then(5,n :: M) else chainK look f (lack-min lack 480) g.next (n :: M)
def itemK(look:Int→Option PageV)(x:ItemV)(r:RangeV)(s:MetS):Int × MetS:=
 if hasR r x.key=false then(11,s) else if x.size≤32 then(0,(s.1,s.2+1)) else((chainK look x.size.toNat x.size x.child s.1).1,((chainK look x.size.toNat x.size x.child s.1).2,s.2+1))
def foldK {σ:Type}(step:Nat→σ→Int × σ):Nat→Nat→σ→Int × σ
 | _,0,s=>(0,s)
 | i,k+1,s=>if(step i s).1≠0 then step i s else foldK step (i+1) k (step i s).2
def pageK(look:Int→Option PageV):Nat→Int→Int→RangeV→MetS→Int × MetS
 | 0,n,least,r,s=>match enterK look s.1 n with
   | none=>(15,s)
   | some g=>if g.kind≠1 then(15,(n :: s.1,s.2)) else if(g.items.length:Int)<least then(5,(n :: s.1,s.2)) else
     foldK (fun i s=>itemK look (itemAt g.items i) r s) 0 g.items.length (n :: s.1,s.2)
 | lv+1,n,least,r,s=>match enterK look s.1 n with
   | none=>(15,s)
   | some g=>if ¬(g.kind=2∧g.level=(lv:Int)+1) then(15,(n :: s.1,s.2)) else if(g.items.length:Int)<least then(5,(n :: s.1,s.2)) else
     foldK (fun i s=>pageK look lv (itemAt g.items i).child 4 (meetR r (ownR g.items i)) s) 0 g.items.length (n :: s.1,s.2)
def checkK(look:Int→Option PageV)(root height items:Int):Int:=
 if root=0∧height=0∧items=0 then 0 else if root=0∨height<1∨12<height∨items<1 then 5
 else if(pageK look (height-1).toNat root (min height 2) everyR ([],0)).1≠0 then(pageK look (height-1).toNat root (min height 2) everyR ([],0)).1
 else if(pageK look (height-1).toNat root (min height 2) everyR ([],0)).2.2≠items then 4 else 0
structure FormP(g:PageV):Prop where
 kind:g.kind=1∨g.kind=2∨g.kind=3
 leaf:g.kind=1→g.level=0∧1≤g.items.length
 index:g.kind=2→1≤g.level∧g.level<12∧2≤g.items.length
 blob:g.kind=3→g.level=0∧g.items.length=0
theorem form_of_check {g:PageV}(h:checkP g=0):FormP g:=by
 unfold checkP at h;split at h
 · cases h
 · rename_i hk
   split at h
   · cases h
   · rename_i hf
     have hk2:1≤g.kind∧g.kind≤3:=by simpa [kindOk] using hk
     have hf2:formP g.kind g.level g.items.length g.data.length g.next=true:=by simpa using hf
     unfold formP at hf2;refine⟨by omega,fun e=> ?_,fun e=> ?_,fun e=> ?_⟩
     · rw [if_pos e,decide_eq_true_eq] at hf2
       omega
     · rw [if_neg (by omega),if_pos e,decide_eq_true_eq] at hf2
       omega
     · rw [if_neg (by omega),if_neg (by omega),decide_eq_true_eq] at hf2
       omega
theorem lay_all {P:PageV→Prop}{cs:List Int}:∀(l:List NumV) (on:Int→Option PageV),(∀x∈l,checkP x.page=0→P x.page)→(∀n g,on n=some g→P g)→∀n g,(lay cs l on).2 n=some g→P g
 | [],on,_,h=>h
 | x :: l,on,hl,h=>by
   unfold lay;split
   · exact h
   · split
     · exact h
     · split
       · exact h
       · rename_i hc
         refine lay_all l _ (fun y hy=>hl y (by simp [hy])) fun n g hg=> ?_
         split at hg
         · cases hg
           exact hl x (by simp) (by simpa using hc)
         · exact h n g hg
theorem load_all {P:PageV→Prop}{refs:Int}{cs:List Int}{l:List NumV}(hl:∀x∈l,checkP x.page=0→P x.page){n:Int}{g:PageV}(h:(loadE refs cs l).2 n=some g):P g:=by
 unfold loadE at h;split at h
 · cases h
 · split at h
   · cases h
   · split at h
     · exact lay_all l _ hl (fun _ _ e=>by cases e) n g h
     · split at h
       · cases h
       · exact lay_all l _ hl (fun _ _ e=>by cases e) n g h
theorem chainK_more(look:Int→Option PageV):∀(f:Nat) (lack:Int) (n:Int) (M:List Int),lack.toNat≤f→chainK look f lack n M=chainK look lack.toNat lack n M
 | 0,lack,n,M,h=>by
   have:lack.toNat=0:=by omega
   rw [this]
 | f+1,lack,n,M,h=>by
   by_cases h0:lack≤0
   · have e:lack.toNat=0:=by omega
     rw [e];unfold chainK;rw [if_pos h0]
   · obtain⟨k,hk⟩:∃k,lack.toNat=k+1:=⟨lack.toNat-1,by omega⟩
     rw [hk];unfold chainK;rw [if_neg h0,if_neg h0];cases enterK look M n with
     | none=>rfl
     | some g=>
       dsimp only;split
       · rfl
       · split
         · rfl
         · rw [chainK_more look f _ _ _ (by omega),chainK_more look k _ _ _ (by omega)]
end Go.Cop
namespace Go.Cop
theorem cmp_eq:∀ {a b:List Int},cmpI a b=0→a=b
 | [],[],_=>rfl
 | [],_ :: _,h=>by simp [cmpI] at h
 | _ :: _,[],h=>by simp [cmpI] at h
 | x :: a,y :: b,h=>by
   unfold cmpI at h;split at h
   · cases h
   · split at h
     · cases h
     · rw [cmp_eq h,show x=y by omega]
theorem cmp_trans:∀ {a b c:List Int},cmpI a b≤0→cmpI b c≤0→cmpI a c≤0∧(cmpI a b<0∨cmpI b c<0→cmpI a c<0)
 | [],_,[],_,h2=>by
   refine⟨by simp [cmpI],fun h=> ?_⟩;rename_i b _;cases b with
   | nil=>simp [cmpI] at h
   | cons y b=>simp [cmpI] at h2
 | [],_,_ :: _,_,_=>⟨by simp [cmpI],fun _=>by simp [cmpI]⟩
 | x :: a,[],c,h1,_=>by simp [cmpI] at h1
 | x :: a,y :: b,[],_,h2=>by simp [cmpI] at h2
 | x :: a,y :: b,z :: c,h1,h2=>by
   unfold cmpI at h1 h2 ⊢;by_cases h3:x<y
   · by_cases h4:y<z
     · rw [if_pos (show x<z by omega)];exact⟨by omega,fun _=>by omega⟩
     · rw [if_neg h4] at h2
       by_cases h5:z<y
       · rw [if_pos h5] at h2;omega
       · rw [if_pos (show x<z by omega)];exact⟨by omega,fun _=>by omega⟩
   · rw [if_neg h3] at h1 ⊢
     by_cases h5:y<x
     · rw [if_pos h5] at h1;omega
     · rw [if_neg h5] at h1 ⊢
       have e:x=y:=by omega
       subst e;by_cases h4:x<z
       · rw [if_pos h4];exact⟨by omega,fun _=>by omega⟩
       · rw [if_neg h4] at h2 ⊢
         by_cases h6:z<x
         · rw [if_pos h6] at h2;omega
         · rw [if_neg h6] at h2 ⊢
           have:=cmp_trans h1 h2
           simpa [h4,h6] using this
theorem cmp_le {a b c:List Int}(h1:cmpI a b≤0)(h2:cmpI b c≤0):cmpI a c≤0:=(cmp_trans h1 h2).1
theorem cmp_lt_le {a b c:List Int}(h1:cmpI a b<0)(h2:cmpI b c≤0):cmpI a c<0:=(cmp_trans (by omega) h2).2 (.inl h1)
theorem cmp_le_lt {a b c:List Int}(h1:cmpI a b≤0)(h2:cmpI b c<0):cmpI a c<0:=(cmp_trans h1 (by omega)).2 (.inr h2)
theorem cmp_neg {a b:List Int}:0≤cmpI a b↔cmpI b a≤0:=by rw [cmp_anti a b];omega
theorem more_le(a b k:List Int):0≤cmpI k (moreL a b)↔0≤cmpI k a∧0≤cmpI k b:=by
 unfold moreL;rw [cmp_neg,cmp_neg,cmp_neg];split
 · rename_i h
   exact⟨fun h2=>⟨cmp_le (by omega) h2,h2⟩,fun h2=>h2.2⟩
 · rename_i h
   have h3:cmpI b a≤0:=by rw [cmp_anti];omega
   exact⟨fun h2=>⟨h2,cmp_le h3 h2⟩,fun h2=>h2.1⟩
theorem less_lt(a b k:List Int):cmpI k (lessL a b)<0↔cmpI k a<0∧cmpI k b<0:=by
 unfold lessL;split
 · rename_i h
   have h3:cmpI b a≤0:=by rw [cmp_anti];omega
   exact⟨fun h2=>⟨cmp_lt_le h2 h3,h2⟩,fun h2=>h2.2⟩
 · rename_i h
   exact⟨fun h2=>⟨h2,cmp_lt_le h2 (by omega)⟩,fun h2=>h2.1⟩
theorem has_meet(a b:RangeV)(k:List Int):hasR (meetR a b) k=(hasR a k && hasR b k):=by
 unfold hasR meetR;dsimp only;have h1:=more_le a.lo b.lo k;cases keyR k with
 | false=>simp
 | true=>
   have e1:decide (0≤cmpI k (moreL a.lo b.lo))=(decide (0≤cmpI k a.lo) && decide (0≤cmpI k b.lo)):=by
    rw [← Bool.decide_and];exact decide_eq_decide.2 h1
   rw [e1];cases ha:a.op<;>cases hb:b.op<;>simp
   · have e2:decide (cmpI k (lessL a.hi b.hi)<0)=(decide (cmpI k a.hi<0) && decide (cmpI k b.hi<0)):=by
      rw [← Bool.decide_and];exact decide_eq_decide.2 (less_lt a.hi b.hi k)
     rw [e2];cases decide (0≤cmpI k a.lo)<;>cases decide (0≤cmpI k b.lo)<;>cases decide (cmpI k a.hi<0)<;>cases decide (cmpI k b.hi<0)<;>rfl
   · cases decide (0≤cmpI k a.lo)<;>cases decide (0≤cmpI k b.lo)<;>cases decide (cmpI k a.hi<0)<;>rfl
   · cases decide (0≤cmpI k a.lo)<;>cases decide (0≤cmpI k b.lo)<;>cases decide (cmpI k b.hi<0)<;>rfl
def upL:List Int→List Int
 | []=> []
 | x :: l=>if upL l= [] then(if x=255 then [] else [x+1]) else x :: upL l
def fromL(k:List Int):List Int:=if keyR k then k else if k.length<24 then k++ [0] else upL (k.take 24)
def emptyR(r:RangeV):Bool:= !hasR r (fromL r.lo)
theorem up_len:∀l:List Int,(upL l).length≤l.length
 | []=>Nat.le_refl _
 | x :: l=>by
   have:=up_len l
   unfold upL;split
   · split<;>simp
   · simp;omega
theorem up_u8:∀ {l:List Int},U8 l→U8 (upL l)
 | [],_=>fun z hz=>by cases hz
 | x :: l,h=>by
   have hx:=h x (by simp);have ih:=up_u8 (l:=l) fun z hz=>h z (by simp [hz])
   unfold upL;split
   · split
     · exact fun z hz=>by cases hz
     · intro z hz
       rw [List.mem_singleton.1 hz];omega
   · intro z hz
     rcases List.mem_cons.1 hz with rfl | hz
     · exact hx
     · exact ih z hz
theorem up_le:∀(n:Nat) (p t k:List Int),p.length=n→t≠ []→k.length≤n→U8 k→U8 p→cmpI (p++t) k≤0→upL p≠ []∧cmpI p (upL p)<0∧cmpI (upL p) k≤0
 | 0,p,t,k,hp,ht,hk,_,_,h=>by
   obtain rfl:=List.length_eq_zero_iff.1 hp;obtain rfl:=List.length_eq_zero_iff.1 (Nat.le_zero.1 hk);cases t with
   | nil=>exact absurd rfl ht
   | cons y t=>simp [cmpI] at h
 | n+1,[],_,_,hp,_,_,_,_,_=>by simp at hp
 | n+1,x :: p,t,[],_,_,_,_,_,h=>by simp [cmpI] at h
 | n+1,x :: p,t,y :: k,hp,ht,hk,uk,up,h=>by
   have hx:=up x (by simp);have hy:=uk y (by simp);have ups:U8 p:=fun z hz=>up z (by simp [hz])
   have uks:U8 k:=fun z hz=>uk z (by simp [hz])
   simp only [List.cons_append] at h;unfold cmpI at h;by_cases h1:x<y
   · unfold upL
     split
     · rw [if_neg (by omega)]
       refine⟨by simp,?_,?_⟩
       · unfold cmpI;rw [if_pos (by omega)];omega
       · unfold cmpI
         split
         · omega
         · rw [if_neg (by omega)]
           cases k<;>simp [cmpI]
     · rename_i h2
       refine⟨by simp,?_,?_⟩
       · unfold cmpI
         rw [if_neg (by omega),if_neg (by omega)];exact up_gt p h2
       · unfold cmpI;rw [if_pos h1];omega
   · rw [if_neg h1] at h
     by_cases h2:y<x
     · rw [if_pos h2] at h;omega
     · rw [if_neg h2] at h
       have e:x=y:=by omega
       subst e;obtain⟨a1,a2,a3⟩:=up_le n p t k (by simpa using hp) ht (by simpa using hk) uks ups h;unfold upL;rw [if_neg a1];refine⟨by simp,?_,?_⟩
       · unfold cmpI;rw [if_neg (by omega),if_neg (by omega)];exact a2
       · unfold cmpI;rw [if_neg (by omega),if_neg (by omega)];exact a3
where
  up_gt : ∀ p : List Int, upL p ≠ [] → cmpI p (upL p) < 0
  | [], h => absurd rfl h
  | x :: p, h => by
    unfold upL at h ⊢
    by_cases h1 : upL p = []
    · rw [if_pos h1] at h ⊢
      by_cases h2 : x = 255
      · rw [if_pos h2] at h; exact absurd rfl h
      · rw [if_neg h2]
        unfold cmpI
        rw [if_pos (by omega)]; omega
    · rw [if_neg h1]
      unfold cmpI
      rw [if_neg (by omega), if_neg (by omega)]
      exact up_gt p h1
theorem up_above:∀(p t:List Int),upL p≠ []→cmpI (p++t) (upL p)≤0
 | [],_,h=>absurd rfl h
 | x :: p,t,h=>by
   unfold upL at h ⊢;simp only [List.cons_append];by_cases h1:upL p= []
   · rw [if_pos h1] at h ⊢
     by_cases h2:x=255
     · rw [if_pos h2] at h;exact absurd rfl h
     · rw [if_neg h2]
       unfold cmpI;rw [if_pos (by omega)];omega
   · rw [if_neg h1]
     unfold cmpI;rw [if_neg (by omega),if_neg (by omega)];exact up_above p t h1
theorem from_least {lo k:List Int}(hk:keyR k=true)(uk:U8 k)(ul:U8 lo)(h:0≤cmpI k lo):keyR (fromL lo)=true∧0≤cmpI (fromL lo) lo∧cmpI (fromL lo) k≤0:=by
 have hk2:1≤k.length∧k.length≤24:=by simpa [keyR] using hk
 rw [cmp_neg] at h;rw [cmp_neg];unfold fromL;split
 · rename_i h1
   exact⟨h1,by rw [cmp_self];omega,h⟩
 · rename_i h1
   have h1':¬(1≤lo.length∧lo.length≤24):=by simpa [keyR] using h1
   split
   · have:lo= []:=List.length_eq_zero_iff.1 (by omega)
     subst this;refine⟨by simp [keyR],by simp [cmpI],?_⟩;cases k with
     | nil=>simp at hk2
     | cons z k=>
       have:=uk z (by simp)
       show cmpI [0] (z :: k)≤0
       unfold cmpI;split
       · omega
       · split
         · omega
         · cases k<;>simp [cmpI]
   · have e:lo=lo.take 24++lo.drop 24:=(List.take_append_drop 24 lo).symm
     have ht:lo.drop 24≠ []:=fun e2=>by
      have:=congrArg List.length e2
      rw [List.length_drop] at this;simp at this
      omega
     have hl:(lo.take 24).length=24:=by rw [List.length_take];omega
     rw [e] at h;obtain⟨a1,a2,a3⟩:=up_le 24 (lo.take 24) (lo.drop 24) k hl ht hk2.2 uk (fun z hz=>ul z (List.mem_of_mem_take hz)) h;have hul:=up_len (lo.take 24);refine⟨?_,?_,a3⟩
     · have:1≤(upL (lo.take 24)).length:=by
        cases hq:upL (lo.take 24) with
        | nil=>exact absurd hq a1
        | cons _ _=>simp
       simp [keyR]
       omega
     · have h7:=up_above (lo.take 24) (lo.drop 24) a1
       rw [← e] at h7;exact h7
theorem empty_none {r:RangeV}(h:emptyR r=true)(ul:U8 r.lo){k:List Int}(uk:U8 k):hasR r k=false:=by
 cases hk:hasR r k with
 | false=>rfl
 | true=>
   exfalso;unfold hasR at hk;simp only [Bool.and_eq_true,decide_eq_true_eq,Bool.or_eq_true] at hk;obtain⟨h1,h2,h3⟩:=hk;obtain⟨f1,f2,f3⟩:=from_least h1 uk ul h2
   have:hasR r (fromL r.lo)=true:=by
    unfold hasR;rw [f1];simp only [Bool.true_and,Bool.and_eq_true,decide_eq_true_eq,Bool.or_eq_true];exact⟨f2,h3.imp id fun h4=>cmp_le_lt f3 h4⟩
   unfold emptyR at h;rw [this] at h;cases h
end Go.Cop
