/- A list of items is read; the conditions stand as hypotheses. -/
import Derived.Test.YtpfafhklppondaaGreatVaultCountsM12
import Derived.BigQuiet
import Derived.Test.YtpfafhklppondaaGreatVaultCountsM01
set_option maxRecDepth 100000
set_option maxHeartbeats 16000000
namespace Go.Sl
theorem flat_at {α:Type}(f:α→List Value)(k:Nat)(hf:∀x,(f x).length=k):∀(l:List α) (i j:Nat) (hi:i<l.length),j<k→(l.flatMap f)[i*k+j]? =(f l[i])[j]?
 | [],i,j,hi,_=>absurd hi (by simp)
 | x :: l,0,j,_,hj=>by
   simp only [List.flatMap_cons,Nat.zero_mul,Nat.zero_add,List.getElem_cons_zero];rw [List.getElem?_append_left (by rw [hf];exact hj)]
 | x :: l,i+1,j,hi,hj=>by
   have hx:=hf x;simp only [List.flatMap_cons,List.getElem_cons_succ];rw [List.getElem?_append_right (by rw [hx,Nat.succ_mul];omega),hx,show (i+1)*k+j-k=i*k+j by rw [Nat.succ_mul];omega];exact flat_at f k hf l i j (by simpa using hi) hj
theorem flat_len {α:Type}(f:α→List Value)(k:Nat)(hf:∀x,(f x).length=k):∀(l:List α),(l.flatMap f).length=l.length*k
 | []=>by simp
 | x :: l=>by simp only [List.flatMap_cons,List.length_append,List.length_cons,flat_len f k hf l,hf x,Nat.succ_mul];omega
theorem flat_set {α:Type}(f:α→List Value)(k:Nat)(hf:∀x,(f x).length=k)(j:Nat)(v:Value)(y:α)(hj:j<k):∀(l:List α) (i:Nat) (hi:i<l.length),(f l[i]).set j v=f y→(l.flatMap f).set (i*k+j) v=(l.set i y).flatMap f
 | [],i,hi,_=>absurd hi (by simp)
 | x :: l,0,_,e=>by
   simp only [List.flatMap_cons,Nat.zero_mul,Nat.zero_add,List.set_cons_zero,List.getElem_cons_zero] at e ⊢;rw [List.set_append_left _ _ (by rw [hf];exact hj),e]
 | x :: l,i+1,hi,e=>by
   have hx:=hf x;simp only [List.flatMap_cons,List.set_cons_succ,List.getElem_cons_succ] at e ⊢;rw [List.set_append_right _ _ (by rw [hx,Nat.succ_mul];omega),hx,show (i+1)*k+j-k=i*k+j by rw [Nat.succ_mul];omega];rw [flat_set f k hf j v y hj l i (by simpa using hi) e]
theorem Row.set {T k b c n:Nat}{xs:List Value}{F:Pr}{w:World}(h:Sat ((Row T k (.slice (some ⟨b,0,none⟩) n c) n xs).star F) w)(i:Nat)(hi:i<xs.length)(v:Value):
 Sat ((Row T k (.slice (some ⟨b,0,none⟩) n c) n (xs.set i v)).star F) (w.setCell ⟨b,i,none⟩ v):=by
 obtain⟨hl,(⟨e,_,_⟩ | ⟨b',cap,sp,e,h1,h2,h3,h4⟩)⟩:=Row.open' h
 · cases e
 · cases e
   have h5:=h4.setCell (i:=i) v;refine Row.mk' (sp:=sp) (by simpa using hl) (by simpa using h1) h2 h3 ?_
   have e6:(xs.set i v++sp).toArray=(xs++sp).toArray.setIfInBounds i v:=by
    rw [List.setIfInBounds_toArray,List.set_append_left _ _ hi]
   rw [e6];exact h5
end Go.Sl
namespace Go.Proofs.YtpfafhklppondaaGreat.P4
open ChangeShapes WideShapes ChangeAt RowKit Sl Cop Q2 X2 J4
abbrev itemV(kv vv:Value)(c s:Int):Value:= .agg #[kv,vv,.int .i64 c,.int .i64 s]
def ItemIn(h:Hp)(v:Value)(x:ItemV):Prop:= ∃kv vv,v=itemV kv vv x.child x.size∧Bytes h kv x.key∧Bytes h vv x.value
theorem ItemIn.sub {a b:Hp}(hs:a.sub b){v:Value}{x:ItemV}(h:ItemIn a v x):ItemIn b v x:=by
 obtain⟨kv,vv,e,h1,h2⟩:=h;exact⟨kv,vv,e,h1.sub hs,h2.sub hs⟩
theorem bytes_shape {h:Hp}{v:Value}{l:List Int}(hb:Bytes h v l):∃a c,v= .slice a l.length c:=by
 obtain⟨_,a,c,e,_⟩:=hb;exact⟨a,c,e⟩
def itCells(x:(Value × Value) × ItemV):List Value:= [x.1.1,x.1.2,.int .i64 x.2.child,.int .i64 x.2.size]
theorem items_rd {h:Hp}{vi:Value}{l:List ItemV}(hi:ItemsIn h vi l):∃a c,vi= .slice a l.length c∧c≤maxLen∧∀i (hl:i<l.length),∃b off ak ck av cv,a=some ⟨b,off,none⟩∧
 Bytes h (.slice ak l[i].key.length ck) l[i].key∧Bytes h (.slice av l[i].value.length cv) l[i].value∧
 ∀w,h.le w→w.cell? ⟨b,off+i*4,none⟩=some (.slice ak l[i].key.length ck)∧w.cell? ⟨b,off+i*4+1,none⟩=some (.slice av l[i].value.length cv)∧
  w.cell? ⟨b,off+i*4+2,none⟩=some (.int .i64 l[i].child)∧w.cell? ⟨b,off+i*4+3,none⟩=some (.int .i64 l[i].size):=by
 obtain⟨xs,hxl,⟨hlen,a,c,e,_,hcm,hc⟩,hb⟩:=hi;refine⟨a,c,e,hcm,fun i hl=> ?_⟩;obtain⟨b,off,ea,hcell⟩:=hc (by omega);have hxi:i<xs.length:=by omega
 obtain⟨h1,h2⟩:=hb i hxi hl;obtain⟨ak,ck,e1⟩:=bytes_shape h1;obtain⟨av,cv,e2⟩:=bytes_shape h2;have hz:i<(xs.zip l).length:=by simp;omega
 have ez:(xs.zip l)[i]=(xs[i],l[i]):=by simp
 refine⟨b,off,ak,ck,av,cv,ea,e1 ▸ h1,e2 ▸ h2,fun w hw=> ?_⟩
 have at':∀j,j<4→∀v,(itCells (xs[i],l[i]))[j]? =some v→w.cell? ⟨b,off+i*4+j,none⟩=some v:=by
  intro j hj v hv;have h3:=hcell (i*4+j) (by omega);have h4:=flat_at itCells 4 (fun _=>rfl) (xs.zip l) i j hz hj;rw [ez,hv] at h4;rw [Nat.add_assoc];exact Hp.cell_le hw (h3.trans h4)
 have k0:=at' 0 (by omega) _ rfl;have k1:=at' 1 (by omega) _ rfl;have k2:=at' 2 (by omega) _ rfl;have k3:=at' 3 (by omega) _ rfl;dsimp only at k0 k1;rw [e1] at k0;rw [e2] at k1;exact⟨k0,k1,k2,k3⟩
theorem items_mk' {h:Hp}{vi:Value}{l:List ItemV}(xs:List (Value × Value))(hxl:xs.length=l.length)(hr:RowIn h 4 vi l.length ((xs.zip l).flatMap itCells))
 (hb:∀i (hx:i<xs.length) (hl:i<l.length),Bytes h xs[i].1 l[i].key∧Bytes h xs[i].2 l[i].value):ItemsIn h vi l:=⟨xs,hxl,hr,hb⟩
end Go.Proofs.YtpfafhklppondaaGreat.P4
namespace Go.Cop
structure NumV where
 no:Int
 page:PageV
abbrev zeroP:PageV:=⟨0,0,[],[],0⟩
def rangeOk(pages refs:Int):Bool:=decide (1≤pages∧pages≤65536∧2≤refs∧refs<65536)
def cntL(cs:List Int)(n:Int):Int:=if 1≤n∧n≤cs.length then cs.getD (n.toNat-1) 0 else 0
def lay(cs:List Int):List NumV→(Int→Option PageV)→Int × (Int→Option PageV)
 | [],on=>(0,on)
 | x :: l,on=>if cntL cs x.no=0 then(15,on) else if(on x.no).isSome then(10,on) else if checkP x.page≠0 then(checkP x.page,on) else lay cs l (fun m=>if m=x.no then some x.page else on m)
def lacks(cs:List Int)(on:Int→Option PageV):Bool:=(List.range cs.length).any fun i=>decide (cs.getD i 0≠0) && (on ((i:Int)+1)).isNone
def badC(refs:Int)(cs:List Int):Bool:=cs.any fun c=>decide (c<0∨refs<c)
def loadE(refs:Int)(cs:List Int)(l:List NumV):Int × (Int→Option PageV):=
 if rangeOk cs.length refs=false then(1,fun _=>none)
 else if badC refs cs=true then(13,fun _=>none)
 else if(lay cs l fun _=>none).1≠0 then lay cs l fun _=>none
 else if lacks cs (lay cs l fun _=>none).2=true then(9,fun _=>none) else lay cs l fun _=>none
structure OnOk(cs:List Int)(on:Int→Option PageV):Prop where
 there:∀n g,on n=some g→cntL cs n≠0
 fit:∀n g,on n=some g→Fit g
theorem OnOk.none(cs:List Int):OnOk cs fun _=>none:=⟨fun _ _ e=>(by cases e),fun _ _ e=>(by cases e)⟩
theorem OnOk.put {cs:List Int}{on:Int→Option PageV}(h:OnOk cs on){x:NumV}(h1:cntL cs x.no≠0)(h2:checkP x.page=0):OnOk cs fun m=>if m=x.no then some x.page else on m:=by
 constructor
 · intro n g e
   split at e
   · rename_i hn;rw [hn];exact h1
   · exact h.there n g e
 · intro n g e
   split at e
   · cases e;exact fit_of_check h2
   · exact h.fit n g e
def lookL(cs:List Int)(on:Int→Option PageV)(n:Int):Option PageV:=if cntL cs n=0 then none else some ((on n).getD zeroP)
def chainL(look:Int→Option PageV)(size:Nat):Nat→List Int→Int→List Int × Int
 | 0,out,_=>(out,0)
 | k+1,out,n=>if size≤out.length then(out,0) else match look n with
   | none=>([],15)
   | some g=>if g.kind≠3 then([],15)
     else if(g.data.length=min (size-out.length) 480∧((g.next=0)↔(size-out.length≤480))) then chainL look size k (out++g.data) g.next else([],5)
def valueL(look:Int→Option PageV)(size child:Int)(value:List Int):List Int × Int:=
 if size<0∨3840<size∨(size≤32∧(value.length:Int)≠size) then([],8)
 else if size≤32 then(value,0) else chainL look size.toNat size.toNat [] child
end Go.Cop
namespace Go.Proofs.YtpfafhklppondaaGreat.Q4
open ChangeShapes WideShapes ChangeAt RowKit Sl Cop Q2 X2 D3 F3 G3 J4 P4
def ChkAt(fb pb:Nat)(f k l:Int)(vi vd:Value)(nx:Int)(R:Pr):Pr:=
 (Pr.pts fb (.cells #[.int .i64 f] 25)).star ((Pr.pts pb (.cells #[.int .i64 k,.int .i64 l,vi,vd,.int .i64 nx] 37)).star R)
theorem chkAt_rd {fb pb:Nat}{f k l:Int}{vi vd:Value}{nx:Int}{R:Pr}{w:World}(h:Sat (ChkAt fb pb f k l vi vd nx R) w):
 w.cell? ⟨fb,0,none⟩=some (.int .i64 f)∧w.cell? ⟨pb,0,none⟩=some (.int .i64 k)∧w.cell? ⟨pb,1,none⟩=some (.int .i64 l)∧w.cell? ⟨pb,2,none⟩=some vi∧w.cell? ⟨pb,3,none⟩=some vd∧w.cell? ⟨pb,4,none⟩=some (.int .i64 nx)∧fb<w.heap.size∧pb<w.heap.size:=by
 have h1:=h.pts_heap;have h2:=(h.right).pts_heap;refine⟨by rw [cell_of_heap h1];rfl,by rw [cell_of_heap h2];rfl,by rw [cell_of_heap h2];rfl,by rw [cell_of_heap h2];rfl,by rw [cell_of_heap h2];rfl,by rw [cell_of_heap h2];rfl,h.lt,h.right.lt⟩
theorem chk_start {k l:Int}{vi vd:Value}{nx:Int}{R:Pr}{w:World}(h:Sat R w):
 Sat (ChkAt (w.heap.size+1) w.heap.size 0 k l vi vd nx R) ((w.alloc (.cells #[.int .i64 k,.int .i64 l,vi,vd,.int .i64 nx] 37)).alloc (.cells #[.int .i64 0] 25)):=by
 have h1:=(h.alloc (.cells #[.int .i64 k,.int .i64 l,vi,vd,.int .i64 nx] 37)).alloc (.cells #[.int .i64 0] 25);rw [show (w.alloc (.cells #[.int .i64 k,.int .i64 l,vi,vd,.int .i64 nx] 37)).heap.size=w.heap.size+1 by simp] at h1;exact h1
theorem itm_start {fb pb:Nat}{f k l:Int}{vi vd:Value}{nx:Int}{R:Pr}{w:World}{kv vv:Value}{c sz:Int}(h:Sat (ChkAt fb pb f k l vi vd nx R) w):
 Sat (ChkAt fb pb f k l vi vd nx ((Pr.pts w.heap.size (.cells #[kv,vv,.int .i64 c,.int .i64 sz] 49)).star R)) (w.alloc (.cells #[kv,vv,.int .i64 c,.int .i64 sz] 49)):=by
 have h1:=h.alloc (.cells #[kv,vv,.int .i64 c,.int .i64 sz] 49);exact h1.perm (by unfold ChkAt;ac_rfl)
theorem itm_rd {fb pb xb:Nat}{f k l:Int}{vi vd:Value}{nx:Int}{R:Pr}{w:World}{kv vv:Value}{c sz:Int}(h:Sat (ChkAt fb pb f k l vi vd nx ((Pr.pts xb (.cells #[kv,vv,.int .i64 c,.int .i64 sz] 49)).star R)) w):
 w.cell? ⟨xb,0,none⟩=some kv∧w.cell? ⟨xb,1,none⟩=some vv∧w.cell? ⟨xb,2,none⟩=some (.int .i64 c)∧w.cell? ⟨xb,3,none⟩=some (.int .i64 sz)∧xb<w.heap.size:=by
 have h1:=h.right.right.pts_heap;exact⟨by rw [cell_of_heap h1];rfl,by rw [cell_of_heap h1];rfl,by rw [cell_of_heap h1];rfl,by rw [cell_of_heap h1];rfl,h.right.right.lt⟩
theorem itm_drop {fb pb xb:Nat}{f k l:Int}{vi vd:Value}{nx:Int}{R:Pr}{w:World}{o:Obj}(h:Sat (ChkAt fb pb f k l vi vd nx ((Pr.pts xb o).star R)) w):Sat (ChkAt fb pb f k l vi vd nx R) w:=by
 have h1:Sat ((Pr.pts xb o).star (ChkAt fb pb f k l vi vd nx R)) w:=h.perm (by unfold ChkAt;ac_rfl);exact h1.right
theorem close4 {f rest T:Int}{kk:Int}{i:Nat}{prev:List Int}{x:ItemV}{b7 b11 b8 b15:Bool}(h7:keyOk kk i x=b7)(h11:ordOk i prev x=b11)(h8:valOk kk x=b8)(h15:kidOk kk x=b15)
 (he:thenE f (thenE (thenE (if keyOk kk i x then 0 else 7) (thenE (if ordOk i prev x then 0 else 11) (thenE (if valOk kk x then 0 else 8) (if kidOk kk x then 0 else 15)))) rest)=T):
 thenE (mustP (mustP (mustP (mustP f b7 7) b11 11) b8 8) b15 15) rest=T:=by
 rw [← he,h7,h11,h8,h15];simp only [mustP_then,thenE_assoc]
theorem close3 {f rest T:Int}{kk:Int}{i:Nat}{prev:List Int}{x:ItemV}{b7 b8 b15:Bool}(h7:keyOk kk i x=b7)(h11:ordOk i prev x=true)(h8:valOk kk x=b8)(h15:kidOk kk x=b15)
 (he:thenE f (thenE (thenE (if keyOk kk i x then 0 else 7) (thenE (if ordOk i prev x then 0 else 11) (thenE (if valOk kk x then 0 else 8) (if kidOk kk x then 0 else 15)))) rest)=T):
 thenE (mustP (mustP (mustP f b7 7) b8 8) b15 15) rest=T:=by
 rw [← he,h7,h11,h8,h15];simp only [mustP_then,thenE_assoc,if_true,zero_thenE]
theorem len_dec(l:List Int):(Hid (l.length=0)∧(1≤(l.length:Int))=False)∨(Hid (0<l.length)∧(1≤(l.length:Int))=True):=by
 rcases Nat.eq_zero_or_pos l.length with h | h
 · exact .inl ⟨hQ h,eq_false (by omega)⟩
 · exact .inr ⟨hQ h,eq_true (by omega)⟩
theorem len_zero(l:List Int):(Hid (l.length=0)∧((l.length:Int) == 0)=true)∨(Hid (0<l.length)∧((l.length:Int) == 0)=false):=by
 rcases Nat.eq_zero_or_pos l.length with h | h
 · exact .inl ⟨hQ h,by rw [beq_iff_eq];omega⟩
 · exact .inr ⟨hQ h,by rw [beq_eq_false_iff_ne];omega⟩
theorem mustP_22(b:Bool):mustP (mustP 0 false 22) b 5=22:=by cases b<;>rfl
theorem check_kind(ai ad:Option Addr)(n ci d cd:Nat)(k l nx:Int)(hk:¬(1≤k∧k≤3))(F:Pr)(w:World)(hF:Sat F w):
 Calls Tryz.prog 71 #[pageV k l (.slice ai n ci) (.slice ad d cd) nx] w fun e w'=>e= .returned (.int .i64 22)∧Sat F w'∧Stays w w':=by
 have h0:=chk_start (k:=k) (l:=l) (vi:= .slice ai n ci) (vd:= .slice ad d cd) (nx:=nx) hF;have H0:=hQ h0;have HST:=hQ (((Stays.refl w).alloc (.cells #[.int .i64 k,.int .i64 l,.slice ai n ci,.slice ad d cd,.int .i64 nx] 37)).alloc (.cells #[.int .i64 0] 25));have MB:=fun(F:Pr) (w:World) (f:Int) (b:Bool) (x:Int) (hF:Sat ((Pr.pts (w.heap.size+1) (.cells #[.int .i64 f] 25)).star F) w)=>hQ hF
 clear h0 hF MB;by_cases h1:1≤k
 · have h3:¬k≤3:=by omega
   go_enter Tryz.func71,Tryz.ntmps71
   go_wp2_with fail
   refine(must_any 0 22 false _ _ _ H0.out).mono ?_;rintro e w1 ⟨rfl,hs1,st1⟩;obtain⟨q0,q1,q2,q3,q4,q5,z0,z1⟩:=chkAt_rd (f:=mustP 0 false 22) hs1;go_wp2_with fail
   refine(form_any ai ad n ci d cd k l nx _).mono ?_;rintro e w2 ⟨rfl,ho⟩;go_wp2_with fail
   refine(must_any _ 5 _ _ _ _ (hs1.only ho)).mono ?_;rintro e w3 ⟨rfl,hs3,st3⟩;rw [mustP_22] at hs3;obtain⟨q0',_⟩:=chkAt_rd (f:=22) hs3;go_wp2;go_ret;exact⟨rfl,hs3.right.right,HST.out.trans (st1.trans (ho.st.trans st3))⟩
 · go_enter Tryz.func71,Tryz.ntmps71
   go_wp2_with fail
   refine(must_any 0 22 false _ _ _ H0.out).mono ?_;rintro e w1 ⟨rfl,hs1,st1⟩;obtain⟨q0,q1,q2,q3,q4,q5,z0,z1⟩:=chkAt_rd (f:=mustP 0 false 22) hs1;go_wp2_with fail
   refine(form_any ai ad n ci d cd k l nx _).mono ?_;rintro e w2 ⟨rfl,ho⟩;go_wp2_with fail
   refine(must_any _ 5 _ _ _ _ (hs1.only ho)).mono ?_;rintro e w3 ⟨rfl,hs3,st3⟩;rw [mustP_22] at hs3;obtain⟨q0',_⟩:=chkAt_rd (f:=22) hs3;go_wp2;go_ret;exact⟨rfl,hs3.right.right,HST.out.trans (st1.trans (ho.st.trans st3))⟩
theorem check_form(ai ad:Option Addr)(n ci d cd:Nat)(k l nx:Int)(hk:1≤k∧k≤3)(hf:formP k l n d nx=false)(F:Pr)(w:World)(hF:Sat F w):
 Calls Tryz.prog 71 #[pageV k l (.slice ai n ci) (.slice ad d cd) nx] w fun e w'=>e= .returned (.int .i64 5)∧Sat F w'∧Stays w w':=by
 have h0:=chk_start (k:=k) (l:=l) (vi:= .slice ai n ci) (vd:= .slice ad d cd) (nx:=nx) hF;have H0:=hQ h0;have HST:=hQ (((Stays.refl w).alloc (.cells #[.int .i64 k,.int .i64 l,.slice ai n ci,.slice ad d cd,.int .i64 nx] 37)).alloc (.cells #[.int .i64 0] 25));clear h0 hF;obtain⟨h1,h3⟩:=hk;go_enter Tryz.func71,Tryz.ntmps71
 go_wp2_with fail
 refine(must_any 0 22 true _ _ _ H0.out).mono ?_;rintro e w1 ⟨rfl,hs1,st1⟩;obtain⟨q0,q1,q2,q3,q4,q5,z0,z1⟩:=chkAt_rd (f:=mustP 0 true 22) hs1;go_wp2_with fail
 refine(form_any ai ad n ci d cd k l nx _).mono ?_;rintro e w2 ⟨rfl,ho⟩;rw [hf];go_wp2_with fail
 refine(must_any _ 5 _ _ _ _ (hs1.only ho)).mono ?_;rintro e w3 ⟨rfl,hs3,st3⟩;obtain⟨q0',_⟩:=chkAt_rd (f:=5) hs3;go_wp2;go_ret;exact⟨rfl,hs3.right.right,HST.out.trans (st1.trans (ho.st.trans st3))⟩
theorem check_index(h:Hp)(a ad:Option Addr)(c d cd:Nat)(its:List ItemV)(l nx:Int)(hi:ItemsIn h (.slice a its.length c) its)(hu:∀x∈its,U8 x.key)(hf:formP 2 l its.length d nx=true)(F:Pr)(w:World)(hF:Sat ((Pr.own h).star F) w):
 Calls Tryz.prog 71 #[pageV 2 l (.slice a its.length c) (.slice ad d cd) nx] w fun e w'=>e= .returned (.int .i64 (thenE (itemsE 2 0 [] its) (if nextOk nx then 0 else 15)))∧Sat ((Pr.own h).star F) w'∧Stays w w':=by
 have hnx:nx=0:=by unfold formP at hf;simp at hf;omega
 have hnl:its.length≤8:=by unfold formP at hf;simp at hf;omega
 subst hnx;obtain⟨a',c',e',_,rd⟩:=items_rd hi;cases e';have h0:=chk_start (k:=2) (l:=l) (vi:= .slice a its.length c) (vd:= .slice ad d cd) (nx:=0) hF;have H0:=hQ h0;have RD:=hQ rd;have HU:=hQ hu;have HST:=hQ (((Stays.refl w).alloc (.cells #[.int .i64 2,.int .i64 l,.slice a its.length c,.slice ad d cd,.int .i64 0] 37)).alloc (.cells #[.int .i64 0] 25));clear h0 hF rd hu
 go_enter Tryz.func71,Tryz.ntmps71
 go_wp2_with fail
 refine(must_any 0 22 true _ _ _ H0.out).mono ?_;rintro e w1 ⟨rfl,hs1,st1⟩;obtain⟨q0,q1,q2,q3,q4,q5,z0,z1⟩:=chkAt_rd (f:=mustP 0 true 22) hs1;go_wp2_with fail
 refine(form_any a ad its.length c d cd 2 l 0 _).mono ?_;rintro e w2 ⟨rfl,ho⟩;rw [hf];go_wp2_with fail
 refine(must_any _ 5 _ _ _ _ (hs1.only ho)).mono ?_;rintro e w3 ⟨rfl,hs3,st3⟩;have HST3:=hQ (HST.out.trans (st1.trans (ho.st.trans st3)));have hs3':Sat (ChkAt (w.heap.size+1) w.heap.size 0 2 l (.slice a its.length c) (.slice ad d cd) 0 ((Pr.own h).star F)) w3:=hs3;clear q0 q1 q2 q3 q4 q5 z0 z1 hs1 hs3 st1 ho st3 HST H0;obtain⟨q0,q1,q2,q3,q4,q5,z0,z1⟩:=chkAt_rd hs3';have H3:=hQ hs3';clear hs3'
 go_wp2_with fail
 go_loopw [5,30] (fun above i wr=> ∃(k:Nat) (f:Int) (prev:List Int),k≤its.length∧i= .int .i64 k∧Stays w wr∧Sat (ChkAt (w.heap.size+1) w.heap.size f 2 l (.slice a its.length c) (.slice ad d cd) 0 ((Pr.own h).star F)) wr∧Bytes h above prev∧Hid (U8 prev)∧
  Hid (thenE f (itemsE 2 k prev (its.drop k))=itemsE 2 0 [] its)) (fun _ i _=>its.length-(intOf i).toNat)
 case atStart=>exact⟨0,0,[],Nat.zero_le _,rfl,HST3.out,H3.out,RowIn.nil _ _,hQ (fun z hz=>by cases hz),hQ rfl⟩
 case round=>
  obtain⟨k,f,prev,hk,rfl,hst,hs,hab,hup,heq⟩:=hrel;clear q0 q1 q2 q3 q4 q5 z0 z1;obtain⟨q0,q1,q2,q3,q4,q5,z0,z1⟩:=chkAt_rd hs;rcases Nat.lt_or_ge k its.length with hlt | hge
  · obtain⟨b,off,ak,ck,av,cv,rfl,hbk,hbv,hcell⟩:=RD.out k hlt
    obtain⟨c0,c1,c2,c3⟩:=hcell wr hs.right.right.own;have heq1:=heq.out;rw [drop_at hlt,itemsE_cons,itemE_then] at heq1;have HE:=hQ heq1;have hux:=hQ (HU.out its[k] (List.getElem_mem hlt));clear hcell heq heq1;generalize its[k]=x at*;have HA:=hQ (itm_start (kv:= .slice ak x.key.length ck) (vv:= .slice av x.value.length cv) (c:=x.child) (sz:=x.size) hs)
    have HSTK:=hQ (hst.alloc (.cells #[.slice ak x.key.length ck,.slice av x.value.length cv,.int .i64 x.child,.int .i64 x.size] 49));clear hs hst;have hn2:=len_dec x.key;have hv2:=len_zero x.value;rcases Nat.eq_zero_or_pos k with hk0 | hk0
    · subst hk0
      simp only [Nat.zero_mul,Nat.add_zero] at c0 c1 c2 c3;rcases hv2 with⟨hv,hv1⟩ | ⟨hv,hv1⟩
      all_goals
       go_wp2_with fail
       refine(must_any f 7 _ _ _ _ HA.out).mono ?_;rintro e w4 ⟨rfl,hs4,st4⟩;obtain⟨q0,q1,q2,q3,q4,q5,z0,z1⟩:=chkAt_rd hs4;obtain⟨i0,i1,i2,i3,z2⟩:=itm_rd hs4;go_wp2_with fail
       refine(must_any _ 8 _ _ _ _ hs4).mono ?_;rintro e w5 ⟨rfl,hs5,st5⟩;clear q0 q1 q2 q3 q4 q5 z0 z1 i0 i1 i2 i3 z2;obtain⟨q0,q1,q2,q3,q4,q5,z0,z1⟩:=chkAt_rd hs5;obtain⟨i0,i1,i2,i3,z2⟩:=itm_rd hs5;go_wp2_with fail
       refine(isPage_any _ _).mono ?_;rintro e w6 ⟨rfl,rfl⟩;go_wp2_with fail
       refine(must_any _ 15 _ _ _ _ hs5).mono ?_;rintro e w7 ⟨rfl,hs7,st7⟩;go_wp2;go_roundw
       case rel=>
        refine⟨1,_,x.key,by omega,rfl,HSTK.out.trans (st4.trans (st5.trans st7)),itm_drop hs7,hbk,hux,hQ (close3 ?_ rfl ?_ ?_ HE.out)⟩
        · rw [Bool.eq_iff_iff];simp [keyOk]
        · have hv':=hv.out
          rw [Bool.eq_iff_iff];unfold valOk;rw [if_pos rfl];simp [-List.length_eq_zero_iff];try omega
        · rw [Bool.eq_iff_iff];simp [kidOk,isPg]
       case measure=>simp [intOf];omega
    · have hk1:((k:Int) == 0)=false:=by rw [beq_eq_false_iff_ne];omega
      rcases hn2 with⟨hn,hn1⟩ | ⟨hn,hn1⟩
      all_goals
       rcases hv2 with⟨hv,hv1⟩ | ⟨hv,hv1⟩
       all_goals
        go_wp2_with fail
        refine(must_any f 7 _ _ _ _ HA.out).mono ?_;rintro e w4 ⟨rfl,hs4,st4⟩;obtain⟨q0,q1,q2,q3,q4,q5,z0,z1⟩:=chkAt_rd hs4;obtain⟨i0,i1,i2,i3,z2⟩:=itm_rd hs4;go_wp2_with fail
        refine(bcompare_any h h _ _ x.key prev hbk hab hux.out hup.out _ hs4.right.right.right.own hs4.right.right.right.own).mono ?_;rintro e w4' ⟨rfl,rfl⟩;go_wp2_with fail
        refine(must_any _ 11 _ _ _ _ hs4).mono ?_;rintro e w8 ⟨rfl,hs8,st8⟩;clear q0 q1 q2 q3 q4 q5 z0 z1 i0 i1 i2 i3 z2;obtain⟨q0,q1,q2,q3,q4,q5,z0,z1⟩:=chkAt_rd hs8;obtain⟨i0,i1,i2,i3,z2⟩:=itm_rd hs8;go_wp2_with fail
        refine(must_any _ 8 _ _ _ _ hs8).mono ?_;rintro e w5 ⟨rfl,hs5,st5⟩;clear q0 q1 q2 q3 q4 q5 z0 z1 i0 i1 i2 i3 z2;obtain⟨q0,q1,q2,q3,q4,q5,z0,z1⟩:=chkAt_rd hs5;obtain⟨i0,i1,i2,i3,z2⟩:=itm_rd hs5;go_wp2_with fail
        refine(isPage_any _ _).mono ?_;rintro e w6 ⟨rfl,rfl⟩;go_wp2_with fail
        refine(must_any _ 15 _ _ _ _ hs5).mono ?_;rintro e w7 ⟨rfl,hs7,st7⟩;go_wp2;go_roundw
        case rel=>
         refine⟨k+1,_,x.key,by omega,congrArg (Value.int .i64) (by omega),HSTK.out.trans (st4.trans (st8.trans (st5.trans st7))),itm_drop hs7,hbk,hux,hQ (close4 ?_ ?_ ?_ ?_ HE.out)⟩
         · have hn':=hn.out
           rw [Bool.eq_iff_iff];unfold keyOk;rw [if_neg (by omega)];simp [-List.length_eq_zero_iff];try omega
         · rw [Bool.eq_iff_iff];simp [ordOk];try omega
         · have hv':=hv.out
           rw [Bool.eq_iff_iff];unfold valOk;rw [if_pos rfl];simp [-List.length_eq_zero_iff];try omega
         · rw [Bool.eq_iff_iff];simp [kidOk,isPg]
        case measure=>simp [intOf];omega
  · have hkl:k=its.length:=by omega
    subst hkl;have heq1:=heq.out;rw [List.drop_length] at heq1;have HE:=hQ heq1;clear heq heq1;go_wp2_with fail
    refine(must_any _ 15 true _ _ _ hs).mono ?_;rintro e w4 ⟨rfl,hs4,st4⟩;obtain⟨q0',_⟩:=chkAt_rd hs4;go_wp2;go_ret;refine⟨?_,hs4.right.right,hst.trans st4⟩;rw [← HE.out];show _=Ending.returned (Value.int .i64 (thenE (thenE f 0) 0))
    rw [thenE_zero,thenE_zero];rfl
end Go.Proofs.YtpfafhklppondaaGreat.Q4
namespace Go.Proofs.YtpfafhklppondaaGreat.U4
open ChangeShapes WideShapes ChangeAt RowKit Sl Cop Q2 X2 D3 F3 G3 J4 P4
theorem len_zero(l:List Int):(Hid (l.length=0)∧((l.length:Int) == 0)=true)∨(Hid (0<l.length)∧((l.length:Int) == 0)=false):=by
 rcases Nat.eq_zero_or_pos l.length with h | h
 · exact .inl ⟨hQ h,by rw [beq_iff_eq];omega⟩
 · exact .inr ⟨hQ h,by rw [beq_eq_false_iff_ne];omega⟩
theorem le_alloc {h:Hp}{w:World}(hl:h.le w)(o:Obj):h.le (w.alloc o):=fun k x e=>(Below.heap_alloc w o k (Array.getElem?_eq_some_iff.1 (hl k x e)).1).trans (hl k x e)
theorem rkey_any(h:Hp)(k l nx:Int)(a ad:Option Addr)(c d cd:Nat)(its:List ItemV)(hi:ItemsIn h (.slice a its.length c) its)(hk:k=1∨k=2)(i:Nat)(hlt:i<its.length)(w:World)(hh:h.le w):
 Calls Tryz.prog 132 #[pageV k l (.slice a its.length c) (.slice ad d cd) nx,.int .i64 (i:Int)] w fun e w'=>e= .returned (.bool (keyOk k i its[i]))∧Only w w':=by
 have fin:∀(b:Bool),b=keyOk k i its[i]→Ending.returned (Value.bool b)=Ending.returned (Value.bool (keyOk k i its[i])):=fun b e=>by rw [e]
 obtain⟨a',c',e',_,rd⟩:=items_rd hi;cases e';obtain⟨b,off,ak,ck,av,cv,rfl,hbk,hbv,hcell⟩:=rd i hlt;obtain⟨c0,c1,c2,c3⟩:=hcell _ (le_alloc hh (.cells #[.int .i64 k,.int .i64 l,.slice (some ⟨b,off,none⟩) its.length c,.slice ad d cd,.int .i64 nx] 37));clear hcell rd hi hbk hbv;have hlt':=hQ hlt;generalize its[i]=x at*;rcases Nat.eq_zero_or_pos i with hi0 | hi0
 · subst hi0
   simp only [Nat.zero_mul,Nat.add_zero] at c0 c1 c2 c3;rcases hk with rfl | rfl
   all_goals
    go_enter Tryz.func132,Tryz.ntmps132
    go_wp2;all_goals (go_ret;refine⟨fin _ ?_,((Only.refl w).alloc _)⟩;rw [Bool.eq_iff_iff];simp [keyOk];try omega)
 · have hk1:((i:Int) == 0)=false:=by rw [beq_eq_false_iff_ne];omega
   have hi1:i≠0:=by omega
   rcases hk with rfl | rfl
   all_goals
    go_enter Tryz.func132,Tryz.ntmps132
    go_wp2;all_goals (go_ret;refine⟨fin _ ?_,((Only.refl w).alloc _)⟩;rw [Bool.eq_iff_iff];simp [keyOk,hi1];try omega)
theorem rvalue_any(k l nx:Int)(vi vd:Value)(x:ItemV)(ak av:Option Addr)(ck cv:Nat)(hk:k=1∨k=2)(w:World):
 Calls Tryz.prog 133 #[pageV k l vi vd nx,itemV (.slice ak x.key.length ck) (.slice av x.value.length cv) x.child x.size] w fun e w'=>e= .returned (.bool (valOk k x))∧Only w w':=by
 have fin:∀(b:Bool),b=valOk k x→Ending.returned (Value.bool b)=Ending.returned (Value.bool (valOk k x)):=fun b e=>by rw [e]
 rcases hk with rfl | rfl
 · go_enter Tryz.func133,Tryz.ntmps133
   go_wp2;all_goals (go_ret;refine⟨fin _ ?_,((Only.refl w).alloc _).alloc _⟩;rw [Bool.eq_iff_iff];simp [valOk, -List.length_eq_zero_iff];try (split<;>omega);try omega)
 · rcases len_zero x.value with⟨hv,hv1⟩ | ⟨hv,hv1⟩
   all_goals
    go_enter Tryz.func133,Tryz.ntmps133
    go_wp2;go_ret;refine⟨fin _ ?_,((Only.refl w).alloc _).alloc _⟩;have hv':=hv.out;rw [Bool.eq_iff_iff];simp [valOk, -List.length_eq_zero_iff];try omega
theorem rchild_any(k l nx:Int)(vi vd:Value)(x:ItemV)(kv vv:Value)(hk:k=1∨k=2)(w:World):
 Calls Tryz.prog 134 #[pageV k l vi vd nx,itemV kv vv x.child x.size] w fun e w'=>e= .returned (.bool (kidOk k x))∧Only w w':=by
 have fin:∀(b:Bool),b=kidOk k x→Ending.returned (Value.bool b)=Ending.returned (Value.bool (kidOk k x)):=fun b e=>by rw [e]
 rcases hk with rfl | rfl
 · by_cases hs:x.size≤32
   · go_enter Tryz.func134,Tryz.ntmps134
     go_wp2;go_ret;refine⟨fin _ ?_,((Only.refl w).alloc _).alloc _⟩;rw [Bool.eq_iff_iff];simp [kidOk,hs]
   · have hs1:(x.size≤32)=False:=eq_false hs
     go_enter Tryz.func134,Tryz.ntmps134
     go_wp2_with fail
     refine(risPage_any _ _).mono ?_;rintro e w1 ⟨rfl,rfl⟩;go_wp2;go_ret;refine⟨fin _ ?_,((Only.refl w).alloc _).alloc _⟩;rw [show kidOk 1 x=isPg x.child from if_neg (fun h=>absurd h.2 (by omega))]
 · go_enter Tryz.func134,Tryz.ntmps134
   go_wp2_with fail
   refine(risPage_any _ _).mono ?_;rintro e w1 ⟨rfl,rfl⟩;go_wp2;go_ret;refine⟨fin _ ?_,((Only.refl w).alloc _).alloc _⟩;rw [Bool.eq_iff_iff];simp [kidOk]
end Go.Proofs.YtpfafhklppondaaGreat.U4
