/- Many parts of one form; one cell of an owned row. Plain lemmas over any program. -/
import Derived.Test.YtbobcmimkonnoaaGreatVaultPlaysM20
import Derived.Test.YtbobcmimkonnoaaGreatVaultPlaysM19
import Derived.Test.YtbobcmimkonnoaaGreatVaultPlaysM01
set_option maxRecDepth 100000
set_option maxHeartbeats 16000000
namespace Go.Sl
open Go.RowKit
section
variable {α:Type}
def big(f:α→Pr)(l:List α):Pr:=starL (l.map f)
theorem big_nil(f:α→Pr):big f []=Pr.emp:=rfl
theorem big_cons(f:α→Pr)(x:α)(l:List α):big f (x :: l)=(f x).star (big f l):=rfl
theorem big_append(f:α→Pr):∀(l m:List α),big f (l++m)=(big f l).star (big f m)
 | [],m=>by rw [big_nil,Pr.emp_star];rfl
 | x :: l,m=>by
   show (f x).star (big f (l++m))=((f x).star (big f l)).star (big f m)
   rw [big_append f l m,Pr.star_assoc]
theorem big_one(f:α→Pr)(x:α):big f [x]=f x:=Pr.star_emp _
theorem big_snoc(f:α→Pr)(l:List α)(x:α):big f (l++ [x])=(f x).star (big f l):=by rw [big_append,big_one,Pr.star_comm]
theorem big_at(f:α→Pr):∀(l:List α) (i:Nat) (h:i<l.length),big f l=(f l[i]).star (big f (l.eraseIdx i))
 | [],_,h=>absurd h (by simp)
 | x :: l,0,_=>rfl
 | x :: l,i+1,h=>by
   have hi:i<l.length:=by simpa using h
   show (f x).star (big f l)=(f l[i]).star ((f x).star (big f (l.eraseIdx i)))
   rw [big_at f l i hi,Pr.left_comm]
theorem big_set(f:α→Pr):∀(l:List α) (i:Nat) (_:i<l.length) (y:α),big f (l.set i y)=(f y).star (big f (l.eraseIdx i))
 | [],_,h,_=>absurd h (by simp)
 | x :: l,0,_,_=>rfl
 | x :: l,i+1,h,y=>by
   show (f x).star (big f (l.set i y))=(f y).star ((f x).star (big f (l.eraseIdx i)))
   rw [big_set f l i (by simpa using h) y,Pr.left_comm]
end
section
variable {L R:List Pr}{w:World}{F:Pr}
theorem OwnL.take {α:Type}(f:α→Pr)(l:List α)(i:Nat)(h:i<l.length)(o:OwnL L w) [k:Pull (big f l) L R]:OwnL (f l[i] :: big f (l.eraseIdx i) :: R) w:=
 ⟨(o.pull1 (A1:=big f l)).perm (by rw [big_at f l i h,Pr.star_assoc];rfl)⟩
theorem OwnL.give {α:Type}(f:α→Pr)(l:List α)(i:Nat)(h:i<l.length)(y:α)(o:OwnL L w){R2:List Pr} [k:Pull (f y) L R] [k2:Pull (big f (l.eraseIdx i)) R R2]:OwnL (big f (l.set i y) :: R2) w:=
 ⟨(o.pull2 (A1:=f y) (A2:=big f (l.eraseIdx i))).perm (by rw [← Pr.star_assoc, ← big_set f l i h y];rfl)⟩
theorem OwnL.snoc {α:Type}(f:α→Pr)(l:List α)(y:α)(o:OwnL L w){R2:List Pr} [k:Pull (f y) L R] [k2:Pull (big f l) R R2]:OwnL (big f (l++ [y]) :: R2) w:=
 ⟨(o.pull2 (A1:=f y) (A2:=big f l)).perm (by rw [← Pr.star_assoc, ← big_snoc];rfl)⟩
theorem OwnL.uncons {α:Type}(f:α→Pr)(x:α)(l:List α)(o:OwnL L w) [k:Pull (big f (x :: l)) L R]:OwnL (f x :: big f l :: R) w:=
 ⟨(o.pull1 (A1:=big f (x :: l))).perm (by rw [big_cons,Pr.star_assoc];rfl)⟩
theorem OwnL.nothing {α:Type}(f:α→Pr)(o:OwnL L w):OwnL (big f [] :: L) w:=⟨by show Sat (Pr.emp.star (starL L)) w;rw [Pr.emp_star];exact o.sat⟩
theorem OwnL.emp(o:OwnL L w):OwnL (Pr.emp :: L) w:=⟨by show Sat (Pr.emp.star (starL L)) w;rw [Pr.emp_star];exact o.sat⟩
theorem OwnL.join2 {R2:List Pr}(A B:Pr)(o:OwnL L w) [k:Pull A L R] [k2:Pull B R R2]:OwnL (A.star B :: R2) w:=⟨(o.pull2 (A1:=A) (A2:=B)).perm (by rw [← Pr.star_assoc];rfl)⟩
theorem OwnL.join3 {R2 R3:List Pr}(A B C:Pr)(o:OwnL L w) [k:Pull A L R] [k2:Pull B R R2] [k3:Pull C R2 R3]:OwnL (A.star (B.star C) :: R3) w:=⟨(o.pull3 (A1:=A) (A2:=B) (A3:=C)).perm (by rw [← Pr.star_assoc, ← Pr.star_assoc,Pr.star_assoc A];rfl)⟩
theorem Row.at1 {T:Nat}{a:Option Addr}{n c:Nat}{xs:List Value}(h:Sat ((Row T 1 (.slice a n c) n xs).star F) w)(i:Nat)(hi:i<n):
 ∃b u,a=some ⟨b,0,none⟩∧xs[i]? =some u∧w.cell? ⟨b,i,none⟩=some u∧w.frozen? ⟨b,i,none⟩=false∧b<w.heap.size:=by
 obtain⟨_,_,e,hl,hc⟩:=Row.read h
 cases e
 obtain⟨b,eb,hd⟩:=hc (by omega)
 have h1:=(hd i (by omega)).1
 rw [List.getElem?_eq_getElem (by omega)] at h1
 exact⟨b,_,eb,List.getElem?_eq_getElem (by omega),h1,(hd i (by omega)).2,World.block_lt_of_cell? _ _ h1⟩
theorem Row.put1 {T k b c n:Nat}{xs:List Value}(h:Sat ((Row T k (.slice (some ⟨b,0,none⟩) n c) n xs).star F) w)(i:Nat)(hi:i<xs.length)(v:Value):
 Sat ((Row T k (.slice (some ⟨b,0,none⟩) n c) n (xs.set i v)).star F) (w.setCell ⟨b,i,none⟩ v):=by
 obtain⟨hl,(⟨e,_,_⟩ | ⟨b',cap,sp,e,h1,h2,h3,h4⟩)⟩:=Row.open' h
 · cases e
 · cases e
   have h5:=h4.setCell (i:=i) v
   refine Row.mk' (sp:=sp) (by simpa using hl) (by simpa using h1) h2 h3 ?_
   have e6:(xs.set i v++sp).toArray=(xs++sp).toArray.setIfInBounds i v:=by
    rw [List.setIfInBounds_toArray,List.set_append_left _ _ hi]
   rw [e6]
   exact h5
theorem Row.shape {T k:Nat}{v:Value}{n:Nat}{xs:List Value}(h:Sat ((Row T k v n xs).star F) w):∃a c,v= .slice a n c:=by
 obtain⟨a,c,e,_⟩:=Row.read h
 exact⟨a,c,e⟩
end
theorem fresh_cells(w:World)(l:List Value)(T:TypeId):∀j u,l[j]? =some u→(w.alloc (.cells l.toArray T)).cell? ((⟨w.heap.size,0,none⟩:Addr).add j)=some u:=by
 intro j u hj
 rw [add_cell,cell_of_heap (heap_new _ _)]
 simpa using hj
theorem full_of {α:Type}{us cs:List α}(hl:us.length=cs.length)(h:∀i,i<cs.length→us[i]? =cs[i]?):us=cs:=
 List.ext_getElem? fun i=>by
  rcases Nat.lt_or_ge i cs.length with hi | hi
  · exact h i hi
  · rw [List.getElem?_eq_none (by omega),List.getElem?_eq_none hi]
theorem full_step {α:Type}{us cs:List α}{k:Nat}(hl:us.length=cs.length)(hk:k<cs.length)(h:∀i,i<k→us[i]? =cs[i]?):∀i,i<k+1→(us.set k cs[k])[i]? =cs[i]? :=by
 intro i hi
 by_cases he:i=k
 · subst he
   rw [List.getElem?_set_self (by omega),List.getElem?_eq_getElem hk]
 · rw [List.getElem?_set_ne (by omega)]
   exact h i (by omega)
end Go.Sl
namespace Go.Proofs.YtbobcmimkonnoaaGreat.Z6
open ChangeShapes WideShapes ChangeAt RowKit Sl Cop D2 K3 N3 Q3 G2 M2 U3 Y3 L5 X3 X5 E6 F6 G6 K6 J6 N6 M6
theorem infoWasR:(Tryz.prog.info? 165).map (fun i=>(i.zero,i.size,i.bytes))=some (some (.agg #[.slice none 0 0,.slice none 0 0]),2,48):=by kernel_rfl
structure WasX where
 cv:Value
 pv:Value
 xs:List (Value × Value)
 cs:List Int
 gs:List PageV
def wasCells(y:WasX):List Value:= [y.cv,y.pv]
def WasRow(y:WasX):Pr:=(IntsRow y.cv y.cs).star (PgRow y.pv y.xs y.gs)
def wasOf(a:WasX):List Int × List PageV:=(a.cs,a.gs)
structure HX where
 cv:Value
 lv:Value
 pv:Value
 av:Value
 xs:List (Value × Value)
 h:Hp
 ws:List WasX
abbrev HX.rx(y:HX):RX:=⟨y.cv,y.lv,y.pv,y.xs,y.h⟩
abbrev HX.wx(y:HX)(a:WasX):RX:=⟨a.cv,y.lv,a.pv,a.xs,y.h⟩
structure HOk(s:PoolS)(gs:List PageV)(l:List (List Int × List PageV))(y:HX):Prop where
 now:ROk s gs y.rx
 was:∀a∈y.ws,ROk { s with counts:=a.cs } a.gs (y.wx a)
 l:y.ws.map wasOf=l
theorem HOk.len {s:PoolS}{gs:List PageV}{l:List (List Int × List PageV)}{y:HX}(ok:HOk s gs l y):y.ws.length=l.length:=by rw [← ok.l,List.length_map]
abbrev refHC(refs:Int)(cv lv pv av:Value)(fl:Int):Obj:= .cells #[.int .i64 refs,cv,lv,pv,av,.int .i64 fl,.bool false] 98
abbrev HParts(r:Nat)(s:PoolS)(gs:List PageV)(fl:Int)(y:HX)(T:Pr):Pr:=
 (Pr.pts r (refHC s.refs y.cv y.lv y.pv y.av fl)).star ((IntsRow y.cv s.counts).star ((BoolsRow y.lv s.last).star ((PgRow y.pv y.xs gs).star ((Pr.own y.h).star ((Row 165 2 y.av y.ws.length (y.ws.flatMap wasCells)).star ((big WasRow y.ws).star T))))))
def RefH(r:Nat)(s:PoolS)(gs:List PageV)(fl:Int)(l:List (List Int × List PageV)):Pr:=Pr.ex fun y:HX=>(Pr.pure (HOk s gs l y)).star (HParts r s gs fl y Pr.emp)
theorem refH_iff {r:Nat}{s:PoolS}{gs:List PageV}{fl:Int}{l:List (List Int × List PageV)}{F:Pr}{w:World}:Sat ((RefH r s gs fl l).star F) w↔∃y,HOk s gs l y∧Sat (HParts r s gs fl y F) w:=by
 have e:∀y,(HParts r s gs fl y Pr.emp).star F=HParts r s gs fl y F:=fun y=>by simp only [HParts,Pr.star_assoc,Pr.emp_star]
 unfold RefH
 rw [Sat.ex]
 constructor
 · rintro⟨y,h2⟩
   rw [Pr.star_assoc] at h2
   obtain⟨h3,h4⟩:=Sat.pure.1 h2
   exact⟨y,h3,h4.perm (e y)⟩
 · rintro⟨y,h1,h2⟩
   refine⟨y,?_⟩
   rw [Pr.star_assoc]
   exact Sat.pure.2 ⟨h1,h2.perm (e y).symm⟩
theorem refH_refA {r:Nat}{s:PoolS}{gs:List PageV}{fl:Int}{l:List (List Int × List PageV)}{F:Pr}{w:World}(o:Sat ((RefH r s gs fl l).star F) w):
 ∃aa ca F',Sat ((RefA r s gs ⟨.slice aa l.length ca,fl,false⟩).star F') w:=by
 obtain⟨y,ok,o2⟩:=refH_iff.1 o
 have o3:=OwnL.in7 o2
 obtain⟨aa,ca,e,_⟩:=Row.read (o3.pull1 (A1:=Row 165 2 y.av y.ws.length (y.ws.flatMap wasCells)))
 rw [ok.len] at e
 have h:=o3.pull5 (A1:=Pr.pts r (refHC s.refs y.cv y.lv y.pv y.av fl)) (A2:=IntsRow y.cv s.counts) (A3:=BoolsRow y.lv s.last) (A4:=PgRow y.pv y.xs gs) (A5:=Pr.own y.h)
 refine⟨aa,ca,starL [Row 165 2 y.av y.ws.length (y.ws.flatMap wasCells),big WasRow y.ws,F],refA_iff.2 ⟨y.rx,ok.now,h.perm ?_⟩⟩
 unfold RefAt
 simp only [Pr.star_assoc,e]
theorem was_open {L R:List Pr}{w:World}(a:WasX)(o:OwnL L w) [Pull (WasRow a) L R]:OwnL (IntsRow a.cv a.cs :: PgRow a.pv a.xs a.gs :: R) w:=⟨(o.pull1 (A1:=WasRow a)).perm (by unfold WasRow;rw [Pr.star_assoc];rfl)⟩
theorem was_close {L R R2:List Pr}{w:World}(a:WasX)(o:OwnL L w) [Pull (IntsRow a.cv a.cs) L R] [Pull (PgRow a.pv a.xs a.gs) R R2]:OwnL (WasRow a :: R2) w:=⟨(o.pull2 (A1:=IntsRow a.cv a.cs) (A2:=PgRow a.pv a.xs a.gs)).perm (by rw [← Pr.star_assoc];rfl)⟩
theorem was_shape {L R:List Pr}{w:World}(a:WasX)(o:OwnL L w) [Pull (WasRow a) L R]:∃a1 n1 c1 a2 n2 c2,a.cv= .slice a1 n1 c1∧a.pv= .slice a2 n2 c2:=by
 have h:=was_open a o
 obtain⟨a1,c1,e1⟩:=Row.shape (h.pull1 (A1:=IntsRow a.cv a.cs))
 obtain⟨a2,c2,e2⟩:=Row.shape (h.pull1 (A1:=PgRow a.pv a.xs a.gs))
 exact⟨a1,_,c1,a2,_,c2,e1,e2⟩
section
variable(r:Nat)(s:PoolS)(gs:List PageV)(fl:Int)(l:List (List Int × List PageV))(F:Pr)(w:World)
theorem rdid_any(y:HX)(ok:HOk s gs l y)(a:WasX)(hok:ROk { s with counts:=a.cs } a.gs (y.wx a))(hl:l.length≤1048576)(hF:Sat (HParts r s gs fl y ((WasRow a).star F)) w):
 Calls Tryz.prog 108 #[.pointer (some ⟨r,0,none⟩),a.cv,a.pv] w fun e w'=>e= .returned (.tuple #[])∧Stays w w'∧Sat ((RefH r s gs fl (l++ [(a.cs,a.gs)])).star F) w':=by
 obtain⟨cv,lv,pv,av,xs,h,ws⟩:=y
 obtain⟨acv,apv,axs,acs,ags⟩:=a
 have hs:=OwnL.in8 hF
 dsimp only at hs
 clear hF
 have hwl:ws.length=l.length:=ok.len
 obtain⟨aa,ca,e1,_,_⟩:=Row.read (hs.row av)
 subst e1
 obtain⟨ac1,nc1,cc1,ap1,np1,cp1,rfl,rfl⟩:∃a1 n1 c1 a2 n2 c2,acv= .slice a1 n1 c1∧apv= .slice a2 n2 c2:=was_shape ⟨acv,apv,axs,acs,ags⟩ hs
 have c1:=hs.facts
 simp only [CellsAt,Nat.reduceAdd,and_true] at c1
 obtain⟨i0,hi,hz0,hz1,hz2⟩:=info_parts infoWasR
 have hs1:=hs.alloc (.cells [.slice ac1 nc1 cc1,.slice ap1 np1 cp1].toArray 165)
 have hnew:=hQ (new_cells w [.slice ac1 nc1 cc1,.slice ap1 np1 cp1] 165 _ rfl)
 have HA:=hQ (hs1.row (.slice aa ws.length ca))
 have HOK:=hQ (And.intro ok hok)
 have HWL:=hQ hwl
 have HLL:=hQ hl
 clear hs hs1 ok hok hwl hl
 go_enter Tryz.func108,Tryz.ntmps108
 go_wp2_with (
  at_builtin
  refine wpList_append_sl rfl _ _ _ rfl 165 i0 (.agg #[.slice none 0 0,.slice none 0 0]) 2 48 Tryz.underlying96 hi hz0 hz1 hz2 rfl _ _ _ rfl HA.out ⟨w.heap.size,0,none⟩ 1 1 [.slice ac1 nc1 cc1,.slice ap1 np1 cp1] rfl rfl hnew.out (by simp [Value.oneCell']) (by have:=HWL.out;have:=HLL.out;simp only [maxLen];omega) (by have:=HWL.out;have:=HLL.out;omega) ?_
  intro v7 w4 hs4 hg4 _
  obtain⟨a7',c7',e7',_,_⟩:=Row.read hs4
  subst e7'
  have HS4:=hQ hs4
  have HG4:=hQ hg4
  clear c1
  have c1:=(OwnL.of1 hs4).facts
  simp only [CellsAt,Nat.reduceAdd,and_true] at c1
  clear hs4 hg4)
 first | refine bodyPost_ret (results_none rfl _ _ _) rfl ?_ | go_end0
 refine⟨rfl,(((Stays.refl w).alloc _).of_grown HG4.out).setCell _ _,?_⟩
 have h5:=(OwnL.of1 HS4.out).set r 4 (.slice a7' (ws.length+1) c7')
 refine refH_iff.2 ⟨⟨cv,lv,pv,.slice a7' (ws.length+1) c7',xs,h,ws++ [⟨.slice ac1 nc1 cc1,.slice ap1 np1 cp1,axs,acs,ags⟩]⟩,⟨HOK.out.1.now,?_,?_⟩,?_⟩
 · intro a ha
   rcases List.mem_append.1 ha with ha | ha
   · exact HOK.out.1.was a ha
   · rw [List.mem_singleton.1 ha];exact HOK.out.2
 · show List.map wasOf (ws++ [_])=_
   rw [List.map_append,show ws.map wasOf=l from HOK.out.1.l]
   rfl
 · have h6:=h5.snoc WasRow ws ⟨.slice ac1 nc1 cc1,.slice ap1 np1 cp1,axs,acs,ags⟩
   dsimp only [HParts]
   rw [List.length_append,List.flatMap_append,List.length_singleton,show List.flatMap wasCells [⟨.slice ac1 nc1 cc1,.slice ap1 np1 cp1,axs,acs,ags⟩]= [.slice ac1 nc1 cc1,.slice ap1 np1 cp1] from rfl]
   exact h6.end8 (A8:=F)
theorem rnot_any(y:HX)(ok:HOk s gs l y)(a:WasX)(hok:ROk { s with counts:=a.cs } a.gs (y.wx a))(hF:Sat (HParts r s gs fl y ((WasRow a).star F)) w):
 Calls Tryz.prog 107 #[.pointer (some ⟨r,0,none⟩),a.cv,a.pv] w fun e w'=>e= .returned (.tuple #[])∧Stays w w'∧Sat ((RefH r { s with counts:=a.cs } a.gs fl l).star F) w':=by
 obtain⟨cv,lv,pv,av,xs,h,ws⟩:=y
 obtain⟨acv,apv,axs,acs,ags⟩:=a
 have hs:=OwnL.in8 hF
 dsimp only at hs
 clear hF
 obtain⟨ac1,nc1,cc1,ap1,np1,cp1,rfl,rfl⟩:∃a1 n1 c1 a2 n2 c2,acv= .slice a1 n1 c1∧apv= .slice a2 n2 c2:=was_shape ⟨acv,apv,axs,acs,ags⟩ hs
 have c1:=hs.facts
 simp only [CellsAt,Nat.reduceAdd,and_true] at c1
 have HS:=hQ hs
 have HOK:=hQ (And.intro ok hok)
 clear hs ok hok
 go_enter Tryz.func107,Tryz.ntmps107
 go_wp2
 first | refine bodyPost_ret (results_none rfl _ _ _) rfl ?_ | go_end0
 refine⟨rfl,((Stays.refl w).setCell _ _).setCell _ _,?_⟩
 have h5:=(HS.out.set r 1 (.slice ac1 nc1 cc1)).set r 3 (.slice ap1 np1 cp1)
 refine refH_iff.2 ⟨⟨.slice ac1 nc1 cc1,lv,.slice ap1 np1 cp1,av,axs,h,ws⟩,⟨HOK.out.2,HOK.out.1.was,HOK.out.1.l⟩,?_⟩
 have h6:=was_open ⟨.slice ac1 nc1 cc1,.slice ap1 np1 cp1,axs,acs,ags⟩ h5
 exact h6.end8 (A8:=F)
theorem ract_any(hl:l.length≤1048576)(hF:Sat ((RefH r s gs fl l).star F) w):
 Calls Tryz.prog 147 #[.pointer (some ⟨r,0,none⟩)] w fun e w'=>e= .returned (.tuple #[])∧Stays w w'∧Sat ((RefH r s gs fl (l++ [(s.counts,gs)])).star F) w':=by
 obtain⟨⟨cv,lv,pv,av,xs,h,ws⟩,ok,h0⟩:=refH_iff.1 hF
 have hs:=OwnL.in7 h0
 dsimp only at hs
 clear hF h0
 have hwl:ws.length=l.length:=ok.len
 obtain⟨aa,ca,rfl⟩:=Row.shape (hs.row av)
 obtain⟨a0,c0,rfl⟩:=Row.shape (hs.pull1 (A1:=IntsRow cv s.counts))
 obtain⟨ap,cp,rfl⟩:=Row.shape (hs.pull1 (A1:=PgRow pv xs gs))
 obtain⟨a,ha,hs1⟩:=hs.arena (IntsRow (.slice a0 s.counts.length c0) s.counts)
 have c1:=hs1.facts
 simp only [CellsAt,Nat.reduceAdd,and_true] at c1
 have CI:=hQ (copyints_any a _ s.counts _ w.drew (hs1.drew.pull1 (A1:=Pr.own a)) (Row.rowIn ha) ok.now.n2)
 have HA:=hQ ha
 have HOK:=hQ ok
 have HWL:=hQ hwl
 have HLL:=hQ hl
 obtain⟨i0,hi,hz0,hz1,hz2⟩:=info_parts infoWasR
 clear hs hs1 ok hwl hl ha
 go_enter Tryz.func147,Tryz.ntmps147
 go_wp2_with fail
 refine wp_region_staged (sz:=27) (by kernel_rfl) [0,1,2,3,4,5,6,7,8,10,11,12,13] [(9,[],[0,1,2,3,4,5,6,7,10,11,12,13]),(14,[15],[0,1,2,3,4,5,6,7,10,11,12]),(16,[],[0,1,2,3,4,5,6,7,10,11,12]),(17,[18,19],[0,1,2,3,5,6,7,10,11,12]),(20,[],[18])] rfl (by kernel_rfl) (by kernel_rfl) (by kernel_rfl) ?_
 refine wpQ_all _ rfl rfl ?_
 simp only [pick,pQ]
 iterate 13 (go_big_quiet_step (fail))
 refine wpQuiet_nil ?_
 refine wpRest_act rfl ?_
 go_wp2_with fail
 refine CI.out.mono ?_
 rintro e w1 ⟨v1,rfl,hs2,st1⟩
 obtain⟨ac,cc,rfl⟩:=Row.shape hs2
 have hs3:=(OwnL.of2 hs2).back (IntsRow (.slice a0 s.counts.length c0) s.counts) HA.out
 obtain⟨a2,ha2,hs4⟩:=hs3.arena (PgRow (.slice ap gs.length cp) xs gs)
 clear c1
 have c1:=hs4.facts
 simp only [CellsAt,Nat.reduceAdd,and_true] at c1
 have CP:=hQ (copypages_any a2 _ h xs gs HOK.out.now.pgs (Row.rowIn ha2) (by have:=HOK.out.now.n2;have:=HOK.out.now.gl;omega) _ _ (hs4.pull1 (A1:=Pr.own a2)))
 have HA2:=hQ ha2
 have HST1:=hQ ((Stays.refl w).drew.trans st1)
 clear hs2 hs3 hs4 st1 CI HA ha2
 go_wp2
 refine onN_mk ?_
 refine wpQ_nil ⟨?_,?_⟩
 · refine chk_all _ rfl rfl ?_
   simp only [pick,Same,pQ,and_true]
   repeat' (first | apply And.intro | (go_big_quiet_step (fail);exact wpQuiet_nil rfl))
 refine wpRest_act rfl ?_
 go_wp2_with fail
 refine CP.out.mono ?_
 rintro e w2 ⟨v2,rfl,hs5,st2⟩
 obtain⟨aq,cq,rfl⟩:=Row.shape hs5
 have hs6:=(OwnL.of2 hs5).back (PgRow (.slice ap gs.length cp) xs gs) HA2.out
 clear c1
 have c1:=hs6.facts
 simp only [CellsAt,Nat.reduceAdd,and_true] at c1
 have A1:=hQ ((hs6.alloc (.cells [.slice ac s.counts.length cc,.slice aq gs.length cq].toArray 165)).row (.slice aa ws.length ca))
 have hnew:=hQ (new_cells w2 [.slice ac s.counts.length cc,.slice aq gs.length cq] 165 _ rfl)
 have HST2:=hQ ((HST1.out.trans st2).alloc (.cells [.slice ac s.counts.length cc,.slice aq gs.length cq].toArray 165))
 clear hs5 hs6 st2 CP HA2 HST1
 go_wp2
 refine onN_mk ?_
 refine wpQ_all _ rfl rfl ?_
 simp only [pick,pQ]
 iterate 1 (go_big_quiet_step (fail))
 refine wpQuiet_nil ⟨?_,?_⟩
 · refine chk_all _ rfl rfl ?_
   simp only [pick,Same,pQ,and_true]
   repeat' (first | apply And.intro | (go_big_quiet_step (fail);exact wpQuiet_nil rfl))
 refine wpRest_act rfl ?_
 go_wp2
 refine onN_mk ?_
 refine wpQ_nil ⟨?_,?_⟩
 · refine chk_all _ rfl rfl ?_
   simp only [pick,Same,pQ,and_true]
   repeat' (first | apply And.intro | (go_big_quiet_step (fail);exact wpQuiet_nil rfl))
 refine wpRest_act rfl ?_
 refine wpList_append_slK rfl _ _ _ rfl 165 i0 (.agg #[.slice none 0 0,.slice none 0 0]) 2 48 Tryz.underlying96 hi hz0 hz1 hz2 rfl _ _ _ rfl A1.out ⟨w2.heap.size,0,none⟩ 1 1 [.slice ac s.counts.length cc,.slice aq gs.length cq] rfl rfl hnew.out (by simp [Value.oneCell']) (by have:=HWL.out;have:=HLL.out;simp only [maxLen];omega) (by have:=HWL.out;have:=HLL.out;omega) (fun v7 w7 hs7 hg7 K hK=> ?_)
 obtain⟨a7,c7,rfl⟩:=Row.shape hs7
 go_simp
 refine hK _ ?_
 clear hK K
 have HS7:=hQ (OwnL.of1 hs7)
 have HST7:=hQ (HST2.out.of_grown hg7)
 clear hs7 hg7 A1 hnew HST2 c1
 have c1:=HS7.out.facts
 simp only [CellsAt,Nat.reduceAdd,and_true] at c1
 refine wpList_nil ?_
 refine onN_mk ?_
 refine wpQ_all _ rfl rfl ?_
 simp only [pick,pQ]
 iterate 2 (go_big_quiet_step (fail))
 refine wpQuiet_nil ⟨?_,?_⟩
 · refine chk_all _ rfl rfl ?_
   simp only [pick,Same,pQ,and_true]
   repeat' (first | apply And.intro | (go_big_quiet_step (fail);exact wpQuiet_nil rfl))
 refine wpRest_act rfl ?_
 go_wp2
 refine onN_mk ?_
 refine wpQ_nil ⟨?_,?_⟩
 · refine chk_all _ rfl rfl ?_
   simp only [pick,Same,pQ,and_true]
   repeat' (first | apply And.intro | (go_big_quiet_step (fail);exact wpQuiet_nil rfl))
 refine wpRest_nil ?_
 go_wp2
 first | refine bodyPost_ret (results_none rfl _ _ _) rfl ?_ | go_end0
 refine⟨rfl,HST7.out.setCell _ _,?_⟩
 have h5:=HS7.out.set r 4 (.slice a7 (ws.length+1) c7)
 have h6:=was_close ⟨.slice ac s.counts.length cc,.slice aq gs.length cq,xs,s.counts,gs⟩ h5
 have h7:=h6.snoc WasRow ws ⟨.slice ac s.counts.length cc,.slice aq gs.length cq,xs,s.counts,gs⟩
 refine refH_iff.2 ⟨⟨.slice a0 s.counts.length c0,lv,.slice ap gs.length cp,.slice a7 (ws.length+1) c7,xs,h,ws++ [⟨.slice ac s.counts.length cc,.slice aq gs.length cq,xs,s.counts,gs⟩]⟩,⟨HOK.out.now,?_,?_⟩,?_⟩
 · intro a ha
   rcases List.mem_append.1 ha with ha | ha
   · exact HOK.out.was a ha
   · rw [List.mem_singleton.1 ha];exact⟨HOK.out.now.pgs,HOK.out.now.ll,HOK.out.now.gl,HOK.out.now.n2,HOK.out.now.c0,HOK.out.now.fit⟩
 · show List.map wasOf (ws++ [_])=_
   rw [List.map_append,show ws.map wasOf=l from HOK.out.l]
   rfl
 · dsimp only [HParts]
   rw [List.length_append,List.flatMap_append,List.length_singleton,show List.flatMap wasCells [⟨.slice ac s.counts.length cc,.slice aq gs.length cq,xs,s.counts,gs⟩]= [.slice ac s.counts.length cc,.slice aq gs.length cq] from rfl]
   exact h7.end8 (A8:=F)
end
end Go.Proofs.YtbobcmimkonnoaaGreat.Z6
namespace Go.Cop
open Go.Proofs.YtbobcmimkonnoaaGreat.M6 Go.Proofs.YtbobcmimkonnoaaGreat.F6 Go.Proofs.YtbobcmimkonnoaaGreat.L6
def PoolS.withC(s:PoolS)(cs:List Int):PoolS:= { s with counts:=cs }
def IncP(s:PoolS)(n:Int):PoolS:=if incL s.refs s.counts n=0 then s.withC (addC s.counts n 1) else s
def incsR(s:PoolS):List Int→Int × PoolS
 | []=>(0,s)
 | k :: r=>if incL s.refs s.counts k=0 then incsR (IncP s k) r else(incL s.refs s.counts k,s)
theorem incsR_one {s:PoolS}{k:Int}{r:List Int}:incsR s (k :: r)=if incL s.refs s.counts k=0 then incsR (IncP s k) r else(incL s.refs s.counts k,s):=rfl
theorem incsR_app:∀ {a b:List Int} {s t:PoolS},incsR s a=(0,t)→incsR s (a++b)=incsR t b
 | [],b,s,t,h=>by cases h;rfl
 | k :: a,b,s,t,h=>by
   rw [List.cons_append,incsR_one]
   rw [incsR_one] at h
   by_cases h0:incL s.refs s.counts k=0
   · rw [if_pos h0] at h ⊢
     exact incsR_app h
   · rw [if_neg h0] at h
     exact absurd (congrArg Prod.fst h) h0
def leaveRR(s:PoolS)(g:PageV)(n:Int):Int × PoolS:=
 if cntL s.counts n=1 then(0,s.withC (addC s.counts n (-1))) else incsR (s.withC (addC s.counts n (-1))) (kidsOf g)
def CB(s:PoolS):Prop:=s.refs≤65536∧∀c∈s.counts,c≤s.refs
end Go.Cop
namespace Go.Proofs.YtbobcmimkonnoaaGreat.B7
open ChangeShapes WideShapes ChangeAt RowKit Sl Cop D2 K3 N3 Q3 G2 M2 U3 Y3 L5 X3 X5 E6 F6 G6 K6 J6 M6 P6 L6 Z6 W6
section
variable(r:Nat)(s:PoolS)(gs:List PageV)(hush:RTail)
theorem refAt_open {L R:List Pr}{w:World}(x:RX)(o:OwnL L w) [Pull (RefAt r s gs hush x) L R]:OwnL (Pr.pts r (refC s.refs x.cv x.lv x.pv hush) :: IntsRow x.cv s.counts :: BoolsRow x.lv s.last :: PgRow x.pv x.xs gs :: Pr.own x.h :: R) w:=
 ⟨(o.pull1 (A1:=RefAt r s gs hush x)).perm (by unfold RefAt;simp only [Pr.star_assoc];rfl)⟩
theorem refAt_close {F:Pr}{w:World}(x:RX)(o:Sat ((Pr.pts r (refC s.refs x.cv x.lv x.pv hush)).star ((IntsRow x.cv s.counts).star ((BoolsRow x.lv s.last).star ((PgRow x.pv x.xs gs).star ((Pr.own x.h).star F))))) w):Sat ((RefAt r s gs hush x).star F) w:=
 o.perm (by unfold RefAt;simp only [Pr.star_assoc])
theorem hparts_at(fl:Int)(y:HX)(T:Pr):HParts r s gs fl y T=(RefAt r s gs ⟨y.av,fl,false⟩ y.rx).star ((Row 165 2 y.av y.ws.length (y.ws.flatMap wasCells)).star ((big WasRow y.ws).star T)):=by
 unfold RefAt
 simp only [HParts,Pr.star_assoc]
theorem cb_addC {s:PoolS}(h:CB s){n:Int}(h0:incL s.refs s.counts n=0):CB (s.withC (addC s.counts n 1)):=by
 refine⟨h.1,fun c hc=> ?_⟩
 have hc':c∈addC s.counts n 1:=hc
 unfold addC at hc'
 show c≤s.refs
 rcases List.mem_or_eq_of_mem_set hc' with h1 | h1
 · exact h.2 c h1
 · unfold incL at h0
   by_cases h2:cntL s.counts n=0
   · rw [if_pos h2] at h0;cases h0
   · rw [if_neg h2] at h0
     by_cases h3:s.refs≤cntL s.counts n
     · rw [if_pos h3] at h0;cases h0
     · omega
theorem cb_sub {s:PoolS}(h:CB s){n:Int}(hn:1≤n∧n≤s.counts.length):CB (s.withC (addC s.counts n (-1))):=by
 refine⟨h.1,fun c hc=> ?_⟩
 have hc':c∈addC s.counts n (-1):=hc
 unfold addC at hc'
 show c≤s.refs
 have hj:n.toNat-1<s.counts.length:=by omega
 rcases List.mem_or_eq_of_mem_set hc' with h1 | h1
 · exact h.2 c h1
 · have h4:=h.2 s.counts[n.toNat-1] (List.getElem_mem hj)
   have e:cntL s.counts n=s.counts[n.toNat-1]:=by
    unfold cntL
    rw [if_pos hn,List.getD_eq_getElem?_getD,List.getElem?_eq_getElem hj]
    rfl
   omega
theorem cb_inc {s:PoolS}(h:CB s)(n:Int):CB (IncP s n):=by
 unfold IncP
 by_cases h0:incL s.refs s.counts n=0
 · rw [if_pos h0];exact cb_addC h h0
 · rw [if_neg h0];exact h
theorem refAt_refA {x:RX}{F:Pr}{w:World}(ok:ROk s gs x)(h:Sat ((RefAt r s gs hush x).star F) w):Sat ((RefA r s gs hush).star F) w:=refA_iff.2 ⟨x,ok,h⟩
theorem rinc_x(x:RX)(ok:ROk s gs x)(n:Int)(hcb:CB s)(F:Pr)(w:World)(hF:Sat ((RefAt r s gs hush x).star F) w):
 Calls Tryz.prog 112 #[.pointer (some ⟨r,0,none⟩),.int .i64 n] w fun e w'=>e= .returned (.int .i64 (incL s.refs s.counts n))∧Stays w w'∧
  ROk (IncP s n) gs x∧Sat ((RefAt r (IncP s n) gs hush x).star F) w':=by
 have IS:=hQ (rthere_any r s gs hush n F w (refAt_refA r s gs hush ok hF))
 obtain⟨ac,cc,al,cl,ap,cp,⟨q1,q2,q3,q0⟩,z,_,rd⟩:=ref_rd ok hF
 have HF:=hQ hF
 rw [rcount_cnt] at IS
 have hr:=hcb.2
 have hrf:=hcb.1
 by_cases h0:cntL s.counts n=0
 · have e1:incL s.refs s.counts n=15:=by unfold incL;rw [if_pos h0]
   have e2:IncP s n=s:=by unfold IncP;rw [e1];exact if_neg (by decide)
   rw [h0,decide_eq_false (by omega)] at IS
   rw [e1,e2]
   have HOK:=hQ ok
   clear rd ok hF hr e1 e2 hcb
   go_enter Tryz.func112,Tryz.ntmps112
   go_wp2_with fail
   refine IS.out.mono ?_
   rintro e w1 ⟨rfl,rfl⟩
   go_wp2
   go_ret
   exact⟨rfl,Stays.refl _,HOK.out,HF.out⟩
 · have ht:s.there n:=by
    by_cases ht:s.there n
    · exact ht
    · exact absurd (by unfold cntL;exact if_neg ht) h0
   obtain⟨j,rfl,hj⟩:=there_idx ht
   have hc1:0<cntL s.counts ((j:Int)+1):=by
    rw [cnt_idx hj] at h0 ⊢
    have:=ok.c0 s.counts[j] (List.getElem_mem hj)
    simp [hj] at h0 ⊢
    omega
   have hc2:cntL s.counts ((j:Int)+1)≤65536:=by
    rw [cnt_idx hj]
    have:=hr s.counts[j] (List.getElem_mem hj)
    simp [hj] at this ⊢
    omega
   rw [decide_eq_true hc1] at IS
   obtain⟨⟨b,rfl,c0⟩,_⟩:=rd j hj
   obtain⟨b2,cc2,e2,_,f2,wr⟩:=ref_wr_count hF hj
   have ebb:b2=b:=by
    have h1:Sat ((Pr.pts r (refC s.refs x.cv x.lv x.pv hush)).star ((IntsRow x.cv s.counts).star ((BoolsRow x.lv s.last).star ((PgRow x.pv x.xs gs).star ((Pr.own x.h).star F))))) w:=hF.perm (by unfold RefAt;ac_rfl)
    have h2:w.cell? ⟨r,1,none⟩=some x.cv:=by rw [cell_of_heap h1.pts_heap];rfl
    rw [q1,e2] at h2
    cases h2
    rfl
   subst ebb
   have hn2:=ok.n2
   have HOK:=hQ ok
   have HWR:=hQ wr
   have HADD:=hQ (addC_idx hj 1)
   have HNN:=hQ (addC_nn (n:=(j:Int)+1) (b:=1) ok.c0 (by omega))
   have zc:=World.block_lt_of_cell? _ _ c0
   obtain⟨V,hV⟩:∃V,V=incL s.refs s.counts ((j:Int)+1):=⟨_,rfl⟩
   obtain⟨S2,hS⟩:∃S2,S2=IncP s ((j:Int)+1):=⟨_,rfl⟩
   rw [← hV, ← hS]
   unfold IncP incL at hS
   unfold incL at hV
   rw [if_neg h0] at hS hV
   rw [cnt_idx hj] at hc1 hc2 h0 hV hS
   have HVS:=hQ (And.intro hV hS)
   clear rd ok hF wr ht e2 hr hcb hV hS
   generalize s.counts.getD j 0=c at*
   by_cases hg:s.refs≤c
   · have hd:decide (s.refs≤c)=true:=decide_eq_true hg
     obtain⟨hV,hS⟩:=HVS.out
     rw [if_pos hg] at hV hS
     rw [if_neg (by decide)] at hS
     subst hV hS
     go_enter Tryz.func112,Tryz.ntmps112
     go_wp2_with fail
     refine IS.out.mono ?_
     rintro e w1 ⟨rfl,rfl⟩
     go_wp2_with fail
     go_quiet (fail)
     go_wp2
     go_ret
     exact⟨rfl,(Stays.refl _).drewN _,HOK.out,HF.out.drewN _⟩
   · have hd:decide (s.refs≤c)=false:=decide_eq_false hg
     obtain⟨hV,hS⟩:=HVS.out
     rw [if_neg hg] at hV hS
     rw [if_pos rfl] at hS
     subst hV
     have HS2:=hQ hS
     clear hS
     go_enter Tryz.func112,Tryz.ntmps112
     go_wp2_with fail
     refine IS.out.mono ?_
     rintro e w1 ⟨rfl,rfl⟩
     go_wp2_with fail
     go_quiet (fail)
     go_wp2
     go_ret
     have h9:=HWR.out (c+1)
     rw [← HADD.out] at h9
     rw [HS2.out]
     exact⟨rfl,((Stays.refl _).setCell _ _).drewN _,rok_counts HOK.out (addC_len _ _ _) HNN.out,h9.drewN _⟩
theorem rmore_x(x:RX)(ok:ROk s gs x)(pv:Value)(g:PageV)(hpg:PageIn x.h pv g)(hgl:g.items.length≤65535)(hcb:CB s)(F:Pr)(w:World)(hF:Sat ((RefAt r s gs hush x).star F) w):
 Calls Tryz.prog 157 #[.pointer (some ⟨r,0,none⟩),pv] w fun e w'=>e= .returned (.int .i64 (incsR s (kidsOf g)).1)∧Stays w w'∧
  ROk (incsR s (kidsOf g)).2 gs x∧CB (incsR s (kidsOf g)).2∧Sat ((RefAt r (incsR s (kidsOf g)).2 gs hush x).star F) w':=by
 obtain⟨vi,vd,rfl,hi,hdd⟩:=id hpg
 obtain⟨ai,ci,rfl,_,_⟩:=items_rd hi
 obtain⟨ad,cd,rfl⟩:=bytes_shape hdd
 have hs:=((OwnL.in1 hF).alloc (pageC g.kind g.level (.slice ai g.items.length ci) (.slice ad g.data.length cd) g.next))
 have hs1:=refAt_open r s gs hush x hs
 have KI:=hQ (rkids_any x.h _ g hpg (by omega) _ _ (hs1.pull1 (A1:=Pr.own x.h)))
 have c1:=hs.facts
 simp only [CellsAt,Nat.reduceAdd,and_true] at c1
 have hkl0:(kidsOf g).length≤65536:=by have:=kidsOf_len g;omega
 have HST:=hQ ((Stays.refl w).alloc (pageC g.kind g.level (.slice ai g.items.length ci) (.slice ad g.data.length cd) g.next))
 have HOK:=hQ ok
 have HCB:=hQ hcb
 obtain⟨R,hR⟩:∃R,R=incsR s (kidsOf g):=⟨_,rfl⟩
 rw [← hR]
 have HR:=hQ hR
 clear hs hs1 hF hi hdd hpg ok hcb hR
 go_enter Tryz.func157,Tryz.ntmps157
 go_wp2_with fail
 refine KI.out.mono ?_
 rintro e w1 ⟨kv,rfl,hs2,st1⟩
 obtain⟨kl,hkl⟩:∃kl,kidsOf g=kl:=⟨_,rfl⟩
 rw [hkl] at hs2 hkl0
 have HKL:=hQ hkl
 obtain⟨ak,ck,rfl⟩:=Row.shape hs2
 have hs3:=OwnL.of1 (refAt_close r s gs hush x (OwnL.of2 hs2).pull5)
 have HS3:=hQ hs3
 have HST1:=hQ (HST.out.trans st1)
 have hkb:(kl.length:Int)≤65536:=by omega
 clear hs2 hs3 st1 KI HST hkl c1
 go_wp2
 go_loopw [6] (fun i wr=> ∃(k:Nat) (t:PoolS),k≤kl.length∧i= .int .i64 k∧Stays w wr∧Hid (incsR s (kl.take k)=(0,t))∧Hid (CB t)∧Hid (ROk t gs x)∧
  OwnL [RefAt r t gs hush x,IntsRow (.slice ak kl.length ck) kl,F] wr) (fun i _=>kl.length-(intOf i).toNat)
 case atStart=>exact⟨0,s,Nat.zero_le _,rfl,HST1.out,hQ rfl,HCB,HOK,HS3.out.to⟩
 case round=>
  obtain⟨k,t,hk,rfl,hst,hin,hcr,hok,hs⟩:=hrel
  clear HS3 HST1
  rcases Nat.lt_or_ge k kl.length with hlt | hge
  · obtain⟨bk,u,rfl,hu,kc,_,kz⟩:=Row.at1 (hs.row (.slice ak kl.length ck)) k hlt
    rw [List.getElem?_map,List.getElem?_eq_getElem hlt] at hu
    simp only [Option.map_some,Option.some.injEq] at hu
    subst hu
    have IN:=hQ (rinc_x r t gs hush x hok.out kl[k] hcr.out _ wr (hs.pull1 (A1:=RefAt r t gs hush x)))
    have HTK:=hQ (show kl.take (k+1)=kl.take k++ [kl[k]] from List.take_succ_eq_append_getElem hlt)
    have HDK:=hQ (show kl=kl.take k++kl[k] :: kl.drop (k+1) from by
     rw [← List.drop_eq_getElem_cons hlt,List.take_append_drop])
    have HST3:=hQ hst
    clear hs hst
    generalize kl[k]=kn at*
    generalize hEE:incL t.refs t.counts kn=EE at*
    have HEE:=hQ hEE
    clear hEE
    go_wp2_with fail
    refine IN.out.mono ?_
    rintro e w3 ⟨rfl,st3,ok3,hs2⟩
    have HS2:=hQ (OwnL.of1 hs2)
    have HOK3:=hQ ok3
    clear hs2 ok3
    by_cases hi0:EE=0
    · subst hi0
      clear IN
      go_wp2
      go_roundw
      case rel=>
       refine⟨k+1,IncP t kn,by omega,congrArg (Value.int .i64) (by omega),HST3.out.trans st3,hQ ?_,hQ (cb_inc hcr.out kn),HOK3,HS2.out.to⟩
       rw [HTK.out,incsR_app hin.out,incsR_one,if_pos HEE.out]
       rfl
      case measure=>simp [intOf];omega
    · have hib:(EE != 0)=true:=by rw [bne_iff_ne];exact hi0
      have HI0:=hQ hi0
      clear IN hi0
      go_wp2
      go_ret
      have e2:IncP t kn=t:=by unfold IncP;rw [HEE.out];exact if_neg HI0.out
      have e3:incsR s (kidsOf g)=(EE,t):=by
       rw [HKL.out,HDK.out,incsR_app hin.out,incsR_one,HEE.out,if_neg HI0.out]
      rw [e2] at HS2
      rw [HR.out,e3]
      exact⟨rfl,HST3.out.trans st3,hok.out,hcr.out,HS2.out.end2⟩
  · have hkk:k=kl.length:=by omega
    subst hkk
    have HS:=hQ hs
    clear hs
    go_wp2
    go_ret
    have hin2:=hin.out
    rw [List.take_length] at hin2
    rw [HR.out,HKL.out,hin2]
    exact⟨rfl,hst,hok.out,hcr.out,HS.out.end2⟩
end
end Go.Proofs.YtbobcmimkonnoaaGreat.B7
