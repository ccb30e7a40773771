/- The program's parted, as Split calls it: the two halves of a page that is full; the conditions stand as hypotheses. -/
import Derived.Test.YtkfjilnmnbeokaaGreatPutInPlaceM26
import Derived.Test.YtkfjilnmnbeokaaGreatPutInPlaceM25
import Derived.Test.YtkfjilnmnbeokaaGreatPutInPlaceM03
import Derived.Test.YtkfjilnmnbeokaaGreatPutInPlaceM01
set_option maxRecDepth 100000
set_option maxHeartbeats 16000000
namespace Go.Proofs.YtkfjilnmnbeokaaGreat.X6
open ChangeShapes WideShapes ChangeAt RowKit Sl Cop G2 J2 X3 Z3 Y3 M4 Y5 N6 Q6 S6 V6 W6 P6
theorem with1(h:Hp)(k0 l0 nx:Int)(ai:Option Addr)(ni ci:Nat)(vd:Value)(dat:List Int)(hd:Bytes h vd dat)(hdl:dat.length≤65536)(v1:Value)(A:List ItemV)(hA:ItemsIn h v1 A)(hfit:∀x∈A,x.key.length≤65536∧x.value.length≤65536)
 (hn:A.length≤65536) (b:Nat) (F:Pr) (w:World) (hF:Sat ((Pr.pts b (.cells [v1].toArray 72 (0,0))).star ((Pr.own h).star F)) w):
 Calls Tryz.prog 110 #[pageV k0 l0 (.slice ai ni ci) vd nx,.slice (some ⟨b,0,none⟩) 1 1] w fun e w'=>Stays w w'∧∃t:ToldX,e= .returned t.pv∧t.g=⟨k0,l0,A,dat,nx⟩∧OwnL [PgOwn t,Pr.own h,F] w':=by
 obtain⟨hh,ha,hs⟩:=((OwnL.in2 hF).join2 (Pr.own h) (Pr.pts b (.cells [v1].toArray 72 (0,0)))).arena ((Pr.own h).star (Pr.pts b (.cells [v1].toArray 72 (0,0))));obtain⟨x,y,hx,hy,sx,sy⟩:=star_sub ha;cases own_is hx
 have hp:PiecesIn hh (.slice (some ⟨b,0,none⟩) 1 1) [(v1,A)]:=⟨(pts_rowIn (k:=1) (n:=1) hy rfl rfl (by simp [maxLen])).sub sy,fun p hp=>by
  rw [List.mem_singleton.1 hp]
  exact hA.sub sx⟩
 have hio:itemsOf [(v1,A)]=A:=by simp [itemsOf]
 have W:=with_any hh k0 l0 nx ai ni ci vd dat (hd.sub sx) hdl _ _ hp (fun p hp y hy=>by rw [List.mem_singleton.1 hp] at hy;exact hfit y hy) (by rw [hio];exact hn) (by simp) _ w (hs.pull1 (A1:=Pr.own hh));rw [hio] at W;refine W.mono ?_;rintro e w' ⟨st,t,e1,e2,ho⟩;have h6:=(ho.flat.back ((Pr.own h).star (Pr.pts b (.cells [v1].toArray 72 (0,0)))) ha).norm;exact⟨st,t,e1,e2,h6.to⟩
theorem told_sh2 {t:ToldX}{F:Pr}{w:World}(h:Sat ((PgOwn t).star F) w):∃ai ci ad cd,t.vi= .slice ai t.g.items.length ci∧t.vd= .slice ad t.g.data.length cd:=by
 obtain⟨_,h1⟩:=pgOwn_iff.1 h;obtain⟨ai,ci,e1⟩:=Row.shape h1;obtain⟨ad,cd,e2⟩:=Row.shape h1.right.right;exact⟨ai,ci,ad,cd,e1,e2⟩
theorem results_row2 {fn:Func}{p u q r:Tmp}{ty tu:TypeId}(h:fn.results= #[.cell p ty,.cell u tu,.tmp q,.tmp r])(tmps:Array Value)(w:World)(g g2:Nat)(x y z t:Value)
 (hp:tmps.getD p undef= .pointer (some ⟨g,0,none⟩)) (hr:(loadVar ty ⟨g,0,none⟩).run Tryz.prog w= .ok x w) (hu:tmps.getD u undef= .pointer (some ⟨g2,0,none⟩)) (hr2:(loadVar tu ⟨g2,0,none⟩).run Tryz.prog w= .ok y w)
 (hq:tmps.getD q undef=z) (ht:tmps.getD r undef=t):
 (results fn tmps).run Tryz.prog w= .ok (.tuple #[x,y,z,t]) w:=by
 have hp':tmps[p]?.getD undef= .pointer (some ⟨g,0,none⟩):=by simpa using hp
 have hu':tmps[u]?.getD undef= .pointer (some ⟨g2,0,none⟩):=by simpa using hu
 have hq':tmps[q]?.getD undef=z:=by simpa using hq
 have ht':tmps[r]?.getD undef=t:=by simpa using ht
 simp [results,h,hp',hu',hq',ht',asAddr,Sem.run_bind,Result.andThen,hr,hr2]
structure RZ where
 p:Nat
 q:Nat
 r:Nat
 s:Nat
 b2:Nat
 b6:Nat
 b8:Nat
 b9:Nat
 tl:ToldX
 tr:ToldX
 u14:Value
 u15:Value
 u25:Value
 u26:Value
 u27:Value
 u28:Value
 u29:Value
 u30:Value
 u31:Value
 u32:Value
abbrev frR(W:Nat)(k0 lv nx:Int)(ai a2:Option Addr)(ci:Nat)(vd:Value)(Z:RZ):Act:= { tmps:= #[pageV k0 lv (.slice ai 8 ci) vd nx,pageV k0 lv (.slice ai 8 ci) vd nx,.slice ai 8 ci,.int .i64 4,.pointer (some ⟨W,0,none⟩),.pointer (some ⟨W+1,0,none⟩),undef,undef,.pointer (some ⟨W+1+1,0,none⟩),.pointer (some ⟨W+1+1+1,0,none⟩),.slice none 0 0,.bool false,.slice ai 4 4,.slice a2 4 (ci-4),Z.u14,Z.u15,undef,undef,undef,.tuple #[.slice ai 4 4,.slice a2 4 (ci-4)],.slice ai 8 ci,.int .i64 4,.tuple #[.slice ai 4 4,.slice a2 4 (ci-4)],.slice ai 4 4,.slice a2 4 (ci-4),Z.u25,Z.u26,Z.u27,Z.u28,Z.u29,Z.u30,Z.u31,Z.u32,undef,undef,undef,undef,undef,undef,undef,undef,undef,undef,undef,undef,undef,undef,undef,undef,undef,undef,undef,undef,undef,undef,undef,undef,undef,undef,undef,undef,undef,undef,undef,undef,undef,undef,undef,undef],defers:= [] }
def pcA(p b:Nat)(v:Value)(t:ToldX):Pr:=match p with
 | 0=>Pr.emp
 | 1=>Pr.pts b (.cells [v].toArray 72 (0,0))
 | _=>PgOwn t
def pcC(r b:Nat)(t:ToldX):Pr:=match r with
 | 0=>Pr.emp
 | 1=>Pr.pts b (pageC 0 0 (.slice none 0 0) (.slice none 0 0) 0)
 | _=>Pr.pts b (pageC t.g.kind t.g.level t.vi t.vd t.g.next)
structure RegOk(h:Hp)(F:Pr)(W:Nat)(k0 lv nx:Int)(ai a2:Option Addr)(ci:Nat)(vd:Value)(its:List ItemV)(dat:List Int)(w0:World)(D:Nat→Bool)(f:Act)(w:World)(Z:RZ):Prop where
 fr:f=frR W k0 lv nx ai a2 ci vd Z
 d0:D 0=true→Z.u25=pageV k0 lv (.slice ai 8 ci) vd nx
 d1:D 1=true→Z.u26= .slice ai 4 4
 d4:D 4=true→Z.u29=pageV k0 lv (.slice ai 8 ci) vd nx
 d5:D 5=true→Z.u30= .slice a2 4 (ci-4)
 e2:D 2=decide (1≤Z.p)
 e3:D 3=decide (2≤Z.p)
 lp:Z.p≤2
 e6:D 6=decide (1≤Z.q)
 e7:D 7=decide (2≤Z.q)
 lq:Z.q≤2
 e8:D 8=decide (1≤Z.r)
 e10:D 10=decide (2≤Z.r)
 lr:Z.r≤2
 e9:D 9=decide (1≤Z.s)
 e11:D 11=decide (2≤Z.s)
 ls:Z.s≤2
 lrp:2≤Z.r→2≤Z.p
 lsq:2≤Z.s→2≤Z.q
 v2:1≤Z.p→Z.u27= .slice (some ⟨Z.b2,0,none⟩) 1 1
 v3:2≤Z.p→Z.u28=Z.tl.pv∧Z.tl.g=⟨k0,lv,its.take 4,dat,nx⟩
 v6:1≤Z.q→Z.u31= .slice (some ⟨Z.b6,0,none⟩) 1 1
 v7:2≤Z.q→Z.u32=Z.tr.pv∧Z.tr.g=⟨k0,lv,its.drop 4,dat,nx⟩
 v8:1≤Z.r→Z.u14= .pointer (some ⟨Z.b8,0,none⟩)
 v9:1≤Z.s→Z.u15= .pointer (some ⟨Z.b9,0,none⟩)
 st:Stays w0 w
 own:OwnL [pcA Z.p Z.b2 (.slice ai 4 4) Z.tl,pcA Z.q Z.b6 (.slice a2 4 (ci-4)) Z.tr,pcC Z.r Z.b8 Z.tl,pcC Z.s Z.b9 Z.tr,Pr.pts (W+1+1+1) (pageC 0 0 (.slice none 0 0) (.slice none 0 0) 0),Pr.pts (W+1+1) (pageC 0 0 (.slice none 0 0) (.slice none 0 0) 0),Pr.pts (W+1) (pageC k0 lv (.slice ai 8 ci) vd nx),Pr.pts W (pageC k0 lv (.slice ai 8 ci) vd nx),Pr.own h,F] w
theorem parted_leaf(h:Hp)(lv nx:Int)(ai:Option Addr)(ci:Nat)(vd:Value)(its:List ItemV)(dat:List Int)(hi:ItemsIn h (.slice ai 8 ci) its)(h8:its.length=8)(hdd:Bytes h vd dat)(hdl:dat.length≤65536)(fk:∀x∈its,x.key.length≤65536∧x.value.length≤65536)
 (hb:betB (itemAt its 3).key (itemAt its 4).key=true) (hu:∀x∈its,U8 x.key) (F:Pr) (w:World) (hF:Sat ((Pr.own h).star F) w):
 Calls Tryz.prog 169 #[pageV 1 lv (.slice ai 8 ci) vd nx,pageV 1 lv (.slice ai 8 ci) vd nx,.slice ai 8 ci,.int .i64 4] w fun e w'=>Stays w w'∧∃tl tr:ToldX,∃o,e= .returned (.tuple #[tl.pv,tr.pv,o,.bool true])∧tl.g=leftG ⟨1,lv,its,dat,nx⟩∧tr.g=rightG ⟨1,lv,its,dat,nx⟩∧OwnL [PgOwn tl,PgOwn tr,BytesRow o (sepG ⟨1,lv,its,dat,nx⟩),Pr.own h,F] w':=by
 obtain⟨ad,cd,rfl⟩:=bytes_shape hdd;obtain⟨_,_,e0,hcm,hrd⟩:=items_rd hi;rw [h8] at e0;obtain⟨rfl,_,rfl⟩:ai=_∧(8:Nat)=8∧ci=_:=by simpa using e0
 clear e0
 have hic:8≤ci:=by
  obtain⟨_,_,⟨_,_,_,e,h1,_⟩,_⟩:=id hi;simp only [Value.slice.injEq] at e;omega
 have hs0:=((((OwnL.in1 hF).alloc (pageC 1 lv (.slice ai 8 ci) (.slice ad dat.length cd) nx)).alloc (pageC 1 lv (.slice ai 8 ci) (.slice ad dat.length cd) nx)).alloc (pageC 0 0 (.slice none 0 0) (.slice none 0 0) 0)).alloc (pageC 0 0 (.slice none 0 0) (.slice none 0 0) 0)
 rw [show (((w.alloc (pageC 1 lv (.slice ai 8 ci) (.slice ad dat.length cd) nx)).alloc (pageC 1 lv (.slice ai 8 ci) (.slice ad dat.length cd) nx)).alloc (pageC 0 0 (.slice none 0 0) (.slice none 0 0) 0)).heap.size=w.heap.size+1+1+1 by simp,show ((w.alloc (pageC 1 lv (.slice ai 8 ci) (.slice ad dat.length cd) nx)).alloc (pageC 1 lv (.slice ai 8 ci) (.slice ad dat.length cd) nx)).heap.size=w.heap.size+1+1 by simp,show (w.alloc (pageC 1 lv (.slice ai 8 ci) (.slice ad dat.length cd) nx)).heap.size=w.heap.size+1 by simp] at hs0
 have HST:=hQ (((((Stays.refl w).alloc (pageC 1 lv (.slice ai 8 ci) (.slice ad dat.length cd) nx)).alloc (pageC 1 lv (.slice ai 8 ci) (.slice ad dat.length cd) nx)).alloc (pageC 0 0 (.slice none 0 0) (.slice none 0 0) 0)).alloc (pageC 0 0 (.slice none 0 0) (.slice none 0 0) 0));have PA:=hQ (fun wx=>parts_any ai 8 ci 4 (by omega) ⟨hic,hcm⟩ wx)
 have I1:=items_take (by rw [h8];exact hi) (m:=4) (by omega);have I2:=items_drop (by rw [h8];exact hi) (m:=4) (by omega);rw [h8] at I2;obtain⟨a2,ha2⟩:∃a2,(if ci=4 then ai else Option.map (fun x=>x.add (4*4)) ai)=a2:=⟨_,rfl⟩;rw [ha2] at I2 PA;clear ha2;have c1:=hs0.facts;simp only [CellsAt,Nat.reduceAdd,and_true] at c1;have HS0:=hQ hs0;have HI:=hQ (And.intro hdd (And.intro I1 I2));have HRD:=hQ hrd
 have hc4:(4:Int)≤ci:=by omega
 clear hF hs0 hi hdd I1 I2 hrd;go_enter Tryz.func169,Tryz.ntmps169
 go_wp2_with fail
 refine(PA.out _).mono ?_;rintro e w1 ⟨rfl,rfl⟩;generalize hw0:(((w.alloc (pageC 1 lv (.slice ai 8 ci) (.slice ad dat.length cd) nx)).alloc (pageC 1 lv (.slice ai 8 ci) (.slice ad dat.length cd) nx)).alloc (pageC 0 0 (.slice none 0 0) (.slice none 0 0) 0)).alloc (pageC 0 0 (.slice none 0 0) (.slice none 0 0) 0)=w0 at*;clear hw0
 have WL:=hQ (fun b2 FX wx hf=>with1 h 1 lv nx ai 8 ci _ dat HI.out.1 hdl _ _ HI.out.2.1 (fun x hx=>fk x (List.mem_of_mem_take hx)) (by rw [List.length_take];omega) b2 FX wx hf);have WR:=hQ (fun b2 FX wx hf=>with1 h 1 lv nx ai 8 ci _ dat HI.out.1 hdl _ _ HI.out.2.2 (fun x hx=>fk x (List.mem_of_mem_drop hx)) (by rw [List.length_drop];omega) b2 FX wx hf);go_wp2_with fail
 refine wp_region_inv (sz:=69) (by kernel_rfl) (by kernel_rfl) (fun D f wx=> ∃Z:RZ,RegOk h F w.heap.size 1 lv nx ai a2 ci (.slice ad dat.length cd) its dat w D f wx Z) ?_ ?_ ?_
 · refine⟨⟨0,0,0,0,0,0,0,0,zeroT,zeroT,undef,undef,undef,undef,undef,undef,undef,undef,undef,undef⟩,?_⟩
   refine⟨rfl,fun e=>(by cases e),fun e=>(by cases e),fun e=>(by cases e),fun e=>(by cases e),rfl,rfl,Nat.zero_le _,rfl,rfl,Nat.zero_le _,rfl,rfl,Nat.zero_le _,rfl,rfl,Nat.zero_le _,fun e=>(by simp at e),fun e=>(by simp at e),fun e=>(by simp at e),fun e=>(by simp at e),fun e=>(by simp at e),fun e=>(by simp at e),fun e=>(by simp at e),fun e=>(by simp at e),HST.out.drew.drew,?_⟩
   exact HS0.out.drew.drew.emp.emp.emp.emp
 · clear HS0 HST c1
   intro D f wx x o ho hx hd hI;obtain⟨⟨p,q,r,s,b2,b6,b8,b9,tl,tr,u14,u15,u25,u26,u27,u28,u29,u30,u31,u32⟩,ok⟩:=hI;obtain⟨rfl,d0,d1,d4,d5,e2,e3,lp,e6,e7,lq,e8,e10,lr,e9,e11,ls,lrp,lsq,v2,v3,v6,v7,v8,v9,st,own⟩:=ok;simp only at d0 d1 d4 d5 e2 e3 lp e6 e7 lq e8 e10 lr e9 e11 ls lrp lsq v2 v3 v6 v7 v8 v9 own;obtain _ | _ | _ | _ | _ | _ | _ | _ | _ | _ | _ | _ | x:=x
   · skip
     replace d0:=hQ d0
     replace d1:=hQ d1
     replace d4:=hQ d4
     replace d5:=hQ d5
     replace e2:=hQ e2
     replace e3:=hQ e3
     replace lp:=hQ lp
     replace e6:=hQ e6
     replace e7:=hQ e7
     replace lq:=hQ lq
     replace e8:=hQ e8
     replace e10:=hQ e10
     replace lr:=hQ lr
     replace e9:=hQ e9
     replace e11:=hQ e11
     replace ls:=hQ ls
     replace lrp:=hQ lrp
     replace lsq:=hQ lsq
     replace v2:=hQ v2
     replace v3:=hQ v3
     replace v6:=hQ v6
     replace v7:=hQ v7
     replace v8:=hQ v8
     replace v9:=hQ v9
     have c1:=own.facts;simp only [CellsAt,Nat.reduceAdd,and_true] at c1;have OWN:=hQ own;clear own;refine op_of_list rfl ?_;go_wp2;refine onN_mk ?_
     exact⟨⟨p,q,r,s,b2,b6,b8,b9,tl,tr,u14,u15,pageV 1 lv (.slice ai 8 ci) (.slice ad dat.length cd) nx,u26,u27,u28,u29,u30,u31,u32⟩,⟨rfl,fun _=>rfl,d1.out,d4.out,d5.out,e2.out,e3.out,lp.out,e6.out,e7.out,lq.out,e8.out,e10.out,lr.out,e9.out,e11.out,ls.out,lrp.out,lsq.out,v2.out,v3.out,v6.out,v7.out,v8.out,v9.out,st,OWN.out⟩⟩
   · skip
     replace d0:=hQ d0
     replace d1:=hQ d1
     replace d4:=hQ d4
     replace d5:=hQ d5
     replace e2:=hQ e2
     replace e3:=hQ e3
     replace lp:=hQ lp
     replace e6:=hQ e6
     replace e7:=hQ e7
     replace lq:=hQ lq
     replace e8:=hQ e8
     replace e10:=hQ e10
     replace lr:=hQ lr
     replace e9:=hQ e9
     replace e11:=hQ e11
     replace ls:=hQ ls
     replace lrp:=hQ lrp
     replace lsq:=hQ lsq
     replace v2:=hQ v2
     replace v3:=hQ v3
     replace v6:=hQ v6
     replace v7:=hQ v7
     replace v8:=hQ v8
     replace v9:=hQ v9
     have c1:=own.facts;simp only [CellsAt,Nat.reduceAdd,and_true] at c1;have OWN:=hQ own;clear own;refine op_of_list rfl ?_;go_wp2;refine onN_mk ?_
     exact⟨⟨p,q,r,s,b2,b6,b8,b9,tl,tr,u14,u15,u25,.slice ai 4 4,u27,u28,u29,u30,u31,u32⟩,⟨rfl,d0.out,fun _=>rfl,d4.out,d5.out,e2.out,e3.out,lp.out,e6.out,e7.out,lq.out,e8.out,e10.out,lr.out,e9.out,e11.out,ls.out,lrp.out,lsq.out,v2.out,v3.out,v6.out,v7.out,v8.out,v9.out,st,OWN.out⟩⟩
   · have h1:D 1=true:=hd ⟨1,.data⟩ (by cases ho;simp) rfl
     obtain rfl:=d1 h1;obtain rfl:p=0:=by have:=of_decide_eq_false (e2.symm.trans hx);omega
     replace d0:=hQ d0
     replace d1:=hQ d1
     replace d4:=hQ d4
     replace d5:=hQ d5
     replace e2:=hQ e2
     replace e3:=hQ e3
     replace lp:=hQ lp
     replace e6:=hQ e6
     replace e7:=hQ e7
     replace lq:=hQ lq
     replace e8:=hQ e8
     replace e10:=hQ e10
     replace lr:=hQ lr
     replace e9:=hQ e9
     replace e11:=hQ e11
     replace ls:=hQ ls
     replace lrp:=hQ lrp
     replace lsq:=hQ lsq
     replace v2:=hQ v2
     replace v3:=hQ v3
     replace v6:=hQ v6
     replace v7:=hQ v7
     replace v8:=hQ v8
     replace v9:=hQ v9
     have c1:=own.facts;simp only [CellsAt,Nat.reduceAdd,and_true] at c1;have o2:=own.alloc (.cells [.slice ai 4 4].toArray 72)
     have OWN:=hQ (o2.to (M:= [Pr.pts wx.heap.size (.cells [.slice ai 4 4].toArray 72 (0,0)),pcA q b6 (.slice a2 4 (ci-4)) tr,pcC r b8 tl,pcC s b9 tr,Pr.pts (w.heap.size+1+1+1) (pageC 0 0 (.slice none 0 0) (.slice none 0 0) 0),Pr.pts (w.heap.size+1+1) (pageC 0 0 (.slice none 0 0) (.slice none 0 0) 0),Pr.pts (w.heap.size+1) (pageC 1 lv (.slice ai 8 ci) (.slice ad dat.length cd) nx),Pr.pts w.heap.size (pageC 1 lv (.slice ai 8 ci) (.slice ad dat.length cd) nx),Pr.own h,F]))
     have STX:=hQ (st.alloc (.cells [.slice ai 4 4].toArray 72));clear own o2;refine op_of_list rfl ?_;go_wp2;refine onN_mk ?_
     exact⟨⟨1,q,r,s,wx.heap.size,b6,b8,b9,tl,tr,u14,u15,u25,.slice ai 4 4,.slice (some ⟨wx.heap.size,0,none⟩) 1 1,u28,u29,u30,u31,u32⟩,⟨rfl,d0.out,fun _=>rfl,d4.out,d5.out,rfl,e3.out,(by show (1:Nat)≤2;omega),e6.out,e7.out,lq.out,e8.out,e10.out,lr.out,e9.out,e11.out,ls.out,fun e=>absurd (lrp.out e) (by omega),lsq.out,fun _=>rfl,fun e=>absurd (show (2:Nat)≤1 from e) (by omega),v6.out,v7.out,v8.out,v9.out,STX.out,OWN.out⟩⟩
   · have h0:D 0=true:=hd ⟨0,.data⟩ (by cases ho;simp) rfl
     have h2:D 2=true:=hd ⟨2,.data⟩ (by cases ho;simp) rfl;obtain rfl:=d0 h0;obtain rfl:p=1:=by have:=of_decide_eq_true (e2.symm.trans h2);have:=of_decide_eq_false (e3.symm.trans hx);omega
     obtain rfl:=v2 (Nat.le_refl _);have hr:r≤1:=by have:=fun e=>lrp e;omega
     have own1:OwnL [Pr.pts b2 (.cells [.slice ai 4 4].toArray 72 (0,0)),pcA q b6 (.slice a2 4 (ci-4)) tr,pcC r b8 tl,pcC s b9 tr,Pr.pts (w.heap.size+1+1+1) (pageC 0 0 (.slice none 0 0) (.slice none 0 0) 0),Pr.pts (w.heap.size+1+1) (pageC 0 0 (.slice none 0 0) (.slice none 0 0) 0),Pr.pts (w.heap.size+1) (pageC 1 lv (.slice ai 8 ci) (.slice ad dat.length cd) nx),Pr.pts w.heap.size (pageC 1 lv (.slice ai 8 ci) (.slice ad dat.length cd) nx),Pr.own h,F] wx:=own
     have W3:=hQ (WL.out b2 _ wx (own1.pull2 (A1:=Pr.pts b2 (.cells [.slice ai 4 4].toArray 72 (0,0))) (A2:=Pr.own h)));clear own own1;replace d0:=hQ d0
     replace d1:=hQ d1
     replace d4:=hQ d4
     replace d5:=hQ d5
     replace e2:=hQ e2
     replace e3:=hQ e3
     replace lp:=hQ lp
     replace e6:=hQ e6
     replace e7:=hQ e7
     replace lq:=hQ lq
     replace e8:=hQ e8
     replace e10:=hQ e10
     replace lr:=hQ lr
     replace e9:=hQ e9
     replace e11:=hQ e11
     replace ls:=hQ ls
     replace lrp:=hQ lrp
     replace lsq:=hQ lsq
     replace v2:=hQ v2
     replace v3:=hQ v3
     replace v6:=hQ v6
     replace v7:=hQ v7
     replace v8:=hQ v8
     replace v9:=hQ v9
     refine op_of_list rfl ?_;go_wp2_with fail
     refine W3.out.mono ?_;rintro e w2 ⟨st2,t,rfl,ht,hs2⟩
     have hC:pcC r b8 tl=pcC r b8 t:=by obtain rfl | rfl:r=0∨r=1:=by omega
                                        all_goals rfl
     rw [hC] at hs2
     have OWN:=hQ (hs2.flat.to (M:= [PgOwn t,pcA q b6 (.slice a2 4 (ci-4)) tr,pcC r b8 t,pcC s b9 tr,Pr.pts (w.heap.size+1+1+1) (pageC 0 0 (.slice none 0 0) (.slice none 0 0) 0),Pr.pts (w.heap.size+1+1) (pageC 0 0 (.slice none 0 0) (.slice none 0 0) 0),Pr.pts (w.heap.size+1) (pageC 1 lv (.slice ai 8 ci) (.slice ad dat.length cd) nx),Pr.pts w.heap.size (pageC 1 lv (.slice ai 8 ci) (.slice ad dat.length cd) nx),Pr.own h,F]))
     clear hs2 hC;go_wp2;refine onN_mk ?_
     exact⟨⟨2,q,r,s,b2,b6,b8,b9,t,tr,u14,u15,pageV 1 lv (.slice ai 8 ci) (.slice ad dat.length cd) nx,u26,.slice (some ⟨b2,0,none⟩) 1 1,t.pv,u29,u30,u31,u32⟩,⟨rfl,fun _=>rfl,d1.out,d4.out,d5.out,(by simpa using h2),rfl,Nat.le_refl _,e6.out,e7.out,lq.out,e8.out,e10.out,lr.out,e9.out,e11.out,ls.out,fun _=>Nat.le_refl _,lsq.out,fun _=>rfl,fun _=>⟨rfl,ht⟩,v6.out,v7.out,v8.out,v9.out,st.trans st2,OWN.out⟩⟩
   · skip
     replace d0:=hQ d0
     replace d1:=hQ d1
     replace d4:=hQ d4
     replace d5:=hQ d5
     replace e2:=hQ e2
     replace e3:=hQ e3
     replace lp:=hQ lp
     replace e6:=hQ e6
     replace e7:=hQ e7
     replace lq:=hQ lq
     replace e8:=hQ e8
     replace e10:=hQ e10
     replace lr:=hQ lr
     replace e9:=hQ e9
     replace e11:=hQ e11
     replace ls:=hQ ls
     replace lrp:=hQ lrp
     replace lsq:=hQ lsq
     replace v2:=hQ v2
     replace v3:=hQ v3
     replace v6:=hQ v6
     replace v7:=hQ v7
     replace v8:=hQ v8
     replace v9:=hQ v9
     have c1:=own.facts;simp only [CellsAt,Nat.reduceAdd,and_true] at c1;have OWN:=hQ own;clear own;refine op_of_list rfl ?_;go_wp2;refine onN_mk ?_
     exact⟨⟨p,q,r,s,b2,b6,b8,b9,tl,tr,u14,u15,u25,u26,u27,u28,pageV 1 lv (.slice ai 8 ci) (.slice ad dat.length cd) nx,u30,u31,u32⟩,⟨rfl,d0.out,d1.out,fun _=>rfl,d5.out,e2.out,e3.out,lp.out,e6.out,e7.out,lq.out,e8.out,e10.out,lr.out,e9.out,e11.out,ls.out,lrp.out,lsq.out,v2.out,v3.out,v6.out,v7.out,v8.out,v9.out,st,OWN.out⟩⟩
   · skip
     replace d0:=hQ d0
     replace d1:=hQ d1
     replace d4:=hQ d4
     replace d5:=hQ d5
     replace e2:=hQ e2
     replace e3:=hQ e3
     replace lp:=hQ lp
     replace e6:=hQ e6
     replace e7:=hQ e7
     replace lq:=hQ lq
     replace e8:=hQ e8
     replace e10:=hQ e10
     replace lr:=hQ lr
     replace e9:=hQ e9
     replace e11:=hQ e11
     replace ls:=hQ ls
     replace lrp:=hQ lrp
     replace lsq:=hQ lsq
     replace v2:=hQ v2
     replace v3:=hQ v3
     replace v6:=hQ v6
     replace v7:=hQ v7
     replace v8:=hQ v8
     replace v9:=hQ v9
     have c1:=own.facts;simp only [CellsAt,Nat.reduceAdd,and_true] at c1;have OWN:=hQ own;clear own;refine op_of_list rfl ?_;go_wp2;refine onN_mk ?_
     exact⟨⟨p,q,r,s,b2,b6,b8,b9,tl,tr,u14,u15,u25,u26,u27,u28,u29,.slice a2 4 (ci-4),u31,u32⟩,⟨rfl,d0.out,d1.out,d4.out,fun _=>rfl,e2.out,e3.out,lp.out,e6.out,e7.out,lq.out,e8.out,e10.out,lr.out,e9.out,e11.out,ls.out,lrp.out,lsq.out,v2.out,v3.out,v6.out,v7.out,v8.out,v9.out,st,OWN.out⟩⟩
   · have h5:D 5=true:=hd ⟨5,.data⟩ (by cases ho;simp) rfl
     obtain rfl:=d5 h5;obtain rfl:q=0:=by have:=of_decide_eq_false (e6.symm.trans hx);omega
     replace d0:=hQ d0
     replace d1:=hQ d1
     replace d4:=hQ d4
     replace d5:=hQ d5
     replace e2:=hQ e2
     replace e3:=hQ e3
     replace lp:=hQ lp
     replace e6:=hQ e6
     replace e7:=hQ e7
     replace lq:=hQ lq
     replace e8:=hQ e8
     replace e10:=hQ e10
     replace lr:=hQ lr
     replace e9:=hQ e9
     replace e11:=hQ e11
     replace ls:=hQ ls
     replace lrp:=hQ lrp
     replace lsq:=hQ lsq
     replace v2:=hQ v2
     replace v3:=hQ v3
     replace v6:=hQ v6
     replace v7:=hQ v7
     replace v8:=hQ v8
     replace v9:=hQ v9
     have c1:=own.facts;simp only [CellsAt,Nat.reduceAdd,and_true] at c1;have o2:=own.alloc (.cells [.slice a2 4 (ci-4)].toArray 72)
     have OWN:=hQ (o2.to (M:= [pcA p b2 (.slice ai 4 4) tl,Pr.pts wx.heap.size (.cells [.slice a2 4 (ci-4)].toArray 72 (0,0)),pcC r b8 tl,pcC s b9 tr,Pr.pts (w.heap.size+1+1+1) (pageC 0 0 (.slice none 0 0) (.slice none 0 0) 0),Pr.pts (w.heap.size+1+1) (pageC 0 0 (.slice none 0 0) (.slice none 0 0) 0),Pr.pts (w.heap.size+1) (pageC 1 lv (.slice ai 8 ci) (.slice ad dat.length cd) nx),Pr.pts w.heap.size (pageC 1 lv (.slice ai 8 ci) (.slice ad dat.length cd) nx),Pr.own h,F]))
     have STX:=hQ (st.alloc (.cells [.slice a2 4 (ci-4)].toArray 72));clear own o2;refine op_of_list rfl ?_;go_wp2;refine onN_mk ?_
     exact⟨⟨p,1,r,s,b2,wx.heap.size,b8,b9,tl,tr,u14,u15,u25,u26,u27,u28,u29,.slice a2 4 (ci-4),.slice (some ⟨wx.heap.size,0,none⟩) 1 1,u32⟩,⟨rfl,d0.out,d1.out,d4.out,fun _=>rfl,e2.out,e3.out,lp.out,rfl,e7.out,(by show (1:Nat)≤2;omega),e8.out,e10.out,lr.out,e9.out,e11.out,ls.out,lrp.out,fun e=>absurd (lsq.out e) (by omega),v2.out,v3.out,fun _=>rfl,fun e=>absurd (show (2:Nat)≤1 from e) (by omega),v8.out,v9.out,STX.out,OWN.out⟩⟩
   · have h4:D 4=true:=hd ⟨4,.data⟩ (by cases ho;simp) rfl
     have h6:D 6=true:=hd ⟨6,.data⟩ (by cases ho;simp) rfl;obtain rfl:=d4 h4;obtain rfl:q=1:=by have:=of_decide_eq_true (e6.symm.trans h6);have:=of_decide_eq_false (e7.symm.trans hx);omega
     obtain rfl:=v6 (Nat.le_refl _);have hr:s≤1:=by have:=fun e=>lsq e;omega
     have own1:OwnL [pcA p b2 (.slice ai 4 4) tl,Pr.pts b6 (.cells [.slice a2 4 (ci-4)].toArray 72 (0,0)),pcC r b8 tl,pcC s b9 tr,Pr.pts (w.heap.size+1+1+1) (pageC 0 0 (.slice none 0 0) (.slice none 0 0) 0),Pr.pts (w.heap.size+1+1) (pageC 0 0 (.slice none 0 0) (.slice none 0 0) 0),Pr.pts (w.heap.size+1) (pageC 1 lv (.slice ai 8 ci) (.slice ad dat.length cd) nx),Pr.pts w.heap.size (pageC 1 lv (.slice ai 8 ci) (.slice ad dat.length cd) nx),Pr.own h,F] wx:=own
     have W3:=hQ (WR.out b6 _ wx (own1.pull2 (A1:=Pr.pts b6 (.cells [.slice a2 4 (ci-4)].toArray 72 (0,0))) (A2:=Pr.own h)));clear own own1;replace d0:=hQ d0
     replace d1:=hQ d1
     replace d4:=hQ d4
     replace d5:=hQ d5
     replace e2:=hQ e2
     replace e3:=hQ e3
     replace lp:=hQ lp
     replace e6:=hQ e6
     replace e7:=hQ e7
     replace lq:=hQ lq
     replace e8:=hQ e8
     replace e10:=hQ e10
     replace lr:=hQ lr
     replace e9:=hQ e9
     replace e11:=hQ e11
     replace ls:=hQ ls
     replace lrp:=hQ lrp
     replace lsq:=hQ lsq
     replace v2:=hQ v2
     replace v3:=hQ v3
     replace v6:=hQ v6
     replace v7:=hQ v7
     replace v8:=hQ v8
     replace v9:=hQ v9
     refine op_of_list rfl ?_;go_wp2_with fail
     refine W3.out.mono ?_;rintro e w2 ⟨st2,t,rfl,ht,hs2⟩
     have hC:pcC s b9 tr=pcC s b9 t:=by obtain rfl | rfl:s=0∨s=1:=by omega
                                        all_goals rfl
     rw [hC] at hs2
     have OWN:=hQ (hs2.flat.to (M:= [pcA p b2 (.slice ai 4 4) tl,PgOwn t,pcC r b8 tl,pcC s b9 t,Pr.pts (w.heap.size+1+1+1) (pageC 0 0 (.slice none 0 0) (.slice none 0 0) 0),Pr.pts (w.heap.size+1+1) (pageC 0 0 (.slice none 0 0) (.slice none 0 0) 0),Pr.pts (w.heap.size+1) (pageC 1 lv (.slice ai 8 ci) (.slice ad dat.length cd) nx),Pr.pts w.heap.size (pageC 1 lv (.slice ai 8 ci) (.slice ad dat.length cd) nx),Pr.own h,F]))
     clear hs2 hC;go_wp2;refine onN_mk ?_
     exact⟨⟨p,2,r,s,b2,b6,b8,b9,tl,t,u14,u15,u25,u26,u27,u28,pageV 1 lv (.slice ai 8 ci) (.slice ad dat.length cd) nx,u30,.slice (some ⟨b6,0,none⟩) 1 1,t.pv⟩,⟨rfl,d0.out,d1.out,fun _=>rfl,d5.out,e2.out,e3.out,lp.out,(by simpa using h6),rfl,Nat.le_refl _,e8.out,e10.out,lr.out,e9.out,e11.out,ls.out,lrp.out,fun _=>Nat.le_refl _,v2.out,v3.out,fun _=>rfl,fun _=>⟨rfl,ht⟩,v8.out,v9.out,st.trans st2,OWN.out⟩⟩
   · obtain rfl:r=0:=by have:=of_decide_eq_false (e8.symm.trans hx);omega
     replace d0:=hQ d0
     replace d1:=hQ d1
     replace d4:=hQ d4
     replace d5:=hQ d5
     replace e2:=hQ e2
     replace e3:=hQ e3
     replace lp:=hQ lp
     replace e6:=hQ e6
     replace e7:=hQ e7
     replace lq:=hQ lq
     replace e8:=hQ e8
     replace e10:=hQ e10
     replace lr:=hQ lr
     replace e9:=hQ e9
     replace e11:=hQ e11
     replace ls:=hQ ls
     replace lrp:=hQ lrp
     replace lsq:=hQ lsq
     replace v2:=hQ v2
     replace v3:=hQ v3
     replace v6:=hQ v6
     replace v7:=hQ v7
     replace v8:=hQ v8
     replace v9:=hQ v9
     have c1:=own.facts;simp only [CellsAt,Nat.reduceAdd,and_true] at c1;have o2:=own.alloc (pageC 0 0 (.slice none 0 0) (.slice none 0 0) 0)
     have OWN:=hQ (o2.to (M:= [pcA p b2 (.slice ai 4 4) tl,pcA q b6 (.slice a2 4 (ci-4)) tr,Pr.pts wx.heap.size (pageC 0 0 (.slice none 0 0) (.slice none 0 0) 0),pcC s b9 tr,Pr.pts (w.heap.size+1+1+1) (pageC 0 0 (.slice none 0 0) (.slice none 0 0) 0),Pr.pts (w.heap.size+1+1) (pageC 0 0 (.slice none 0 0) (.slice none 0 0) 0),Pr.pts (w.heap.size+1) (pageC 1 lv (.slice ai 8 ci) (.slice ad dat.length cd) nx),Pr.pts w.heap.size (pageC 1 lv (.slice ai 8 ci) (.slice ad dat.length cd) nx),Pr.own h,F]))
     have STX:=hQ (st.alloc (pageC 0 0 (.slice none 0 0) (.slice none 0 0) 0));clear own o2;refine op_of_list rfl ?_;go_wp2;refine onN_mk ?_
     exact⟨⟨p,q,1,s,b2,b6,wx.heap.size,b9,tl,tr,.pointer (some ⟨wx.heap.size,0,none⟩),u15,u25,u26,u27,u28,u29,u30,u31,u32⟩,⟨rfl,d0.out,d1.out,d4.out,d5.out,e2.out,e3.out,lp.out,e6.out,e7.out,lq.out,rfl,e10.out,(by show (1:Nat)≤2;omega),e9.out,e11.out,ls.out,fun e=>absurd (show (2:Nat)≤1 from e) (by omega),lsq.out,v2.out,v3.out,v6.out,v7.out,fun _=>rfl,v9.out,STX.out,OWN.out⟩⟩
   · obtain rfl:s=0:=by have:=of_decide_eq_false (e9.symm.trans hx);omega
     replace d0:=hQ d0
     replace d1:=hQ d1
     replace d4:=hQ d4
     replace d5:=hQ d5
     replace e2:=hQ e2
     replace e3:=hQ e3
     replace lp:=hQ lp
     replace e6:=hQ e6
     replace e7:=hQ e7
     replace lq:=hQ lq
     replace e8:=hQ e8
     replace e10:=hQ e10
     replace lr:=hQ lr
     replace e9:=hQ e9
     replace e11:=hQ e11
     replace ls:=hQ ls
     replace lrp:=hQ lrp
     replace lsq:=hQ lsq
     replace v2:=hQ v2
     replace v3:=hQ v3
     replace v6:=hQ v6
     replace v7:=hQ v7
     replace v8:=hQ v8
     replace v9:=hQ v9
     have c1:=own.facts;simp only [CellsAt,Nat.reduceAdd,and_true] at c1;have o2:=own.alloc (pageC 0 0 (.slice none 0 0) (.slice none 0 0) 0)
     have OWN:=hQ (o2.to (M:= [pcA p b2 (.slice ai 4 4) tl,pcA q b6 (.slice a2 4 (ci-4)) tr,pcC r b8 tl,Pr.pts wx.heap.size (pageC 0 0 (.slice none 0 0) (.slice none 0 0) 0),Pr.pts (w.heap.size+1+1+1) (pageC 0 0 (.slice none 0 0) (.slice none 0 0) 0),Pr.pts (w.heap.size+1+1) (pageC 0 0 (.slice none 0 0) (.slice none 0 0) 0),Pr.pts (w.heap.size+1) (pageC 1 lv (.slice ai 8 ci) (.slice ad dat.length cd) nx),Pr.pts w.heap.size (pageC 1 lv (.slice ai 8 ci) (.slice ad dat.length cd) nx),Pr.own h,F]))
     have STX:=hQ (st.alloc (pageC 0 0 (.slice none 0 0) (.slice none 0 0) 0));clear own o2;refine op_of_list rfl ?_;go_wp2;refine onN_mk ?_
     exact⟨⟨p,q,r,1,b2,b6,b8,wx.heap.size,tl,tr,u14,.pointer (some ⟨wx.heap.size,0,none⟩),u25,u26,u27,u28,u29,u30,u31,u32⟩,⟨rfl,d0.out,d1.out,d4.out,d5.out,e2.out,e3.out,lp.out,e6.out,e7.out,lq.out,e8.out,e10.out,lr.out,rfl,e11.out,(by show (1:Nat)≤2;omega),lrp.out,fun e=>absurd (show (2:Nat)≤1 from e) (by omega),v2.out,v3.out,v6.out,v7.out,v8.out,fun _=>rfl,STX.out,OWN.out⟩⟩
   · have h8:D 8=true:=hd ⟨8,.data⟩ (by cases ho;simp) rfl
     have h3:D 3=true:=hd ⟨3,.data⟩ (by cases ho;simp) rfl;obtain rfl:r=1:=by have:=of_decide_eq_true (e8.symm.trans h8);have:=of_decide_eq_false (e10.symm.trans hx);omega
     obtain rfl:p=2:=by have:=of_decide_eq_true (e3.symm.trans h3);omega
     obtain rfl:=v8 (Nat.le_refl _);obtain⟨rfl,hg⟩:=v3 (Nat.le_refl _);have HG:=hQ hg;clear hg;replace d0:=hQ d0
     replace d1:=hQ d1
     replace d4:=hQ d4
     replace d5:=hQ d5
     replace e2:=hQ e2
     replace e3:=hQ e3
     replace lp:=hQ lp
     replace e6:=hQ e6
     replace e7:=hQ e7
     replace lq:=hQ lq
     replace e8:=hQ e8
     replace e10:=hQ e10
     replace lr:=hQ lr
     replace e9:=hQ e9
     replace e11:=hQ e11
     replace ls:=hQ ls
     replace lrp:=hQ lrp
     replace lsq:=hQ lsq
     replace v2:=hQ v2
     replace v3:=hQ v3
     replace v6:=hQ v6
     replace v7:=hQ v7
     replace v8:=hQ v8
     replace v9:=hQ v9
     have own1:OwnL [PgOwn tl,pcA q b6 (.slice a2 4 (ci-4)) tr,Pr.pts b8 (pageC 0 0 (.slice none 0 0) (.slice none 0 0) 0),pcC s b9 tr,Pr.pts (w.heap.size+1+1+1) (pageC 0 0 (.slice none 0 0) (.slice none 0 0) 0),Pr.pts (w.heap.size+1+1) (pageC 0 0 (.slice none 0 0) (.slice none 0 0) 0),Pr.pts (w.heap.size+1) (pageC 1 lv (.slice ai 8 ci) (.slice ad dat.length cd) nx),Pr.pts w.heap.size (pageC 1 lv (.slice ai 8 ci) (.slice ad dat.length cd) nx),Pr.own h,F] wx:=own
     obtain⟨ti,tc,td,te,e1,e4⟩:=told_sh2 (own1.pull1 (A1:=PgOwn tl));have c1:=own1.facts;simp only [CellsAt,Nat.reduceAdd,and_true] at c1;have OWN1:=hQ own1;have EE:=hQ (And.intro e1 e4);have hpv:tl.pv=pageV tl.g.kind tl.g.level (.slice ti tl.g.items.length tc) (.slice td tl.g.data.length te) tl.g.next:=by unfold ToldX.pv;rw [e1,e4]
     have HPV:=hQ hpv;rw [hpv];clear own own1 e1 e4 hpv;refine op_of_list rfl ?_;go_wp2;refine onN_mk ?_;have h7:=((((OWN1.out.set b8 0 (.int .i64 tl.g.kind)).set b8 1 (.int .i64 tl.g.level)).set b8 2 (.slice ti tl.g.items.length tc)).set b8 3 (.slice td tl.g.data.length te)).set b8 4 (.int .i64 tl.g.next)
     have hW:=h7.to (M:= [PgOwn tl,pcA q b6 (.slice a2 4 (ci-4)) tr,Pr.pts b8 (pageC tl.g.kind tl.g.level (.slice ti tl.g.items.length tc) (.slice td tl.g.data.length te) tl.g.next),pcC s b9 tr,Pr.pts (w.heap.size+1+1+1) (pageC 0 0 (.slice none 0 0) (.slice none 0 0) 0),Pr.pts (w.heap.size+1+1) (pageC 0 0 (.slice none 0 0) (.slice none 0 0) 0),Pr.pts (w.heap.size+1) (pageC 1 lv (.slice ai 8 ci) (.slice ad dat.length cd) nx),Pr.pts w.heap.size (pageC 1 lv (.slice ai 8 ci) (.slice ad dat.length cd) nx),Pr.own h,F])
     have hpg:pageC tl.g.kind tl.g.level (.slice ti tl.g.items.length tc) (.slice td tl.g.data.length te) tl.g.next=pageC tl.g.kind tl.g.level tl.vi tl.vd tl.g.next:=by rw [EE.out.1,EE.out.2]
     rw [hpg] at hW
     exact⟨⟨2,q,2,s,b2,b6,b8,b9,tl,tr,.pointer (some ⟨b8,0,none⟩),u15,u25,u26,u27,tl.pv,u29,u30,u31,u32⟩,⟨(by rw [HPV.out]<;>rfl),d0.out,d1.out,d4.out,d5.out,e2.out,e3.out,lp.out,e6.out,e7.out,lq.out,(by simpa using h8),rfl,Nat.le_refl _,e9.out,e11.out,ls.out,fun _=>Nat.le_refl _,lsq.out,v2.out,fun _=>⟨rfl,HG.out⟩,v6.out,v7.out,fun _=>rfl,v9.out,((((st.setCell _ _).setCell _ _).setCell _ _).setCell _ _).setCell _ _,hW⟩⟩
   · have h9:D 9=true:=hd ⟨9,.data⟩ (by cases ho;simp) rfl
     have h7:D 7=true:=hd ⟨7,.data⟩ (by cases ho;simp) rfl;obtain rfl:s=1:=by have:=of_decide_eq_true (e9.symm.trans h9);have:=of_decide_eq_false (e11.symm.trans hx);omega
     obtain rfl:q=2:=by have:=of_decide_eq_true (e7.symm.trans h7);omega
     obtain rfl:=v9 (Nat.le_refl _);obtain⟨rfl,hg⟩:=v7 (Nat.le_refl _);have HG:=hQ hg;clear hg;replace d0:=hQ d0
     replace d1:=hQ d1
     replace d4:=hQ d4
     replace d5:=hQ d5
     replace e2:=hQ e2
     replace e3:=hQ e3
     replace lp:=hQ lp
     replace e6:=hQ e6
     replace e7:=hQ e7
     replace lq:=hQ lq
     replace e8:=hQ e8
     replace e10:=hQ e10
     replace lr:=hQ lr
     replace e9:=hQ e9
     replace e11:=hQ e11
     replace ls:=hQ ls
     replace lrp:=hQ lrp
     replace lsq:=hQ lsq
     replace v2:=hQ v2
     replace v3:=hQ v3
     replace v6:=hQ v6
     replace v7:=hQ v7
     replace v8:=hQ v8
     replace v9:=hQ v9
     have own1:OwnL [pcA p b2 (.slice ai 4 4) tl,PgOwn tr,pcC r b8 tl,Pr.pts b9 (pageC 0 0 (.slice none 0 0) (.slice none 0 0) 0),Pr.pts (w.heap.size+1+1+1) (pageC 0 0 (.slice none 0 0) (.slice none 0 0) 0),Pr.pts (w.heap.size+1+1) (pageC 0 0 (.slice none 0 0) (.slice none 0 0) 0),Pr.pts (w.heap.size+1) (pageC 1 lv (.slice ai 8 ci) (.slice ad dat.length cd) nx),Pr.pts w.heap.size (pageC 1 lv (.slice ai 8 ci) (.slice ad dat.length cd) nx),Pr.own h,F] wx:=own
     obtain⟨ti,tc,td,te,e1,e4⟩:=told_sh2 (own1.pull1 (A1:=PgOwn tr));have c1:=own1.facts;simp only [CellsAt,Nat.reduceAdd,and_true] at c1;have OWN1:=hQ own1;have EE:=hQ (And.intro e1 e4);have hpv:tr.pv=pageV tr.g.kind tr.g.level (.slice ti tr.g.items.length tc) (.slice td tr.g.data.length te) tr.g.next:=by unfold ToldX.pv;rw [e1,e4]
     have HPV:=hQ hpv;rw [hpv];clear own own1 e1 e4 hpv;refine op_of_list rfl ?_;go_wp2;refine onN_mk ?_;have h7:=((((OWN1.out.set b9 0 (.int .i64 tr.g.kind)).set b9 1 (.int .i64 tr.g.level)).set b9 2 (.slice ti tr.g.items.length tc)).set b9 3 (.slice td tr.g.data.length te)).set b9 4 (.int .i64 tr.g.next)
     have hW:=h7.to (M:= [pcA p b2 (.slice ai 4 4) tl,PgOwn tr,pcC r b8 tl,Pr.pts b9 (pageC tr.g.kind tr.g.level (.slice ti tr.g.items.length tc) (.slice td tr.g.data.length te) tr.g.next),Pr.pts (w.heap.size+1+1+1) (pageC 0 0 (.slice none 0 0) (.slice none 0 0) 0),Pr.pts (w.heap.size+1+1) (pageC 0 0 (.slice none 0 0) (.slice none 0 0) 0),Pr.pts (w.heap.size+1) (pageC 1 lv (.slice ai 8 ci) (.slice ad dat.length cd) nx),Pr.pts w.heap.size (pageC 1 lv (.slice ai 8 ci) (.slice ad dat.length cd) nx),Pr.own h,F])
     have hpg:pageC tr.g.kind tr.g.level (.slice ti tr.g.items.length tc) (.slice td tr.g.data.length te) tr.g.next=pageC tr.g.kind tr.g.level tr.vi tr.vd tr.g.next:=by rw [EE.out.1,EE.out.2]
     rw [hpg] at hW
     exact⟨⟨p,2,r,2,b2,b6,b8,b9,tl,tr,u14,.pointer (some ⟨b9,0,none⟩),u25,u26,u27,u28,u29,u30,u31,tr.pv⟩,⟨(by rw [HPV.out]<;>rfl),d0.out,d1.out,d4.out,d5.out,e2.out,e3.out,lp.out,e6.out,e7.out,lq.out,e8.out,e10.out,lr.out,(by simpa using h9),rfl,Nat.le_refl _,lrp.out,fun _=>Nat.le_refl _,v2.out,v3.out,v6.out,fun _=>⟨rfl,HG.out⟩,v8.out,fun _=>rfl,((((st.setCell _ _).setCell _ _).setCell _ _).setCell _ _).setCell _ _,hW⟩⟩
   · simp at ho
 · intro D f wx hall hI
   obtain⟨⟨p,q,r,s,b2,b6,b8,b9,tl,tr,u14,u15,u25,u26,u27,u28,u29,u30,u31,u32⟩,ok⟩:=hI;obtain⟨rfl,d0,d1,d4,d5,e2,e3,lp,e6,e7,lq,e8,e10,lr,e9,e11,ls,lrp,lsq,v2,v3,v6,v7,v8,v9,st,own⟩:=ok;simp only at d0 d1 d4 d5 e2 e3 lp e6 e7 lq e8 e10 lr e9 e11 ls v2 v3 v6 v7 v8 v9 own;obtain rfl:p=2:=by have:=of_decide_eq_true (e3.symm.trans (hall 3 (by simp)));omega
   obtain rfl:q=2:=by have:=of_decide_eq_true (e7.symm.trans (hall 7 (by simp)));omega
   obtain rfl:r=2:=by have:=of_decide_eq_true (e10.symm.trans (hall 10 (by simp)));omega
   obtain rfl:s=2:=by have:=of_decide_eq_true (e11.symm.trans (hall 11 (by simp)));omega
   obtain rfl:=v8 (by omega);obtain rfl:=v9 (by omega);obtain⟨_,hgl⟩:=v3 (Nat.le_refl _);obtain⟨_,hgr⟩:=v7 (Nat.le_refl _);clear d0 d1 d4 d5 e2 e3 lp e6 e7 lq e8 e10 lr e9 e11 ls lrp lsq v2 v3 v6 v7 v8 v9 hall WL WR HS0 HST c1;obtain⟨vl,wl,yl,gl⟩:=tl;obtain⟨vr,wr,yr,gr⟩:=tr;simp only at hgl hgr;subst hgl hgr
   have own1:OwnL [PgOwn ⟨vl,wl,yl,⟨1,lv,its.take 4,dat,nx⟩⟩,PgOwn ⟨vr,wr,yr,⟨1,lv,its.drop 4,dat,nx⟩⟩,Pr.pts b8 (pageC 1 lv vl wl nx),Pr.pts b9 (pageC 1 lv vr wr nx),Pr.pts (w.heap.size+1+1+1) (pageC 0 0 (.slice none 0 0) (.slice none 0 0) 0),Pr.pts (w.heap.size+1+1) (pageC 0 0 (.slice none 0 0) (.slice none 0 0) 0),Pr.pts (w.heap.size+1) (pageC 1 lv (.slice ai 8 ci) (.slice ad dat.length cd) nx),Pr.pts w.heap.size (pageC 1 lv (.slice ai 8 ci) (.slice ad dat.length cd) nx),Pr.own h,F] wx:=own
   obtain⟨tla,tlc,tld,tle,e1,e2⟩:=told_sh2 (own1.pull1 (A1:=PgOwn ⟨vl,wl,yl,⟨1,lv,its.take 4,dat,nx⟩⟩));obtain⟨tra,trc,trd,tre,e3,e4⟩:=told_sh2 (own1.pull1 (A1:=PgOwn ⟨vr,wr,yr,⟨1,lv,its.drop 4,dat,nx⟩⟩));simp only at e1 e2 e3 e4;subst e1 e2 e3 e4;have hle:=own1.le (a:=h);have c1:=own1.facts;simp only [CellsAt,Nat.reduceAdd,and_true] at c1;have OWN:=hQ own1;clear own own1;go_wp2_with fail
   obtain⟨bx,ox,ak,ck,av,cv,rfl,hbk,hbv,hcell⟩:=HRD.out 3 (by omega);obtain⟨_,_,e0,_,hr2⟩:=items_rd HI.out.2.2;simp only [Value.slice.injEq] at e0;obtain⟨rfl,_,_⟩:=e0;obtain⟨bz,oz,ak2,ck2,av2,cv2,rfl,hbk2,hbv2,hcell2⟩:=hr2 0 (by rw [List.length_drop];omega);have q3:wx.cell? ⟨bx,ox+12,none⟩=some (.slice ak its[3].key.length ck):=(hcell wx hle).1
   have q4:wx.cell? ⟨bz,oz,none⟩=some (.slice ak2 ((its.drop 4)[0]'(by rw [List.length_drop];omega)).key.length ck2):=(hcell2 wx hle).1;have e34:(its.drop 4)[0]'(by rw [List.length_drop];omega)=its[4]:=by rw [List.getElem_drop]
   rw [e34] at hbk2 q4;have hA:itemAt its 3=its[3]:=itemAt_get (by omega);have hB:itemAt its 4=its[4]:=itemAt_get (by omega);rw [hA,hB] at hb;have m3:its[3]∈its:=List.getElem_mem _;have m4:its[4]∈its:=List.getElem_mem _;have BT:=hQ (between_any h _ _ _ _ hbk hbk2 (hu _ m3) (hu _ m4) (by have:=(fk _ m3).1;omega) (by have:=(fk _ m4).1;omega) _ _ (OWN.out.drew.pull1 (A1:=Pr.own h)))
   have hA':=hQ (congrArg ItemV.key hA);have hB':=hQ (congrArg ItemV.key hB);clear hcell hcell2 hbk hbk2 hbv hbv2 e34 m3 m4 hr2 HRD HI hA hB hle PA;generalize its[3].key=K3 at*;generalize its[4].key=K4 at*;refine wS 69 [0,1,2,3,4,5,6,7,8,9] [(10,[11,12,13,14,15],[0,1,2,3,4,6,7,8])] ?_;refine wpQ_all _ rfl rfl ?_;simp only [pick,pQ];iterate 10 (go_big_quiet_step (fail))
   refine wpQuiet_nil ?_;refine wpRest_act rfl ?_;go_wp2_with fail
   refine BT.out.mono ?_;rintro e w2 hb2;obtain⟨o,rfl,st2,hs2⟩:=hb2.1 hb;obtain⟨oa,oc,rfl⟩:=Row.shape hs2;have hs3:=OwnL.of2 hs2;have hl4:(its.take 4).length=4:=by rw [List.length_take];omega
   have hr4:(its.drop 4).length=4:=by rw [List.length_drop];omega
   clear c1;have c1:=hs3.facts;simp only [CellsAt,Nat.reduceAdd,and_true,hl4,hr4] at c1;have HS3:=hQ hs3;have HST3:=hQ (st.drew.trans st2);have HL:=hQ (And.intro hl4 hr4);clear hs2 hs3 st st2 hb2 hl4 hr4 BT q3 q4 OWN;go_wp2;refine onN_mk ?_;refine wpQ_all _ rfl rfl ?_;simp only [pick,pQ];iterate 5 (go_big_quiet_step (fail))
   refine wpQuiet_nil ⟨?_,?_⟩
   · exact cQ
   refine wpRest_nil ?_;go_wp2_with fail
   refine wS 69 [0,1,2] [(3,[],[1,2]),(4,[5,6],[2])] ?_;refine wpQ_all _ rfl rfl ?_;simp only [pick,pQ];iterate 3 (go_big_quiet_step (fail))
   refine wpQuiet_nil ?_;refine wpRest_act rfl ?_;go_wp2;refine onN_mk ?_;refine wpQ_nil ⟨?_,?_⟩
   · exact cQ
   refine wpRest_act rfl ?_;go_wp2;refine onN_mk ?_;refine wpQ_all _ rfl rfl ?_;simp only [pick,pQ];iterate 2 (go_big_quiet_step (fail))
   refine wpQuiet_nil ⟨?_,?_⟩
   · exact cQ
   refine wpRest_nil ?_;go_wp2;have h7:=HS3.out;simp only [HL.out.1,HL.out.2] at h7;have h8:=((((h7.set (w.heap.size+1+1) 0 (.int .i64 1)).set (w.heap.size+1+1) 1 (.int .i64 lv)).set (w.heap.size+1+1) 2 (.slice tla 4 tlc)).set (w.heap.size+1+1) 3 (.slice tld dat.length tle)).set (w.heap.size+1+1) 4 (.int .i64 nx)
   have h9:=((((h8.set (w.heap.size+1+1+1) 0 (.int .i64 1)).set (w.heap.size+1+1+1) 1 (.int .i64 lv)).set (w.heap.size+1+1+1) 2 (.slice tra 4 trc)).set (w.heap.size+1+1+1) 3 (.slice trd dat.length tre)).set (w.heap.size+1+1+1) 4 (.int .i64 nx);have h10:=h9.drew
   refine bodyPost_ret (results_row2 rfl _ _ (w.heap.size+1+1) (w.heap.size+1+1+1) _ _ _ _ rfl (run_loadVar_row _ (w.heap.size+1+1) _ _ _ _ _ (h10.pts (w.heap.size+1+1)).pts_heap Tryz.underlying74 rfl infoPage) rfl (run_loadVar_row _ (w.heap.size+1+1+1) _ _ _ _ _ (h10.pts (w.heap.size+1+1+1)).pts_heap Tryz.underlying74 rfl infoPage) rfl rfl) rfl ?_
   have hsep:sepG ⟨1,lv,its,dat,nx⟩=btwK K3 K4:=by
    unfold sepG;rw [if_neg (show ¬(1:Int)=2 by decide),hA'.out,hB'.out]
   refine⟨((((((((((HST3.out.setCell _ _).setCell _ _).setCell _ _).setCell _ _).setCell _ _).setCell _ _).setCell _ _).setCell _ _).setCell _ _).setCell _ _).drew,⟨.slice tla 4 tlc,.slice tld dat.length tle,yl,⟨1,lv,its.take 4,dat,nx⟩⟩,⟨.slice tra 4 trc,.slice trd dat.length tre,yr,⟨1,lv,its.drop 4,dat,nx⟩⟩,.slice oa (btwK K3 K4).length oc,rfl,rfl,rfl,?_⟩;rw [hsep];exact h10.to
end Go.Proofs.YtkfjilnmnbeokaaGreat.X6
