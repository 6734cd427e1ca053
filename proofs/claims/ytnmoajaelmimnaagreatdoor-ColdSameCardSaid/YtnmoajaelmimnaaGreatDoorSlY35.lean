/- Contracts; no condition but each theorem's own. -/
import Derived.Test.YtnmoajaelmimnaaGreatDoorSlY34
set_option linter.unusedVariables false
set_option linter.unusedSimpArgs false
set_option maxHeartbeats 8000000
set_option maxRecDepth 100000
namespace Go.Proofs.YtnmoajaelmimnaaGreatDoor
open Go.Proofs.Tryz
section
open Go.RowKit
structure LE(w0:World)(bl:List (Nat×List Value))(es:List (Value×List Ent))(rp:List (Value×Rep))(rs:List (Value×YX))(wr:World):Prop where
 f:Fr [] w0 wr
 v:Vars wr
 bl:∀p∈bl,Whole wr p.1 27 p.2
 es:∀p∈es,z1f wr wr.heap.size p.1 p.2
 rp:∀p∈rp,zg9 wr wr.heap.size p.1 p.2
 rs:∀p∈rs,Sl wr wr.heap.size 1 p.1 p.2.length (z03 p.2)
section
variable {w0 wr w1:World} {bl:List (Nat×List Value)} {es:List (Value×List Ent)} {rp:List (Value×Rep)} {rs:List (Value×YX)}
theorem LE.start{w:World}(hv:Vars w):LE w [] [] [] [] w:=
 ⟨Fr.refl _ _,hv,fun p hp=>by (cases hp),fun p hp=>by (cases hp),fun p hp=>by (cases hp),fun p hp=>by (cases hp)⟩
theorem LE.go(h:LE w0 bl es rp rs wr)(k:Fr [] wr w1):LE w0 bl es rp rs w1:=
 ⟨h.f.trans k,h.v.fr k,fun p hp=>(h.bl p hp).f0 k,fun p hp=>(h.es p hp).go k,fun p hp=>(h.rp p hp).go k,fun p hp=>((h.rs p hp).fr k (Xb _) (by simp)).more k.size⟩
theorem LE.alloc(h:LE w0 bl es rp rs wr)(o:Obj):LE w0 bl es rp rs (wr.alloc o):=h.go ((Fr.refl [] wr).alloc o)
theorem LE.ents{v:Value}{l:List Ent}(h:LE w0 bl es rp rs wr)(hv:z1f wr wr.heap.size v l):LE w0 bl ((v,l) :: es) rp rs wr:=
 ⟨h.f,h.v,h.bl,fun p hp=>by
  rcases Yh.1 hp with rfl|hp
  ·exact hv
  ·exact h.es p hp,h.rp,h.rs⟩
theorem LE.rep{v:Value}{r:Rep}(h:LE w0 bl es rp rs wr)(hv:zg9 wr wr.heap.size v r):LE w0 bl es ((v,r) :: rp) rs wr:=
 ⟨h.f,h.v,h.bl,h.es,fun p hp=>by
  rcases Yh.1 hp with rfl|hp
  ·exact hv
  ·exact h.rp p hp,h.rs⟩
theorem LE.row{v:Value}{l:YX}(h:LE w0 bl es rp rs wr)(hv:Sl wr wr.heap.size 1 v l.length (z03 l)):LE w0 bl es rp ((v,l) :: rs) wr:=
 ⟨h.f,h.v,h.bl,h.es,h.rp,fun p hp=>by
  rcases Yh.1 hp with rfl|hp
  ·exact hv
  ·exact h.rs p hp⟩
theorem LE.box(h:LE w0 bl es rp rs wr)(a b c d):LE w0 ((wr.heap.size,[a,b,c,d]) :: bl) es rp rs (wr.alloc (.cells #[a,b,c,d] 27)):=
 have k:=h.alloc (.cells #[a,b,c,d] 27)
 ⟨k.f,k.v,fun p hp=>by
  rcases Yh.1 hp with rfl|hp
  ·exact Whole.new wr _ [a,b,c,d]
  ·exact k.bl p hp,k.es,k.rp,k.rs⟩
theorem LE.lit1(h:LE w0 bl es rp rs wr)(a):LE w0 bl es rp ((.slice (some ⟨wr.heap.size,0,none⟩) 1 1,[a]) :: rs) (wr.alloc (.cells #[.string a] 9)):=
 (h.alloc _).row (z0l (World.ownsRow_lit (base:=wr.heap.size) (e:=9) (size:=1) wr #[.string a] 1 (Xb _) (by decide) rfl))
theorem LE.lit2(h:LE w0 bl es rp rs wr)(a b):LE w0 bl es rp ((.slice (some ⟨wr.heap.size,0,none⟩) 2 2,[a,b]) :: rs) (wr.alloc (.cells #[.string a,.string b] 9)):=
 (h.alloc _).row (z0l (World.ownsRow_lit (base:=wr.heap.size) (e:=9) (size:=1) wr #[.string a,.string b] 2 (Xb _) (by decide) rfl))
theorem LE.lit3(h:LE w0 bl es rp rs wr)(a b c):LE w0 bl es rp ((.slice (some ⟨wr.heap.size,0,none⟩) 3 3,[a,b,c]) :: rs) (wr.alloc (.cells #[.string a,.string b,.string c] 9)):=
 (h.alloc _).row (z0l (World.ownsRow_lit (base:=wr.heap.size) (e:=9) (size:=1) wr #[.string a,.string b,.string c] 3 (Xb _) (by decide) rfl))
theorem LE.lit4(h:LE w0 bl es rp rs wr)(a b c d):LE w0 bl es rp ((.slice (some ⟨wr.heap.size,0,none⟩) 4 4,[a,b,c,d]) :: rs) (wr.alloc (.cells #[.string a,.string b,.string c,.string d] 9)):=
 (h.alloc _).row (z0l (World.ownsRow_lit (base:=wr.heap.size) (e:=9) (size:=1) wr #[.string a,.string b,.string c,.string d] 4 (Xb _) (by decide) rfl))
end
theorem zou{s:List Ent}{now:Int}{l:YX}(ok:z22 s)(h0:0≤now∧now≤1000000)(hl:l.length≤281474976710656)(W)(sv)(A)(c:Nat)(hv:Vars W)(h:z1f W W.heap.size sv s)(hL:Sl W W.heap.size 1 (.slice A l.length c) l.length (z03 l)):
  Calls prog 6 #[sv,.int .i64 now,.slice A l.length c] W (DoQ (doR s now l).1 (doR s now l).2 0 W):=by
 have:=zu9 s sv now l A c W.heap.size W (z17 ok) (by have:=ok.le;omega) hl hv (Xb _) h hL;unfold doS doV at this;rw[q1i ok h0,Xf rfl,Xf rfl] at this;exact this
theorem zwj{s:List Ent}{now:Int}{l:YX}(ok:z22 s)(h0:0≤now∧now≤1000000):(doR s now l).2.list.length≤281474976710656∧∀x∈(doR s now l).2.list,x.sub=0:=by
 rcases zwi (ztv (l:=l) ok h0) with⟨_,_,h⟩|⟨_,_,_,h,a⟩
 ·rw[h];exact⟨by simp,fun x a=>by cases a⟩
 ·exact⟨by omega,fun x b=>(a x b).sub⟩
def ebA:YX:=[⟨#[73,78,67,82,66,89]⟩,⟨#[116]⟩,⟨#[51]⟩]
def ebB:YX:=[⟨#[108,112,111,112]⟩,⟨#[108]⟩]
def ebC:YX:=[⟨#[103,101,116]⟩,⟨#[108]⟩]
def ebD:YX:=[⟨#[116,116,108]⟩,⟨#[116]⟩]
theorem eb_a:(doR z1r 5 ebA).1=[⟨⟨#[108]⟩,zpr,0⟩,⟨⟨#[116]⟩,adY q6s 3,10⟩]:=by kernel_rfl
theorem q5x:(doR z1r 5 ebA).2=z0s 10:=by kernel_rfl
theorem eb_b:(doR z1r 5 ebB).1=[⟨⟨#[108]⟩,zho [⟨#[98]⟩,⟨#[97]⟩],0⟩,⟨⟨#[116]⟩,q6s,10⟩]:=by kernel_rfl
theorem eb_br:(doR z1r 5 ebB).2=z1s ⟨#[97]⟩:=by kernel_rfl
theorem q5y:(doR z1r 5 ebC).2=z8t 7:=by kernel_rfl
theorem eb_dr:(doR z1r 5 ebD).2=z0s 5:=by kernel_rfl
theorem eb_k1:z1x [⟨#[122,97,100,100]⟩,⟨#[107]⟩,⟨#[49]⟩,⟨#[109]⟩]=0:=by kernel_rfl
theorem eb_k2:z1x [⟨#[122,97,100,100]⟩,⟨#[107]⟩,⟨#[120]⟩,⟨#[109]⟩]=3:=by kernel_rfl
theorem eb_k3:z1x [⟨#[110,111]⟩]=5:=by kernel_rfl
theorem sb_ok:z22 z1r:=q4j zic
theorem zdy(w)(hv:Vars w):Calls prog 9 #[] w fun e w'=>e=.returned (.bool true)∧Fr [] w w':=by
 have S0:=hid (LE.start hv);have F:=hid (fun(l:YX) (hl:l.length≤4) W sv A c hv h hL=>zou (s:=z1r) (now:=5) (l:=l) sb_ok ⟨by decide,by decide⟩ (by omega) W sv A c hv h hL);have t:=hid (fun(l:YX) (hl:l.length≤4) W A c (hv:Vars W) h=>zav l A c W.heap.size W (by omega) hv (Xb _) h);unfold KnP at t;have R:=hid q5x;have EA:=hid (show(doR z1r 5 ebA).1.length=2∧(doR z1r 5 ebA).1[1]? = some ⟨⟨#[116]⟩,adY q6s 3,10⟩ from by rw[eb_a];exact⟨rfl,rfl⟩);have EB:=hid (show(doR z1r 5 ebB).1.length=2∧(doR z1r 5 ebB).1[0]? = some ⟨⟨#[108]⟩,zho [⟨#[98]⟩,⟨#[97]⟩],0⟩ from by rw[eb_b];exact⟨rfl,rfl⟩);have ka:((doR z1r 5 ebA).2.n==10)=true:=by rw[q5x];rfl
 have kb:((doR z1r 5 ebB).2.text.toList==[97])=true:=by rw[eb_br,ByteArray.toList_eq];rfl
 have kc:((doR z1r 5 ebC).2.kind==2)=true:=by rw[q5y];rfl
 have a9:((doR z1r 5 ebC).2.n==7)=true:=by rw[q5y];rfl
 have kd:((doR z1r 5 ebD).2.n==5)=true:=by rw[eb_dr];rfl
 have DA:=hid (fun W sv (b:Nat) (h:z1f W W.heap.size sv z1r) (hv:Vars W) (hL:Sl W W.heap.size 1 (.slice (some ⟨b,0,none⟩) 3 3) 3 (z03 ebA))=>(show Calls prog 6 #[sv,.int .i64 5,.slice (some ⟨b,0,none⟩) 3 3] W (DoQ (doR z1r 5 ebA).1 (doR z1r 5 ebA).2 0 W) from F.o ebA (by decide) W sv _ _ hv h hL));have DB:=hid (fun W sv (b:Nat) (h:z1f W W.heap.size sv z1r) (hv:Vars W) (hL:Sl W W.heap.size 1 (.slice (some ⟨b,0,none⟩) 2 2) 2 (z03 ebB))=>(show Calls prog 6 #[sv,.int .i64 5,.slice (some ⟨b,0,none⟩) 2 2] W (DoQ (doR z1r 5 ebB).1 (doR z1r 5 ebB).2 0 W) from F.o ebB (by decide) W sv _ _ hv h hL));have DC:=hid (fun W sv (b:Nat) (h:z1f W W.heap.size sv z1r) (hv:Vars W) (hL:Sl W W.heap.size 1 (.slice (some ⟨b,0,none⟩) 2 2) 2 (z03 ebC))=>(show Calls prog 6 #[sv,.int .i64 5,.slice (some ⟨b,0,none⟩) 2 2] W (DoQ (doR z1r 5 ebC).1 (doR z1r 5 ebC).2 0 W) from F.o ebC (by decide) W sv _ _ hv h hL));have DD:=hid (fun W sv (b:Nat) (h:z1f W W.heap.size sv z1r) (hv:Vars W) (hL:Sl W W.heap.size 1 (.slice (some ⟨b,0,none⟩) 2 2) 2 (z03 ebD))=>(show Calls prog 6 #[sv,.int .i64 5,.slice (some ⟨b,0,none⟩) 2 2] W (DoQ (doR z1r 5 ebD).1 (doR z1r 5 ebD).2 0 W) from F.o ebD (by decide) W sv _ _ hv h hL));generalize (doR z1r 5 ebA).1=ea at *;generalize (doR z1r 5 ebB).1=eb at *;generalize (doR z1r 5 ebC).1=ec at *;generalize (doR z1r 5 ebD).1=ed at *;generalize (doR z1r 5 ebA).2=J at *;generalize (doR z1r 5 ebB).2=K at *;generalize (doR z1r 5 ebC).2=I at *;generalize (doR z1r 5 ebD).2=p at *;clear F R;go_enter func9,ntmps9;go_wp2_with fail;refine(z7c _).mono ?_;rintro e w1 ⟨u1,rfl,Q,f1⟩;obtain⟨A1,c1,rfl⟩:=Q.form;have D:=hid (((S0.o.go f1).ents Q.v).lit3 ⟨#[73,78,67,82,66,89]⟩ ⟨#[116]⟩ ⟨#[51]⟩);clear Q f1 S0;have C1:=hid (DA.o (w1.alloc (.cells #[.string ⟨#[73,78,67,82,66,89]⟩,.string ⟨#[116]⟩,.string ⟨#[51]⟩] 9)) _ _ (D.o.es _ (.head _)) D.o.v (D.o.rs _ (.head _)));go_wp2_with fail;refine C1.o.mono ?_;rintro e w2 ⟨u2,v2,rfl,P,r2,f2⟩;obtain⟨PA,pA,rfl⟩:=P.form;obtain⟨R,tA,rfl⟩:=r2.form;have S2:=hid ((((D.o.go f2).ents P.v).rep r2.v).box (.int .i64 J.kind) (.string J.text) (.int .i64 J.n) (.slice R J.list.length tA));clear P r2 f2 D C1 DA;go_wp2_with fail;refine(z7c _).mono ?_;rintro e w3 ⟨u3,rfl,O,f3⟩;obtain⟨A3,c3,rfl⟩:=O.form;have y:=hid (((S2.o.go f3).ents O.v).lit2 ⟨#[108,112,111,112]⟩ ⟨#[108]⟩);clear O f3 S2;have C3:=hid (DB.o (w3.alloc (.cells #[.string ⟨#[108,112,111,112]⟩,.string ⟨#[108]⟩] 9)) _ _ (y.o.es _ (.head _)) y.o.v (y.o.rs _ (.head _)));go_wp2_with fail;refine C3.o.mono ?_;rintro e w4 ⟨u4,v4,rfl,o4,Y,f4⟩;obtain⟨PB,pB,rfl⟩:=o4.form;obtain⟨RB,tB,rfl⟩:=Y.form;have S4:=hid ((((y.o.go f4).ents o4.v).rep Y.v).box (.int .i64 K.kind) (.string K.text) (.int .i64 K.n) (.slice RB K.list.length tB));clear o4 Y f4 y C3 DB;go_wp2_with fail;refine(z7c _).mono ?_;rintro e w5 ⟨u5,rfl,N,f5⟩;obtain⟨A5,c5,rfl⟩:=N.form;have u:=hid (((S4.o.go f5).ents N.v).lit2 ⟨#[103,101,116]⟩ ⟨#[108]⟩);clear N f5 S4
 have C5:=hid (DC.o (w5.alloc (.cells #[.string ⟨#[103,101,116]⟩,.string ⟨#[108]⟩] 9)) _ _ (u.o.es _ (.head _)) u.o.v (u.o.rs _ (.head _)));go_wp2_with fail;refine C5.o.mono ?_;rintro e w6 ⟨u6,v6,rfl,T,M,f6⟩;obtain⟨PC,pC,rfl⟩:=T.form;obtain⟨RC,tC,rfl⟩:=M.form;have S6:=hid ((((u.o.go f6).ents T.v).rep M.v).box (.int .i64 I.kind) (.string I.text) (.int .i64 I.n) (.slice RC I.list.length tC));clear T M f6 u C5 DC;go_wp2_with fail;refine(z7c _).mono ?_;rintro e w7 ⟨u7,rfl,V,f7⟩;obtain⟨A7,c7,rfl⟩:=V.form;have G:=hid (((S6.o.go f7).ents V.v).lit2 ⟨#[116,116,108]⟩ ⟨#[116]⟩);clear V f7 S6;have C7:=hid (DD.o (w7.alloc (.cells #[.string ⟨#[116,116,108]⟩,.string ⟨#[116]⟩] 9)) _ _ (G.o.es _ (.head _)) G.o.v (G.o.rs _ (.head _)));go_wp2_with fail;refine C7.o.mono ?_;rintro e X ⟨u8,v8,rfl,o8,r8,f8⟩;obtain⟨PD,pD,rfl⟩:=o8.form;obtain⟨U,tD,rfl⟩:=r8.form;have S8:=hid ((((G.o.go f8).ents o8.v).rep r8.v).box (.int .i64 p.kind) (.string p.text) (.int .i64 p.n) (.slice U p.list.length tD));clear o8 r8 f8 G C7 DD;have L:=hid (S8.o.lit4 ⟨#[122,97,100,100]⟩ ⟨#[107]⟩ ⟨#[49]⟩ ⟨#[109]⟩);have K9:=hid (show Calls prog 10 #[.slice (some ⟨X.heap.size+1,0,none⟩) 4 4] ((X.alloc (.cells (yRa p U tD) 27)).alloc (.cells #[.string ⟨#[122,97,100,100]⟩,.string ⟨#[107]⟩,.string ⟨#[49]⟩,.string ⟨#[109]⟩] 9)) (fun e w'=>e=.returned (.int .i64 0)∧Fr [] ((X.alloc (.cells (yRa p U tD) 27)).alloc (.cells #[.string ⟨#[122,97,100,100]⟩,.string ⟨#[107]⟩,.string ⟨#[49]⟩,.string ⟨#[109]⟩] 9)) w') from by have:=t.o [⟨#[122,97,100,100]⟩,⟨#[107]⟩,⟨#[49]⟩,⟨#[109]⟩] (by decide) _ _ _ L.o.v (L.o.rs _ (.head _));rw[eb_k1] at this;simpa using this);go_wp2_with fail;refine K9.o.mono ?_;rintro e S ⟨rfl,f9⟩;have S9:=hid (L.o.go f9);clear f9 S8 L K9;have g:=hid (S9.o.lit4 ⟨#[122,97,100,100]⟩ ⟨#[107]⟩ ⟨#[120]⟩ ⟨#[109]⟩);have C:=hid (show Calls prog 10 #[.slice (some ⟨S.heap.size,0,none⟩) 4 4] ((S).alloc (.cells #[.string ⟨#[122,97,100,100]⟩,.string ⟨#[107]⟩,.string ⟨#[120]⟩,.string ⟨#[109]⟩] 9)) (fun e w'=>e=.returned (.int .i64 3)∧Fr [] ((S).alloc (.cells #[.string ⟨#[122,97,100,100]⟩,.string ⟨#[107]⟩,.string ⟨#[120]⟩,.string ⟨#[109]⟩] 9)) w') from by have:=t.o [⟨#[122,97,100,100]⟩,⟨#[107]⟩,⟨#[120]⟩,⟨#[109]⟩] (by decide) _ _ _ g.o.v (g.o.rs _ (.head _));rw[eb_k2] at this;exact this);go_wp2_with fail;refine C.o.mono ?_;rintro e m ⟨rfl,E⟩;have z:=hid (g.o.go E);clear E S9 g C;have d:=hid (z.o.lit1 ⟨#[110,111]⟩);have B:=hid (show Calls prog 10 #[.slice (some ⟨m.heap.size,0,none⟩) 1 1] ((m).alloc (.cells #[.string ⟨#[110,111]⟩] 9)) (fun e w'=>e=.returned (.int .i64 5)∧Fr [] ((m).alloc (.cells #[.string ⟨#[110,111]⟩] 9)) w') from by have:=t.o [⟨#[110,111]⟩] (by decide) _ _ _ d.o.v (d.o.rs _ (.head _));rw[eb_k3] at this;exact this);go_wp2_with fail;refine B.o.mono ?_;rintro e a7 ⟨rfl,r⟩;have a:=hid (d.o.go r);clear r z d B;clear t;have la:(1:Int) < (ea.length:Int):=by have:=EA.o.1;omega
 have lb:(0:Int) < (eb.length:Int):=by have:=EB.o.1;omega
 obtain⟨ba,oa,rfl,aa,a5,Z,k⟩:=(a.o.es _ (.tail _ (.tail _ (.tail _ (.tail _ (.tail _ (.tail _ (.head _)))))))).at_ (by omega);obtain⟨bb,ob,rfl,a6,a8,a4,j⟩:=(a.o.es _ (.tail _ (.tail _ (.tail _ (.tail _ (.head _)))))).at_ (by omega);obtain⟨X1,X2,X3,x1,x2,x3,x⟩:=k 1 _ EA.o.2;obtain⟨Y1,Y2,Y3,y1,y2,y3,H⟩:=j 0 _ EB.o.2;have ga:=x.k6;have gb:=H.k3;clear x H k j;obtain⟨a0,a1,a2,a3⟩:=four (a.o.bl _ (.tail _ (.tail _ (.tail _ (.head _)))));obtain⟨b0,b1,b2,b3⟩:=four (a.o.bl _ (.tail _ (.tail _ (.head _))));obtain⟨c0,c1,c2,c3⟩:=four (a.o.bl _ (.tail _ (.head _)));obtain⟨d0,d1,d2,d3⟩:=four (a.o.bl _ (.head _));unfold maxLen at Z a4;go_wp2;go_ret;exact⟨rfl,a.o.f⟩
theorem zj7(s)(v)(now:Int)(key:YY)(n:Int)(l:YX)(LA)(lc:Nat)(w)(h:z5p w w.heap.size v s)(hs:s.Small)(hl:l.length≤281474976710656)(hL:Sl w w.heap.size 1 (.slice LA l.length lc) l.length (z03 l))(hv:Vars w):
  Calls prog 5 #[v,.int .i64 now,.string key,.int .i64 n,.slice LA l.length lc] w fun e w'=>e=.returned (.bool true)∧Fr [] w w':=by
 obtain⟨V,U,X,T,rfl⟩:=h.form;have S0:=hid ((((LC.start hv).row hL).sto h).box [.slice V s.slots.length U,.slice X s.segs.length T] 42);have a1:=hid hs;have a0:=hid hl;have VS:=hid (fun W v (h:z5p W W.heap.size v s)=>zy5 s v W hs h);have CO:=hid (fun W v (h:z5p W W.heap.size v s)=>q5f s v key W hs h);have WA:=hid (fun W v (h:z5p W W.heap.size v s)=>q5h s v key W hs h);have GA:=hid (fun W v (h:z5p W W.heap.size v s)=>q5g s v n W hs h);clear h hs hv hL hl;go_enter func5,ntmps5;have C1:=hid (zh9 _ S0.o.v);go_wp2_with fail;refine C1.o.mono ?_;rintro e w1 ⟨rfl,f1⟩;have S1:=hid (S0.o.go f1);clear f1 S0 C1;have C2:=hid (zdy _ S1.o.v);go_wp2_with fail;refine C2.o.mono ?_;rintro e w2 ⟨rfl,f2⟩;have S2:=hid (S1.o.go f2);clear f2 S1 C2;have g:=z6a (S2.o.bl _ (.head _));have G:=g.1;have H:=g.2;clear g;have C3:=hid (VS.o _ _ (S2.o.st _ (.head _)));go_wp2_with fail;refine C3.o.mono ?_;rintro e w3 ⟨A3,n3,rfl,o3,f3⟩;have L:=hid ((S2.o.go f3).ents o3);clear o3 f3 S2 C3 G H VS;by_cases m:z0q s=0
 rotate_left
 ·have q1:(z0q s != 0)=true:=by simpa using m
  generalize z0q s=sc at *;generalize zg7 s=ve at *;clear m;go_wp2;go_ret;exact⟨rfl,L.o.f⟩
 by_cases h1:now < 0
 ·have q1:(z0q s != 0)=false:=by simpa using m
  generalize z0q s=sc at *;generalize zg7 s=ve at *;clear m;go_wp2;go_ret;exact⟨rfl,L.o.f⟩
 by_cases h2:1000000 < now
 ·have q1:(z0q s != 0)=false:=by simpa using m
  generalize z0q s=sc at *;generalize zg7 s=ve at *;clear m;go_wp2;go_ret;exact⟨rfl,L.o.f⟩
 have VY:zg7 s=z0y s:=by unfold zg7;rw[Xf m]
 have h0:0≤now∧now≤1000000:=by omega
 have ok:=hid (q4v (zsg m));have B:=hid (ztu (l:=l) ok.o h0);have UA:=hid (q15 m key);have UB:=hid (q19 m key);have UC:=hid (q18 m n);have US:=hid (show UnO s s 0 from⟨a1.o,fun _=>⟨m,rfl⟩⟩);have ED:=hid (fun W sv (h:z1f W W.heap.size sv (z0y s)) (hv:Vars W) (hL:Sl W W.heap.size 1 (.slice LA l.length lc) l.length (z03 l))=>zou ok.o h0 a0.o W sv LA lc hv h hL)
 have CD:=hid (fun(t:Sto) W v (hu:UnO s t 0) (hv:Vars W) (h:z5p W W.heap.size v t) (hL:Sl W W.heap.size 1 (.slice LA l.length lc) l.length (z03 l))=>(show Calls prog 26 #[v,.int .i64 now,.slice LA l.length lc] W (DcP (z8i t (doR (z0y s) now l).1) (doR (z0y s) now l).2 0 W) from by
  obtain⟨e1,e2⟩:=hu.2 rfl
  have:=zj6 t v (.slice LA l.length lc) now l W _ (zsg e1) h0 (by rw[e2];exact B.o) (Xb _) h (fun W2 sv f2 a2=>by
   rw[e2] at a2 ⊢;exact zgg (z0y s) sv now l LA lc W2.heap.size W2 ok.o h0 a0.o (hv.fr f2) (Xb _) a2 ((hL.fr f2 (Xb _) (by simp)).more f2.size))
  rw[e2] at this;exact this))
 have BV:=hid (fun(t:Sto) W v (hu:UnO s t 0) (h:z5p W W.heap.size v (z8i t (doR (z0y s) now l).1))=>(show Calls prog 14 #[v] W (VvP (doR (z0y s) now l).1 0 W) from by
  have hb:=q1c (zsg (hu.2 rfl).1) B.o;have:=zy5 _ v W (z1k hb) h;unfold zg7 at this;rw[z69 hb,Xf rfl,zxx] at this;exact this))
 have SR:=hid (fun W v u (h:zg9 W W.heap.size v (doR (z0y s) now l).2) (k:zg9 W W.heap.size u (doR (z0y s) now l).2)=>q0s _ v u W _ (zwj ok.o h0).1 (zwj ok.o h0).2 (Xb _) h k);have SP:=hid (fun W v u (h:z1f W W.heap.size v (doR (z0y s) now l).1) (k:z1f W W.heap.size u (doR (z0y s) now l).1)=>zbf _ v u W _ (zwy B.o) (by have:=B.o.le;omega) (Xb _) h k);clear ok B a1 a0 h0;generalize (doR (z0y s) now l).1=x at *;generalize (doR (z0y s) now l).2=r at *;generalize (z4e s key).1=d at *;generalize (z4e s key).2=ca at *;generalize (z4m s key).1=j at *;generalize (z4m s key).2=cb at *;generalize (z8j s n).1=b at *;generalize (z8j s n).2.1=kc at *;generalize (z8j s n).2.2=Z at *;generalize z0q s=sc at *;subst m;generalize zg7 s=ve at *;subst VY;generalize z0y s=vs at *;have C3:=hid (ED.o _ _ (L.o.es _ (.head _)) L.o.v (L.o.rs _ (.head _)));go_wp2_with fail;refine C3.o.mono ?_;rintro e wa ⟨ua,va,rfl,oa,ra,fa⟩;obtain⟨PA,pa,rfl⟩:=oa.form;obtain⟨RA,ae,rfl⟩:=ra.form;have Sa:=hid (((L.o.go fa).ents oa.v).box (yRl r RA ae) 27);have a6:=hid (ra.v.go ((Fr.refl [] _).alloc (.cells (yRa r RA ae) 27)));clear oa ra fa L C3 ED;have g:=z6a (Sa.o.bl _ (.tail _ (.head _)));have G:=g.1;have H:=g.2;clear g;have C4:=hid (CO.o _ _ (Sa.o.st _ (.head _)));go_wp2_with fail;refine C4.o.mono ?_;rintro e w4 ⟨Q,M,S,N,rfl,o4,f4⟩;have S4:=hid (((Sa.o.go f4).sto o4).box [.slice Q d.slots.length M,.slice S d.segs.length N] 42);have ac:=hid (a6.o.go (f4.alloc (.cells #[.slice Q d.slots.length M,.slice S d.segs.length N] 42)));clear o4 f4 Sa a6 C4 G H CO;have g:=z6a (S4.o.bl _ (.tail _ (.tail _ (.head _))));have G:=g.1;have H:=g.2;clear g;have C5:=hid (WA.o _ _ (S4.o.st _ (.tail _ (.head _))));go_wp2_with fail;refine C5.o.mono ?_;rintro e w5 ⟨K,I,O,P,rfl,o5,f5⟩;have S5:=hid (((S4.o.go f5).sto o5).box [.slice K j.slots.length I,.slice O j.segs.length P] 42);have af:=hid (ac.o.go (f5.alloc (.cells #[.slice K j.slots.length I,.slice O j.segs.length P] 42)));clear o5 f5 S4 ac C5 G H WA;have g:=z6a (S5.o.bl _ (.tail _ (.tail _ (.tail _ (.head _)))));have G:=g.1;have H:=g.2;clear g;have C6:=hid (GA.o _ _ (S5.o.st _ (.tail _ (.tail _ (.head _)))));go_wp2_with fail;refine C6.o.mono ?_;rintro e J ⟨C,D,A,p,rfl,o6,f6⟩;have S6:=hid (((S5.o.go f6).sto o6).box [.slice C b.slots.length D,.slice A b.segs.length p] 42);have ag:=hid (af.o.go (f6.alloc (.cells #[.slice C b.slots.length D,.slice A b.segs.length p] 42)));clear o6 f6 S5 af C6 G H GA;have gs:=z6a (S6.o.bl _ (.tail _ (.tail _ (.tail _ (.tail _ (.head _))))));have ga:=z6a (S6.o.bl _ (.tail _ (.tail _ (.head _))));have gb:=z6a (S6.o.bl _ (.tail _ (.head _)));have gc:=z6a (S6.o.bl _ (.head _));have au:=gs.1;have al:=gs.2;have aq:=ga.1;have av:=ga.2;have ah:=gb.1;have ao:=gb.2;have an:=gc.1;have ap:=gc.2;clear gs ga gb gc
 have S7:=hid ((S6.o.box [.slice V s.slots.length U,.slice X s.segs.length T,.slice Q d.slots.length M,.slice S d.segs.length N,.slice K j.slots.length I,.slice O j.segs.length P,.slice C b.slots.length D,.slice A b.segs.length p] 42).box [.int .i64 0,.int .i64 ca,.int .i64 cb,.int .i64 Z] 28);have ar:=hid (ag.o.go (((Fr.refl [] _).alloc (.cells #[.slice V s.slots.length U,.slice X s.segs.length T,.slice Q d.slots.length M,.slice S d.segs.length N,.slice K j.slots.length I,.slice O j.segs.length P,.slice C b.slots.length D,.slice A b.segs.length p] 42)).alloc (.cells #[.int .i64 0,.int .i64 ca,.int .i64 cb,.int .i64 Z] 28)));clear ag
 have BA:=hid (show Whole (((J.alloc (.cells #[.slice C b.slots.length D,.slice A b.segs.length p] 42)).alloc (.cells #[.slice V s.slots.length U,.slice X s.segs.length T,.slice Q d.slots.length M,.slice S d.segs.length N,.slice K j.slots.length I,.slice O j.segs.length P,.slice C b.slots.length D,.slice A b.segs.length p] 42)).alloc (.cells #[.int .i64 0,.int .i64 ca,.int .i64 cb,.int .i64 Z] 28)) (J.heap.size+1) 42 [.slice V s.slots.length U,.slice X s.segs.length T,.slice Q d.slots.length M,.slice S d.segs.length N,.slice K j.slots.length I,.slice O j.segs.length P,.slice C b.slots.length D,.slice A b.segs.length p] from by
  have:=S7.o.bl _ (.tail _ (.head _));simpa using this)
 have BE:=hid (show Whole (((J.alloc (.cells #[.slice C b.slots.length D,.slice A b.segs.length p] 42)).alloc (.cells #[.slice V s.slots.length U,.slice X s.segs.length T,.slice Q d.slots.length M,.slice S d.segs.length N,.slice K j.slots.length I,.slice O j.segs.length P,.slice C b.slots.length D,.slice A b.segs.length p] 42)).alloc (.cells #[.int .i64 0,.int .i64 ca,.int .i64 cb,.int .i64 Z] 28)) (J.heap.size+1+1) 28 [.int .i64 0,.int .i64 ca,.int .i64 cb,.int .i64 Z] from by
  have:=S7.o.bl _ (.head _);simpa using this)
 go_wp2;go_loopg [24] 4 (fun g i wr=>∃(k:Nat),g=4 - k∧k≤4∧i=.int .i64 k∧Fr [] (((J.alloc (.cells #[.slice C b.slots.length D,.slice A b.segs.length p] 42)).alloc (.cells #[.slice V s.slots.length U,.slice X s.segs.length T,.slice Q d.slots.length M,.slice S d.segs.length N,.slice K j.slots.length I,.slice O j.segs.length P,.slice C b.slots.length D,.slice A b.segs.length p] 42)).alloc (.cells #[.int .i64 0,.int .i64 ca,.int .i64 cb,.int .i64 Z] 28)) wr)
 case atStart=>exact⟨0,rfl,by omega,rfl,Fr.refl _ _⟩
 case round=>
  obtain⟨k,rfl,m,rfl,hf⟩:=hrel;have R:=hid (S7.o.go hf);have HF:=hid hf;clear au al aq av ah ao an ap;by_cases hlt:k < 4
  ·obtain⟨y,z,t,c,ky,kz,ay,hu,a7⟩:∃(y z:Value) (t:Sto) (c:Int),wr.cell? ⟨J.heap.size+1,k * 2,none⟩=some y∧wr.cell? ⟨J.heap.size+1,k * 2+1,none⟩=some z∧wr.cell? ⟨J.heap.size+1+1,k,none⟩=some (.int .i64 c)∧UnO s t c∧z5p wr wr.heap.size (.agg #[y,z]) t:=by
    have a:=BA.o.fr hf (by simp);have e:=BE.o.fr hf (by simp);rcases k with _|_|_|_|k
    ·exact⟨_,_,s,0,a.cell 0,a.cell 1,e.cell 0,US.o,R.o.st _ (.tail _ (.tail _ (.tail _ (.head _))))⟩
    ·exact⟨_,_,d,ca,a.cell 2,a.cell 3,e.cell 1,UA.o,R.o.st _ (.tail _ (.tail _ (.head _)))⟩
    ·exact⟨_,_,j,cb,a.cell 4,a.cell 5,e.cell 2,UB.o,R.o.st _ (.tail _ (.head _))⟩
    ·exact⟨_,_,b,Z,a.cell 6,a.cell 7,e.cell 3,UC.o,R.o.st _ (.head _)⟩
    ·omega
   have HU:=hid hu;have aj:=hid a7;clear hf hu a7;by_cases hc0:c=0
   ·subst hc0;have C9:=hid (CD.o t _ _ HU.o R.o.v aj.o (R.o.rs _ (.head _)));have am:=hid (fun W v h=>BV.o t W v HU.o h);generalize z8i t x=bt at *;clear CD BV;go_wp2_with fail;refine C9.o.mono ?_;rintro e w9 ⟨u9,v9,rfl,o9,q9,f9⟩;obtain⟨A9,n9,R9,r9,rfl⟩:=o9.v.form;obtain⟨X9,x9,rfl⟩:=q9.form;have S9:=hid ((((R.o.go f9).sto o9.v).box [.slice A9 bt.slots.length n9,.slice R9 bt.segs.length r9] 42).box (yRl r X9 x9) 27);have F9:=hid ((f9.alloc (.cells #[.slice A9 bt.slots.length n9,.slice R9 bt.segs.length r9] 42)).alloc (.cells (yRa r X9 x9) 27));have Q9:=hid (q9.v.go (((Fr.refl [] _).alloc (.cells #[.slice A9 bt.slots.length n9,.slice R9 bt.segs.length r9] 42)).alloc (.cells (yRa r X9 x9) 27)));clear o9 q9 f9 C9 ky kz ay;have g:=z6a (S9.o.bl _ (.tail _ (.head _)));have G:=g.1;have H:=g.2;clear g;have aa:=hid (am.o _ _ (S9.o.st _ (.head _)));go_wp2_with fail;refine aa.o.mono ?_;rintro e aw ⟨az,b0,rfl,a8,F⟩;have E:=hid ((S9.o.go F).ents a8);have ad:=hid (F9.o.trans F);have ak:=hid (Q9.o.go F);clear a8 F aa G H F9 Q9;have a5:=hid (ar.o.go (HF.o.trans ad.o))
    have rb:Whole aw (w9.heap.size+1) 27 (yRl r X9 x9):=by
     have:=E.o.bl _ (.head _);simpa using this
    obtain⟨y0,y1,y2,y3⟩:=four rb;obtain⟨z0,z1,z2,z3⟩:=four (E.o.bl _ (.tail _ (.tail _ (.tail _ (.tail _ (.tail _ (.tail _ (.tail _ (.head _)))))))));clear rb S9;have ab:=hid (SR.o _ _ _ a5.o ak.o);go_wp2_with fail;refine ab.o.mono ?_;rintro e b1 ⟨rfl,Y⟩;have a9:=hid (E.o.go Y);have ai:=hid (ad.o.trans Y);clear Y ab y0 y1 y2 y3 z0 z1 z2 z3 E;have a4:=hid (SP.o _ _ _ (a9.o.es _ (.tail _ (.head _))) (a9.o.es _ (.head _)));go_wp2_with fail;refine a4.o.mono ?_;rintro e b2 ⟨rfl,a3⟩;have ax:=hid (ai.o.trans a3);clear a3 a4;go_wp2;go_roundg (4 - (k+1))
    case measure=>omega
    case rel=>exact⟨k+1,rfl,by omega,by go_num,HF.o.trans ax.o⟩
   ·have q1:(c != 0)=true:=by simpa using hc0
    clear hc0 ky kz;go_wp2;go_roundg (4 - (k+1))
    case measure=>omega
    case rel=>exact⟨k+1,rfl,by omega,by go_num,HF.o⟩
  ·obtain rfl:k=4:=by omega
   go_wp2;go_ret;exact⟨rfl,R.o.f⟩
end
end Go.Proofs.YtnmoajaelmimnaaGreatDoor
