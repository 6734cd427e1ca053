/- Contracts; no condition but each theorem's own. -/
import Derived.Test.YtnmoajaelmimnaaGreatDoorSlY27
set_option linter.unusedVariables false
set_option linter.unusedSimpArgs false
set_option maxHeartbeats 8000000
set_option maxRecDepth 100000
namespace Go.Proofs.YtnmoajaelmimnaaGreatDoor
open Go.Proofs.Tryz
section
open Go.RowKit
theorem zs8:(∀(g B0:Nat) (sv) (now:Int) (lv) (l) (s) (pp:List Ent×Rep) (t) (ht:t=⟨#[108,112,117,115,104]⟩∨t=⟨#[114,112,117,115,104]⟩∨t=⟨#[108,112,111,112]⟩∨t=⟨#[114,112,111,112]⟩∨t=⟨#[108,114,97,110,103,101]⟩∨t=⟨#[108,116,114,105,109]⟩∨t=⟨#[108,114,101,109]⟩) (w) (hg:zbp pp.2) (h:Dr g B0 sv now lv l s w) (K:∀W,Fr [] w W→Dr g B0 sv now lv l s W→Calls prog 155 #[.pointer (some ⟨g,0,none⟩),.string t] W (ChD g B0 B0 sv now lv l pp W)),Calls prog 99 #[.pointer (some ⟨g,0,none⟩),.string t] w (ChD g B0 B0 sv now lv l pp w))∧(∀(g B0:Nat) (sv) (now:Int) (lv) (l) (s) (pp:List Ent×Rep) (t) (ht:t=⟨#[115,97,100,100]⟩∨t=⟨#[115,114,101,109]⟩∨t=⟨#[115,105,115,109,101,109,98,101,114]⟩∨t=⟨#[115,109,101,109,98,101,114,115]⟩∨t=⟨#[115,105,110,116,101,114]⟩∨t=⟨#[115,117,110,105,111,110]⟩∨t=⟨#[115,100,105,102,102]⟩) (w) (hg:zbp pp.2) (h:Dr g B0 sv now lv l s w) (K:∀W,Fr [] w W→Dr g B0 sv now lv l s W→Calls prog 156 #[.pointer (some ⟨g,0,none⟩),.string t] W (ChD g B0 B0 sv now lv l pp W)),Calls prog 99 #[.pointer (some ⟨g,0,none⟩),.string t] w (ChD g B0 B0 sv now lv l pp w))∧(∀(g B0:Nat) (sv) (now:Int) (lv) (l) (s) (pp:List Ent×Rep) (t) (ht:t=⟨#[100,101,108]⟩∨t=⟨#[101,120,105,115,116,115]⟩∨t=⟨#[116,121,112,101]⟩∨t=⟨#[107,101,121,115]⟩∨t=⟨#[101,120,112,105,114,101]⟩∨t=⟨#[116,116,108]⟩∨t=⟨#[112,101,114,115,105,115,116]⟩) (w) (hg:zbp pp.2) (h:Dr g B0 sv now lv l s w) (K:∀W,Fr [] w W→Dr g B0 sv now lv l s W→Calls prog 154 #[.pointer (some ⟨g,0,none⟩),.string t] W (ChD g B0 B0 sv now lv l pp W)),Calls prog 99 #[.pointer (some ⟨g,0,none⟩),.string t] w (ChD g B0 B0 sv now lv l pp w))∧(∀(g B0:Nat) (sv) (now:Int) (lv) (l) (s) (pp:List Ent×Rep) (t) (ht:t=⟨#[103,101,116]⟩∨t=⟨#[115,101,116]⟩∨t=⟨#[97,112,112,101,110,100]⟩∨t=⟨#[115,116,114,108,101,110]⟩∨t=⟨#[105,110,99,114,98,121]⟩∨t=⟨#[103,101,116,114,97,110,103,101]⟩) (w) (hg:zbp pp.2) (h:Dr g B0 sv now lv l s w) (K:∀W,Fr [] w W→Dr g B0 sv now lv l s W→Calls prog 153 #[.pointer (some ⟨g,0,none⟩),.string t] W (ChD g B0 B0 sv now lv l pp W)),Calls prog 99 #[.pointer (some ⟨g,0,none⟩),.string t] w (ChD g B0 B0 sv now lv l pp w))∧(∀(g B0:Nat) (sv) (now:Int) (lv) (l) (s) (pp:List Ent×Rep) (t) (ht:t=⟨#[122,97,100,100]⟩∨t=⟨#[122,114,101,109]⟩∨t=⟨#[122,115,99,111,114,101]⟩∨t=⟨#[122,114,97,110,107]⟩∨t=⟨#[122,114,97,110,103,101]⟩∨t=⟨#[122,114,97,110,103,101,98,121,115,99,111,114,101]⟩) (w) (hg:zbp pp.2) (h:Dr g B0 sv now lv l s w) (K:∀W,Fr [] w W→Dr g B0 sv now lv l s W→Calls prog 158 #[.pointer (some ⟨g,0,none⟩),.string t] W (ChD g B0 B0 sv now lv l pp W)),Calls prog 99 #[.pointer (some ⟨g,0,none⟩),.string t] w (ChD g B0 B0 sv now lv l pp w))∧(∀(g B0:Nat) (sv) (now:Int) (lv) (l) (s) (pp:List Ent×Rep) (t) (ht:t=⟨#[104,115,101,116]⟩∨t=⟨#[104,103,101,116]⟩∨t=⟨#[104,100,101,108]⟩∨t=⟨#[104,103,101,116,97,108,108]⟩) (w) (hg:zbp pp.2) (h:Dr g B0 sv now lv l s w) (K:∀W,Fr [] w W→Dr g B0 sv now lv l s W→Calls prog 157 #[.pointer (some ⟨g,0,none⟩),.string t] W (ChD g B0 B0 sv now lv l pp W)),Calls prog 99 #[.pointer (some ⟨g,0,none⟩),.string t] w (ChD g B0 B0 sv now lv l pp w)):=by
 refine⟨?_,?_,?_,?_,?_,?_⟩;have r:=hid trivial
 rotate_left
 have H:=hid trivial
 rotate_left
 have G:=hid trivial
 rotate_left
 have d:=hid trivial
 rotate_left
 have j:=hid trivial
 rotate_left
 have b:=hid trivial
 all_goals
  intro g B0 sv now lv l s pp t ht w hg h K;have e:=hid ((Fr.refl [] w).alloc (.cells yRza 27));have M:=hid (Whole.new w 27 yRzl);have x:=hid (K _ e.o (h.go e.o));have B:=hid (show w.heap.size∉g :: z1w sv from fun F=>by have:=(h.low _ F).2;omega);have f:=h.bz;have z:=hid hg;clear K h hg
  first
  | (guard_hyp b
     rcases ht with rfl|rfl|rfl|rfl)
  | (skip
     (first|guard_hyp d|guard_hyp j)
     rcases ht with rfl|rfl|rfl|rfl|rfl|rfl)
  | (rcases ht with rfl|rfl|rfl|rfl|rfl|rfl|rfl)
  all_goals
   go_enter func99,ntmps99;go_wp2_with fail;refine x.o.mono ?_;rintro T N ⟨u,rfl,n,m,p⟩;have a:=hid (M.o.fr m B.o);have C:=hid (e.o.up.trans m);have D:=hid n;have L:=hid p;obtain⟨R,I,rfl⟩:=n.form;clear n m p;obtain⟨E,y,J,A⟩:=four a.o;obtain⟨S,P,O,Q⟩:=z1p a.o;go_wp2;refine Xg (v:=.agg (yRa pp.2 R I)) (by simp[results,results99,go_sem,E,y,J,A]) rfl ?_;exact⟨_,rfl,z4w D.o z.o a.o _ _ _ _,z2d C.o (Xb _) _ _ _ _,fun h=>(L.o h).imp fun _ k=>k.set4W a.o f _ _ _ _⟩
abbrev z45:=@And.left _ _ zs8
abbrev z66:=@And.left _ _ (@And.right _ _ zs8)
abbrev z65:=@And.left _ _ (@And.right _ _ (@And.right _ _ zs8))
abbrev z5t:=@And.left _ _ (@And.right _ _ (@And.right _ _ (@And.right _ _ zs8)))
abbrev z4y:=@And.left _ _ (@And.right _ _ (@And.right _ _ (@And.right _ _ (@And.right _ _ zs8))))
abbrev z86:=@And.right _ _ (@And.right _ _ (@And.right _ _ (@And.right _ _ (@And.right _ _ zs8))))
theorem q2t(g B0:Nat)(sv)(now:Int)(lv)(l)(s)(c0:YY)(w)(h:Dr g B0 sv now lv l s w):
  Calls prog 99 #[.pointer (some ⟨g,0,none⟩),.string ⟨#[112,105,110,103]⟩] w (ChD g B0 B0 sv now lv l (doC .ping s now (c0 :: l)) w):=by
 have k:=hid ((Fr.refl [] w).alloc (.cells yRza 27));have r:=hid (Whole.new w 27 yRzl);have H:=hid h;have b:=h.bz;have e:doC .ping s now (c0 :: l)=(s,z4b ⟨#[80,79,78,71]⟩):=rfl;rw[e];clear e h;go_enter func99,ntmps99;go_wp2_with fail;refine(zdm _ _).mono ?_;rintro u t ⟨rfl,d⟩;have a:=hid (r.o.f0 d);have f:=hid (k.o.trans d);clear d;obtain⟨j,p,n,m⟩:=four a.o;obtain⟨A,y,x,z⟩:=z1p a.o;go_wp2;refine Xg (v:=.agg #[.int .i64 1,.string ⟨#[80,79,78,71]⟩,.int .i64 0,.slice none 0 0]) (by simp[results,results99,go_sem,j,p,n,m]) rfl ?_;exact⟨_,rfl,z1i.bare _ _ _ _ _,z2d f.o.up (Xb _) _ _ _ _,fun _=>⟨_,(H.o.go f.o).set4W a.o b _ _ _ _⟩⟩
theorem zfl{l:YX}{n:Nat}(h:∀t∈l,t.size≤n)(i:Nat):(wd l i).size≤n:=by
 unfold wd;rw[Xs];rcases hi:l[i]? with _|t
 ·show(⟨#[]⟩:YY).size≤n;exact Xt _
 ·exact h t (Xj hi)
theorem zin{w:World}{B b off c:Nat}{l:YX}(h:Sl w B 1 (.slice (some ⟨b,off,none⟩) l.length c) l.length (z03 l))(h1:1≤l.length)(hc:¬c=1):Sl w B 1 (.slice (some ⟨b,off+1,none⟩) (l.length - 1) (c - 1)) (l.length - 1) (z03 (l.drop 1)):=by
 have d:=h.cut (a:=1) (b:=l.length) h1 (Xb _);rw[Xc hc] at d
 have e:((z03 l).drop (1 * 1)).take ((l.length - 1) * 1)=z03 (l.drop 1):=by
  rw[Xw (by simp[z03])];simp[z03,Km]
 rw[e] at d;exact d
theorem z17{s:List Ent}(h:z22 s):∀e∈s,e.Small:=fun e he=>
 ⟨by have:=h.keys e he;omega,z4x (z2t (h.items e he)),by have:=h.times e he;omega⟩
theorem StI.go{w w':World}{base:Nat}{v:Value}{s:Sto}(h:StI w base v s)(f:Fr [] w w'):StI w' base v s:=by
 obtain⟨mid,a,b,rfl,e,d,g⟩:=h;exact⟨mid,a,b,rfl,e,d.go f,g.go f⟩
theorem ze3{s:Sto}{n:Int}(h:(z4f s n).2.2≠0):(z4f s n).1=noS∧(z4f s n).2.1=0:=by
 unfold z4f at h ⊢;split
 ·rename_i hc;rw[Xf hc] at h;exact absurd rfl h
 ·exact⟨rfl,rfl⟩
theorem zqd(s)(n:Int)(bx gb:Nat)(w:World)(ok:z6e s)(hbx:w.cell? ⟨bx,0,none⟩=some (.int .i64 n))(hg:Whole w gb 3 [.int .i64 0]):
  CloF 79 #[.pointer (some ⟨bx,0,none⟩),.pointer (some ⟨gb,0,none⟩)] [gb] s (z4f s n).2.2 (z4f s n).1 (fun W=>Whole W gb 3 [.int .i64 (z4f s n).2.1]) w:=by
 intro W base mid kb a b E t f h;have J:W.cell? ⟨bx,0,none⟩=some (.int .i64 n):=f.cell hbx (by simp);have B:gb < w.heap.size:=hg.lt;have x:=hid (hg.fr f (by simp));have y:=hid (zmv s base mid kb a b n W ok t h);have A:=h.kb;clear h hbx hg;generalize z4f s n=r at *;obtain⟨C,D,I⟩:=r;go_enter func79,ntmps79;go_wp2_with fail;refine y.o.mono ?_;rintro H g ⟨rfl,e,j⟩;have d:=hid (e.whole x.o (by omega) (by simp));have l:=d.o.cell 0;have G:g.frozen? ⟨gb,0,none⟩=false:=d.o.frozen 0;have l:g.cell? ⟨gb,0,none⟩=some (.int .i64 0):=l;have z:=hid e;have u:=hid j;clear e j;go_wp2;go_ret;refine⟨rfl,(z.o.more (by simp)).setCell (p:=⟨gb,0,none⟩) (.inl (by simp)) _,fun m=>?_,d.o.set_ 0 _⟩;obtain⟨F,p,q,K⟩:=u.o m;exact⟨p,q,K.k.far (p:=⟨gb,0,none⟩) (by show kb≠gb;omega) _,(K.sl.far (i:=0) d.o ⟨by decide,by decide⟩ _).o.v,(K.sg.far (i:=0) d.o ⟨by decide,by decide⟩ _).o.v⟩
def z8j(s:Sto)(n:Int):Sto×Int×Int:=if z0q s=0 then z4f s n else (noS,0,z0q s)
def GtP(r:Sto×Int×Int)(w:World)(e:Ending)(w':World):Prop:=∃u,e=.returned (.tuple #[u,.int .i64 r.2.1,.int .i64 r.2.2])∧StI w' w.heap.size u r.1∧Fr [] w w'
theorem zfr(s:Sto)(v)(n:Int)(w:World)(B:Nat)(hs:s.Small)(hB:B≤w.heap.size)(h:z5p w B v s):
  Calls prog 17 #[v,.int .i64 n] w (GtP (z8j s n) w):=by
 have Q:=hid (fun W bx gb (hW:Fr [] w W) (hbx:W.cell? ⟨bx,0,none⟩=some (.int .i64 n)) (hg:Whole W gb 3 [.int .i64 0])=>(show Calls prog 74 #[v,.func (Fn.func 79) #[] #[.pointer (some ⟨bx,0,none⟩),.pointer (some ⟨gb,0,none⟩)]] W (q4z [gb] (z8j s n).2.2 (z8j s n).1 True (fun D=>Whole D gb 3 [.int .i64 (z8j s n).2.1]) W) from by
  by_cases h0:z0q s=0
  ·have:=zi9 79 #[.pointer (some ⟨bx,0,none⟩),.pointer (some ⟨gb,0,none⟩)] (fun _ _=>rfl) s v (z4f s n).2.2 (z4f s n).1 [gb] (fun D=>Whole D gb 3 [.int .i64 (z4f s n).2.1]) W B hs (Xd hB hW.size) (h.fr hW hB (by simp)) (fun t=>zqd s n bx gb W t hbx hg) (fun C=>(ze3 C).1) (fun t C=>(zuh (c:=(z4f s n).2.1) t (show z4f s n=((z4f s n).1,(z4f s n).2.1,0) from by rw[←C])).1) (fun K W2 M L=>M.whole L hg.lt (by simp)) (by simpa using hg.lt);rw[Xf h0,Xf h0] at this;rw[show z8j s n=z4f s n from Xf h0];exact this.mono fun e w' ⟨u,A,z,h3,h4,_⟩=>⟨u,A,z,h3,fun _=>h4 h0,fun h=>absurd trivial h⟩
  ·have:=zi9 79 #[.pointer (some ⟨bx,0,none⟩),.pointer (some ⟨gb,0,none⟩)] (fun _ _=>rfl) s v (z4f s n).2.2 (z4f s n).1 [gb] (fun D=>Whole D gb 3 [.int .i64 0]) W B hs (Xd hB hW.size) (h.fr hW hB (by simp)) (fun t=>absurd (z69 t) h0) (fun C=>(ze3 C).1) (fun t C=>absurd (z69 t) h0) (fun K W2 M L=>M.whole L hg.lt (by simp)) (by simpa using hg.lt);rw[Xc h0,Xc h0] at this;rw[show z8j s n=(noS,0,z0q s) from Xc h0];exact this.mono fun e w' ⟨u,A,z,h3,_,h5⟩=>⟨u,A,z,h3,fun _=>hg.fr (h5 h0) (by simp),fun h=>absurd trivial h⟩))
 generalize z8j s n=r at *;obtain⟨d,O,rc⟩:=r;obtain⟨a,b,rfl,A,z⟩:=h;obtain⟨l,j,rfl⟩:=A.form;obtain⟨f,g,rfl⟩:=z.form;have G:=hid (((((Fr.refl [] w).alloc (.cells #[.slice l s.slots.length j,.slice f s.segs.length g] 42)).alloc (.cells #[.int .i64 n] 3)).alloc (.cells #[.slice none 0 0,.slice none 0 0] 42)).alloc (.cells #[.int .i64 0] 3));have K:=hid ((((Whole.new w 42 [.slice l s.slots.length j,.slice f s.segs.length g]).alloc (.cells #[.int .i64 n] 3)).alloc (.cells #[.slice none 0 0,.slice none 0 0] 42)).alloc (.cells #[.int .i64 0] 3))
 have K1:=hid (show Whole ((((w.alloc (.cells #[.slice l s.slots.length j,.slice f s.segs.length g] 42)).alloc (.cells #[.int .i64 n] 3)).alloc (.cells #[.slice none 0 0,.slice none 0 0] 42)).alloc (.cells #[.int .i64 0] 3)) (w.heap.size+1) 3 [.int .i64 n] from by
  have:=((Whole.new (w.alloc (.cells #[.slice l s.slots.length j,.slice f s.segs.length g] 42)) 3 [.int .i64 n]).alloc (.cells #[.slice none 0 0,.slice none 0 0] 42)).alloc (.cells #[.int .i64 0] 3);simpa using this)
 have P:=hid (show Whole ((((w.alloc (.cells #[.slice l s.slots.length j,.slice f s.segs.length g] 42)).alloc (.cells #[.int .i64 n] 3)).alloc (.cells #[.slice none 0 0,.slice none 0 0] 42)).alloc (.cells #[.int .i64 0] 3)) (w.heap.size+1+1) 42 [.slice none 0 0,.slice none 0 0] from by
  have:=(Whole.new ((w.alloc (.cells #[.slice l s.slots.length j,.slice f s.segs.length g] 42)).alloc (.cells #[.int .i64 n] 3)) 42 [.slice none 0 0,.slice none 0 0]).alloc (.cells #[.int .i64 0] 3);simpa using this)
 have G1:=hid (show Whole ((((w.alloc (.cells #[.slice l s.slots.length j,.slice f s.segs.length g] 42)).alloc (.cells #[.int .i64 n] 3)).alloc (.cells #[.slice none 0 0,.slice none 0 0] 42)).alloc (.cells #[.int .i64 0] 3)) (w.heap.size+1+1+1) 3 [.int .i64 0] from by
  have:=Whole.new (((w.alloc (.cells #[.slice l s.slots.length j,.slice f s.segs.length g] 42)).alloc (.cells #[.int .i64 n] 3)).alloc (.cells #[.slice none 0 0,.slice none 0 0] 42)) 3 [.int .i64 0];simpa using this)
 obtain⟨V,x1⟩:=two K.o;have R:=hid (Q.o _ (w.heap.size+1) (w.heap.size+1+1+1) G.o (K1.o.cell 0) G1.o);have F:w.heap.size≤w.heap.size+1+1:=by omega
 clear A z hs Q;go_enter func17,ntmps17;go_wp2_with fail;refine R.o.mono ?_;rintro e2 y ⟨u,rfl,H,N,hr,-⟩;have S:=hid (hr trivial);obtain⟨m,c1,x,c2,rfl⟩:=H.form;have J:=hid (P.o.fr N (by simp));have X:=hid (show Fr [] w y from((G.o.toB w.heap.size).trans ((N.toB w.heap.size).more (fun k Z=>.inr (by simp at Z;omega)))).fr (Xb _));have T:=hid (show StI y w.heap.size (.agg #[.slice m d.slots.length c1,.slice x d.segs.length c2]) d∧w.heap.size+1+1 < ((((w.alloc (.cells #[.slice l s.slots.length j,.slice f s.segs.length g] 42)).alloc (.cells #[.int .i64 n] 3)).alloc (.cells #[.slice none 0 0,.slice none 0 0] 42)).alloc (.cells #[.int .i64 0] 3)).heap.size∧StI y ((((w.alloc (.cells #[.slice l s.slots.length j,.slice f s.segs.length g] 42)).alloc (.cells #[.int .i64 n] 3)).alloc (.cells #[.slice none 0 0,.slice none 0 0] 42)).alloc (.cells #[.int .i64 0] 3)).heap.size (.agg #[.slice m d.slots.length c1,.slice x d.segs.length c2]) d from⟨H.less G.o.size,P.o.lt,H⟩);clear H N hr V x1 R;obtain⟨v0,v1⟩:=two J.o;obtain⟨z0,z1⟩:=zo1 J.o;have gc:y.cell? ⟨w.heap.size+1+1+1,0,none⟩=some (.int .i64 O):=S.o.cell 0;have I:w.heap.size+1+1 < y.heap.size:=J.o.lt;have a0:w.heap.size+1+1+1 < y.heap.size:=S.o.lt;go_wp2
 go_region
 all_goals
  go_wp2;refine Xg (v:=.tuple #[.agg #[.slice m d.slots.length c1,.slice x d.segs.length c2],.int .i64 O,.int .i64 rc]) (by simp[results,results17,go_sem,v0,v1,I]) rfl ?_;have E:=T.o.2.1;have U5:=(T.o.2.2.later (p:=⟨w.heap.size+1+1,0,none⟩) E (.slice m d.slots.length c1)).later (p:=⟨w.heap.size+1+1,1,none⟩) E (.slice x d.segs.length c2);have Y:=(X.o.setCell (p:=⟨w.heap.size+1+1,0,none⟩) (.inr F) (.slice m d.slots.length c1)).setCell (p:=⟨w.heap.size+1+1,1,none⟩) (.inr F) (.slice x d.segs.length c2);have U:=((Fr.refl [] ((y.setCell ⟨w.heap.size+1+1,0,none⟩ (.slice m d.slots.length c1)).setCell ⟨w.heap.size+1+1,1,none⟩ (.slice x d.segs.length c2))).alloc (.cells #[.slice m d.slots.length c1,.slice x d.segs.length c2] 42)).drew;exact⟨_,rfl,(U5.go U).less G.o.size,Y.trans U⟩
theorem zhd(left:Bool)(t)(ht:(left=true∧t=⟨#[108,112,117,115,104]⟩)∨(left=false∧t=⟨#[114,112,117,115,104]⟩))(g B0:Nat)(sv)(now:Int)(lv)(l:YX)(s)(c0:YY)(w)(ok:z22 s)(hn:2≤l.length)(h12:l.length≤11)(hz:∀t∈l,t.size≤60)(h:Dr g B0 sv now lv l s w):
  Calls prog 155 #[.pointer (some ⟨g,0,none⟩),.string t] w (ChD g B0 B0 sv now lv l (doC (if left=true then .lpush else .rpush) s now (c0 :: l)) w):=by
 have hr:=ok.rise;have B:=ok.le;have DI:=zDI hr B h;have LS:=hid (z2n (z17 ok) now (wd l 0)).item;have EP:doC (if left=true then .lpush else .rpush) s now (c0 :: l)=fin s now (wd l 0) (zc5 (z00 s now (wd l 0)).item left (l.drop 1)) (z00 s now (wd l 0)).til true false (z18 (z00 s now (wd l 0)).item (l.drop 1)) (z0s (zg1 (z00 s now (wd l 0)).item left (l.drop 1))):=by cases left <;> rfl
 have SY:=hid (show(zc5 (z00 s now (wd l 0)).item left (l.drop 1)).Small from zne _ _ _);have K:(l.drop 1).length=l.length - 1:=by rw[Xr]
 have OP:=hid (fun W u A c (k:z0p W W.heap.size u (z00 s now (wd l 0)).item) (q:Sl W W.heap.size 1 (.slice A (l.length - 1) c) (l.length - 1) (z03 (l.drop 1)))=>(show Calls prog 209 #[u,.bool left,.slice A (l.length - 1) c] W (z57 (zg1 (z00 s now (wd l 0)).item left (l.drop 1)) (z18 (z00 s now (wd l 0)).item (l.drop 1)) (zc5 (z00 s now (wd l 0)).item left (l.drop 1)) W) from by
  rw[←K] at q ⊢;exact zkg (z00 s now (wd l 0)).item u left (l.drop 1) A c W W.heap.size LS.o (Xb _) k (by omega) q))
 clear K;generalize zc5 (z00 s now (wd l 0)).item left (l.drop 1)=y at *;generalize zg1 (z00 s now (wd l 0)).item left (l.drop 1)=nn at *;generalize z18 (z00 s now (wd l 0)).item (l.drop 1)=cc at *;have CH:=zCH g B0 sv now lv l s w y (z0s nn) cc ok (by omega) SY;rw[EP];clear EP SY;have H:=hid h;have a9:=h.lt;have a0:=h.bz;obtain⟨SA,sc,rfl⟩:=h.sform;obtain⟨LA,S,rfl⟩:=h.lform;obtain⟨b,off,rfl,hb,hc,E,J⟩:=h.word (by omega);have a1:=hid J;have DG:=hid (fun W (hW:Fr [] w W)=>(h.go hW).three);unfold maxLen at E;clear h hr J ok;generalize fin s now (wd l 0) y (z00 s now (wd l 0)).til true false cc (z0s nn)=pp at *;generalize (z00 s now (wd l 0)).item=x at *;have a7:(1:Int)≤(l.length:Int):=by omega
 have a8:(l.length:Int)≤(S:Int):=by omega
 have a3:¬S=1:=by omega
 have ac:(1:Int)≤(S:Int):=by omega
 have I:=hid (fun W (hW:Fr [] w W)=>zin ((H.o.go hW).l.more (H.o.go hW).bz) (by omega) a3);have O:=zF w;have Q0:=zQ w;obtain⟨z,C,r⟩:=DG.o _ O.o;have dw:=O.o.cell (a1.o 0 (by omega)) (by simp);rw[Ye] at dw;rcases ht with⟨rfl,rfl⟩|⟨rfl,rfl⟩
 all_goals
  go_enter func155,ntmps155;go_wp2_with fail;refine(DI.o _ O.o).mono ?_;rintro e1 m ⟨xv,rfl,hi,U⟩;have F1:=hid (O.o.trans U);have Q1:=hid (Q0.o.f0 U);have HI:=hid hi;obtain⟨X1,x1,X2,x2,X3,x3,rfl⟩:=hi.form;have hz1:=U.size;simp at hz1;clear U hi z C r dw;have a:=zC1 Q1 HI H F1;have p:=zC2 a;obtain⟨z,C,r,d3,d4⟩:=five a.o.b;have d5:=(a.o.d).three.2.2;obtain⟨h0,h1,h2,h3,h4⟩:=five p.o.b;have h5:=(p.o.d).three.2.2;have V2:=zV2 m (.cells (yIa x X1 x1 X2 x2 X3 x3) 68);have af:¬g=m.heap.size+1:=by have:=a.o.d.lt;simp at this;omega
  have aa:¬m.heap.size+1=g:=by have:=a.o.d.lt;simp at this;omega
  have ab:¬b=m.heap.size+1:=by omega
  have ae:¬m.heap.size+1=b:=by omega
  go_upto_region 5 with fail;go_cut [6,7,8] (fun pb pn pe n=>pn=.int .i64 nn∧pe=.int .i64 cc∧zfo B0 y (m.alloc (.cells (yIa x X1 x1 X2 x2 X3 x3) 68)) pb n)
  case first=>
   go_region_held3 (fun n=>yIc n m.heap.size x X1 x1 X2 x2 X3 x3∧n.cell? ⟨g,2,none⟩=some (.slice (some ⟨b,off,none⟩) l.length S)) ((simp only[yIc];go_keep)) ((first|fail|(go_at_call 209;first|(refine(OP.o _ _ _ _ a.o.drew.i.item (I.o _ a.o.drew.f)).mono ?_;rintro e3 w3 ⟨yv,rfl,e,j⟩;obtain⟨Z,c1,A2,c2,A3,c3,rfl⟩:=e.form;have D:=hid (a.o.go (z01 j));have F3:=hid (z01 j);have F:=hid (e.less (show B0≤_ from a.o.d.bz));obtain⟨k0,k1,k2,k3,k4⟩:=five D.o.b;have k5:=(D.o.d).three.2.2;clear j e z C r d3 d4 d5 h0 h1 h2 h3 h4 h5)|(refine(OP.o _ _ _ _ p.o.drew.i.item (I.o _ p.o.drew.f)).mono ?_;rintro e3 w3 ⟨yv,rfl,e,j⟩;obtain⟨Z,c1,A2,c2,A3,c3,rfl⟩:=e.form;have D:=hid (p.o.go (z01 j));have F3:=hid (z3v (z01 j));have V3:=hid (V2.o.f0 (z01 j));have y7:=five V3.o;have z7:=z11 V3.o;have F:=hid (e.less (show B0≤_ from p.o.d.bz));obtain⟨k0,k1,k2,k3,k4⟩:=five D.o.b;have k5:=(D.o.d).three.2.2;clear j e z C r d3 d4 d5 h0 h1 h2 h3 h4 h5))))
   all_goals
    go_wp2;go_meet
    case rel=>first|with_reducible exact⟨rfl,rfl,zfo.new F.o F3.o⟩|exact⟨rfl,rfl,zfo.put F.o F3.o (by simp) V3.o⟩
  clear z C r d3 d4 d5 h0 h1 h2 h3 h4 h5;obtain⟨rfl,rfl,N,Z,c1,A2,c2,A3,c3,rfl,L,hw,e,hf⟩:=hcut;have F:=hid e;have VB:=hid hw;have C4:=hid (a.o.go hf);have ad:w.heap.size < N:=by have:=a.o.f.size;simp at L;have:=a.o.gx;omega
  clear hw e hf L;obtain⟨P,X,Y,T,M⟩:=five VB.o;go_upto_region 6 with fail;go_region_held3 (fun n=>yIc n N y Z c1 A2 c2 A3 c3) ((simp only[yIc];go_keep)) ((first|(go_at_call 197;refine(z1c _ _).mono ?_;rintro e5 w5 ⟨rfl,V⟩;have C5:=hid (C4.o.go (z01 V));have G:=hid (VB.o.f0 (z01 V));have a2:=hid (F.o.go (z01 V));clear V P X Y T M;obtain⟨P,X,Y,T,M⟩:=five G.o)|(go_at_call 196;refine(CH.o _ _ _ C5.o.d a2.o (z1i.bare _ _ _ _ _)).mono ?_;rintro e6 w6 ⟨u,rfl,hu,Q,hd⟩;obtain⟨R,rc,rfl⟩:=hu.form;have a4:=hid (G.o.fr Q (fun E=>by have:=(H.o.low _ E).2;omega));have Q6:=hid (C5.o.q.fr Q (fun E=>by have:=(H.o.low _ E).2;omega));have HU:=hid hu;have HD:=hid hd;have F6:=hid (C5.o.f.up.trans Q);clear Q hu hd P X Y T M;obtain⟨P,X,Y,T,M⟩:=five a4.o;obtain⟨y0,y1,y2,y3⟩:=four Q6.o;obtain⟨z0,z1,z2,z3⟩:=z1p Q6.o;have a5:¬N=w.heap.size:=(by omega);have a6:¬w.heap.size=N:=(by omega))))
  obtain⟨sp,pr⟩:=pp;go_wp2;refine Xg (v:=.agg (yRa pr R rc)) (by simp[results,results155,go_sem,y0,y1,y2,y3]) rfl ?_;exact ChD.fin4 HU.o F6.o Q6.o a0 HD.o
def lst(l:YX)(k:Nat):List Rp1:=(l.take k).map fun s=>⟨4,s,0,0⟩
theorem zzv{l:YX}{k:Nat}{s:YY}(h:l[k]? = some s):lst l (k+1)=lst l k++[⟨4,s,0,0⟩]:=by
 unfold lst;rw[Xz,h];simp
theorem q3o{l:YX}{k:Nat}:∀x∈lst l k,x.sub=0:=fun x hx=>by
 unfold lst at hx;obtain⟨s,_,rfl⟩:=Yt.1 hx;rfl
theorem zvd(l):lst l l.length=(z2h l).list:=by simp[lst,z2h]
def q58(w:World)(l:YX)(k:Nat)(A:YV)(c:Nat)(wr:World):Prop:=
 Whole wr w.heap.size 27 [.int .i64 0,.string ⟨#[]⟩,.int .i64 0,.slice none 0 0]∧Whole wr (w.heap.size+1) 27 [.int .i64 6,.string ⟨#[]⟩,.int .i64 0,.slice A k c]∧wr.ownsRow (w.heap.size+2) 27 4 (.slice A k c) k (z84 (lst l k))∧Fr [] w wr
theorem own_laterR'{w:World}{base e size n:Nat}{v:Value}{xs:List Value}(h:w.ownsRow base e size v n xs){o i:Nat}(ho:o < base)(u):(w.setCell ⟨o,i,none⟩ u).ownsRow base e size v n xs:=
 z0r u h (fun he=>by have:base≤o:=(h.lt _ he).1;omega)
def RepN(r:Rep)(w:World)(e:Ending)(w':World):Prop:=∃u,e=.returned u∧z1i w' w.heap.size u r∧Fr [] w w'
theorem zwc(l:YX)(A)(c:Nat)(w:World)(B:Nat)(hl:l.length≤1000)(hB:B≤w.heap.size)(hL:Sl w B 1 (.slice A l.length c) l.length (z03 l)):
  Calls prog 255 #[.slice A l.length c] w (RepN (z2h l) w):=by
 obtain⟨i0,hi,hz0,hz1,hz2⟩:=info_parts zwk;have HL:=hid hL
 have Y:=hid (show q58 w l 0 none 0 ((w.alloc (.cells yRza 27)).alloc (.cells #[.int .i64 6,.string ⟨#[]⟩,.int .i64 0,.slice none 0 0] 27)) from
  ⟨Whole.alloc (Whole.new w _ _) _,z8e w _ _ _,World.ownsRow_nil _ _ _ _,((Fr.refl [] w).alloc _).alloc _⟩)
 clear hL;go_enter func255,ntmps255;go_wp2;go_loopg [9] l.length (fun y i wr=>∃(k:Nat) (u:YV) (s:Nat),y=l.length - k∧k≤l.length∧i=.int .i64 k∧q58 w l k u s wr)
 case atStart=>exact⟨0,none,0,rfl,Xt _,rfl,Y.o⟩
 case round=>
  obtain⟨k,u,s,rfl,hk,rfl,L,f,P,O⟩:=hrel;have Q:=hid L;have BB:=hid f;have r:=hid P;have F:=hid O;have a5:=f.lt;clear L P O;obtain⟨S,T,U,N⟩:=four f;obtain⟨M,J,R,K⟩:=z1p f;clear f;by_cases hlt:k < l.length
  ·obtain⟨b,off,rfl,a4,hc,H,g⟩:=HL.o.at_ (by omega);obtain⟨t,C⟩:∃t,l[k]? = some t:=⟨_,Xa hlt⟩;have x1:=F.o.cell (g k _ (z0x l k t C)) (by simp);have LS:=hid (zzv C);have z:=hid (z0l (World.ownsRow_lit (base:=wr.heap.size) (e:=27) (size:=4) wr #[.int .i64 4,.string t,.int .i64 0,.slice none 0 0] 1 (Xb _) (by decide) rfl));unfold maxLen at H;clear g C;go_wp2_with (at_builtin;refine z0c _ rfl _ _ 25 rfl (w.heap.size+2) 27 i0 _ 4 56 underlying25 hi hz0 hz1 hz2 rfl (by decide) _ _ _ rfl (r.o.alloc _) _ _ 1 _ rfl z.o (q4g 4 0 t) ?c1 ?c2 ?c3 ?_)
   case c1=>unfold maxLen;omega
   case c2=>omega
   case c3=>first|omega|(simp;omega)
   intro W w5 d a m;have D:∀x,x < w.heap.size+2→x∉z1w (.slice u k s):=fun x G H=>by have:=z19 r.o H;omega
   have E:=z1u a;have X:=hid (Whole.fr (Whole.alloc Q.o (.cells #[.int .i64 4,.string t,.int .i64 0,.slice none 0 0] 27)) E (D _ (by omega)));have I:=hid (Whole.fr (Whole.alloc BB.o (.cells #[.int .i64 4,.string t,.int .i64 0,.slice none 0 0] 27)) E (D _ (by omega)));have F5:=hid ((F.o.alloc (.cells #[.int .i64 4,.string t,.int .i64 0,.slice none 0 0] 27)).grown a (fun j hj=>.inr (by have:=(r.o.lt j hj).1;omega)))
   have n:=hid (show w5.ownsRow (w.heap.size+2) 27 4 W (k+1) (z84 (lst l (k+1))) from by
    rw[LS.o,zl8];exact d)
   clear d a m D E S T U N M J R K;obtain⟨A5,c5,rfl,-⟩:=z05 n.o;obtain⟨S,T,U,N⟩:=four I.o;obtain⟨M,J,R,K⟩:=z1p I.o;go_wp2;go_roundg (l.length - (k+1))
   case measure=>omega
   case rel=>exact⟨k+1,A5,c5,rfl,by omega,by go_num,Whole.far X.o (p:=⟨w.heap.size+1,3,none⟩) (by show w.heap.size≠w.heap.size+1;omega) _,Whole.set_ I.o 3 _,own_laterR' n.o (by omega) _,F5.o.setCell (p:=⟨w.heap.size+1,3,none⟩) (.inr (by show w.heap.size≤w.heap.size+1;omega)) _⟩
  ·obtain rfl:k=l.length:=by omega
   have V:=Q.o.lt;obtain⟨y0,Z,y2,y3⟩:=four Q.o;obtain⟨z0,z1,z2,z3⟩:=z1p Q.o;go_wp2;refine Xg (v:=.agg #[.int .i64 6,.string ⟨#[]⟩,.int .i64 0,.slice u l.length s]) (by simp[results,results255,go_sem,y0,Z,y2,y3]) rfl ?_;have h:=r.o;rw[zvd] at h;exact⟨_,rfl,⟨(fun x G=>by rw[←zvd] at G;exact q3o x G),_,rfl,z0i (zpn (by simpa[z2h] using h) (by omega) _ _ _ _) (by omega)⟩,z2d F.o (Xb _) _ _ _ _⟩
theorem z3g(l:YX)(v)(c:Int)(w)(hl:l.length≤1000)(hL:Sl w w.heap.size 1 v l.length (z03 l)):
  Calls prog 206 #[v,.int .i64 c] w (RepN (orR (z2h l) c false) w):=by
 obtain⟨A,k,rfl⟩:=z68 hL;have f:=zF w;have s:=zQ w;have m:=hid (fun W (hW:Fr [] w W)=>zwc l A k W w.heap.size hl hW.size (hL.fr hW (Xb _) (by simp)));clear hL;go_enter func206,ntmps206;go_wp2_with fail;refine(m.o _ f.o).mono ?_;rintro I C ⟨u,rfl,d,b⟩;have t:=hid (f.o.trans b);have y:=hid (s.o.f0 b);have g:=hid d;obtain⟨R,K,rfl⟩:=d.form;clear d b;go_wp2_with fail;refine(z6l _ _ c false _ _ g.o).mono ?_;rintro F J ⟨rfl,a⟩;have p:=hid (t.o.trans a);have h:=hid (y.o.f0 a);have e:=hid ((zc2 g.o c false).fr a);clear a;obtain⟨S,z,j⟩:=e.o.form;rw[j] at e ⊢;clear j;generalize orR (z2h l) c false=q at *;obtain⟨x,n,B,r⟩:=four h.o;obtain⟨H,E,D,G⟩:=z1p h.o;go_wp2;refine Xg (v:=.agg (yRa q S z)) (by simp[results,results206,go_sem,x,n,B,r]) rfl ?_;exact⟨_,rfl,(e.o.set4 (by simp) _ _ _ _).base (by simp),z2d p.o (Xb _) _ _ _ _⟩
theorem zwy{s:List Ent}(h:z22 s):∀e∈s,e.Small:=fun e he=>
 ⟨by have:=h.keys e he;omega,z4x (z2t (h.items e he)),by have:=h.times e he;omega⟩
theorem z5p.form{w:World}{B:Nat}{v:Value}{s:Sto}(h:z5p w B v s):∃A c R r,v=.agg #[.slice A s.slots.length c,.slice R s.segs.length r]:=by
 obtain⟨a,b,rfl,d,e⟩:=h;obtain⟨A,c,rfl⟩:=d.form;obtain⟨R,r,rfl⟩:=e.form;exact⟨_,_,_,_,rfl⟩
def SvP(t:Sto)(c:Int)(w:World)(e:Ending)(w':World):Prop:=∃A n R r,e=.returned (.tuple #[.agg #[.slice A t.slots.length n,.slice R t.segs.length r],.int .i64 c])∧z5p w' w'.heap.size (.agg #[.slice A t.slots.length n,.slice R t.segs.length r]) t∧Fr [] w w'
def GvP(t:Sto)(k c:Int)(w:World)(e:Ending)(w':World):Prop:=∃A n R r,e=.returned (.tuple #[.agg #[.slice A t.slots.length n,.slice R t.segs.length r],.int .i64 k,.int .i64 c])∧z5p w' w'.heap.size (.agg #[.slice A t.slots.length n,.slice R t.segs.length r]) t∧Fr [] w w'
def VvP(l:List Ent)(c:Int)(w:World)(e:Ending)(w':World):Prop:=∃A n,e=.returned (.tuple #[.slice A l.length n,.int .i64 c])∧z1f w' w'.heap.size (.slice A l.length n) l∧Fr [] w w'
def zg7(s:Sto):List Ent:=if z0q s=0 then z0y s else []
theorem zy5(s:Sto)(v)(w)(hs:s.Small)(h:z5p w w.heap.size v s):Calls prog 14 #[v] w (VvP (zg7 s) (z0q s) w):=
 (zj8 s v w _ hs (Xb _) h).mono fun e w' ⟨u,he,hv,f⟩=>by
  obtain⟨A,n,rfl⟩:=z1f.form hv;exact⟨A,n,he,hv,f⟩
theorem q5f(s:Sto)(v)(k)(w)(hs:s.Small)(h:z5p w w.heap.size v s):Calls prog 15 #[v,.string k] w (SvP (z4e s k).1 (z4e s k).2 w):=
 (zj5 s v k w _ hs (Xb _) h).mono fun e w' ⟨u,he,hv,f,_⟩=>by
  obtain⟨A,n,R,r,rfl⟩:=hv.v.form;exact⟨A,n,R,r,he,hv.v,f⟩
theorem q5h(s:Sto)(v)(k)(w)(hs:s.Small)(h:z5p w w.heap.size v s):Calls prog 16 #[v,.string k] w (SvP (z4m s k).1 (z4m s k).2 w):=
 (zj9 s v k w _ hs (Xb _) h).mono fun e w' ⟨u,he,hv,f,_⟩=>by
  obtain⟨A,n,R,r,rfl⟩:=hv.v.form;exact⟨A,n,R,r,he,hv.v,f⟩
theorem q5g(s:Sto)(v)(k:Int)(w)(hs:s.Small)(h:z5p w w.heap.size v s):Calls prog 17 #[v,.int .i64 k] w (GvP (z8j s k).1 (z8j s k).2.1 (z8j s k).2.2 w):=
 (zfr s v k w _ hs (Xb _) h).mono fun e w' ⟨u,he,hv,f⟩=>by
  obtain⟨A,n,R,r,rfl⟩:=hv.v.form;exact⟨A,n,R,r,he,hv.v,f⟩
def q1w:Slt:=⟨⟨#[108]⟩,true,z2q 0,0,1,0⟩
def q1x:Slt:=⟨⟨#[116]⟩,false,⟨1,⟨#[55]⟩,[],[],[]⟩,0,0,10⟩
def z4k:Sto:=⟨[q1w,q1x],[[⟨#[1,111,108,100]⟩,⟨#[2,3,1,97,1,98,1,97]⟩]]⟩
theorem zfj:z0q z4k=0:=by decide +kernel
def SrP(w:World)(e:Ending)(w':World):Prop:=∃u,e=.returned u∧StI w' w.heap.size u z4k∧Fr [] w w'
theorem zwz(w):Calls prog 89 #[] w (SrP w):=by
 go_enter func89,ntmps89;go_wp2;refine Xg (v:=.agg #[.slice (some ⟨w.heap.size+1,0,none⟩) 2 2,.slice (some ⟨w.heap.size+1+1+1,0,none⟩) 1 1]) (by simp[results,results89,go_sem]) rfl ?_;generalize hW0:w.alloc (.cells #[.slice (some ⟨w.heap.size+1,0,none⟩) 2 2,.slice (some ⟨w.heap.size+1+1+1,0,none⟩) 1 1] 42)=a;have l:a.heap.size=w.heap.size+1:=by rw[←hW0];simp
 have f0:Fr [] w a:=by rw[←hW0];exact(Fr.refl [] w).alloc _
 have s:=World.ownsRow_lit (base:=w.heap.size) (e:=124) (size:=10) a #[.string ⟨#[108]⟩,.bool true,.int .i64 0,.string ⟨#[]⟩,.slice none 0 0,.slice none 0 0,.slice none 0 0,.int .i64 0,.int .i64 1,.int .i64 0,.string ⟨#[116]⟩,.bool false,.int .i64 1,.string ⟨#[55]⟩,.slice none 0 0,.slice none 0 0,.slice none 0 0,.int .i64 0,.int .i64 0,.int .i64 10] 2 (by omega) (by decide) rfl;have x:=(Fr.refl [] a).alloc (.cells #[.string ⟨#[108]⟩,.bool true,.int .i64 0,.string ⟨#[]⟩,.slice none 0 0,.slice none 0 0,.slice none 0 0,.int .i64 0,.int .i64 1,.int .i64 0,.string ⟨#[116]⟩,.bool false,.int .i64 1,.string ⟨#[55]⟩,.slice none 0 0,.slice none 0 0,.slice none 0 0,.int .i64 0,.int .i64 0,.int .i64 10] 124);have A:(a.alloc (.cells #[.string ⟨#[108]⟩,.bool true,.int .i64 0,.string ⟨#[]⟩,.slice none 0 0,.slice none 0 0,.slice none 0 0,.int .i64 0,.int .i64 1,.int .i64 0,.string ⟨#[116]⟩,.bool false,.int .i64 1,.string ⟨#[55]⟩,.slice none 0 0,.slice none 0 0,.slice none 0 0,.int .i64 0,.int .i64 0,.int .i64 10] 124)).heap.size=w.heap.size+1+1:=by simp[l]
 have m:=World.ownsRow_lit (base:=w.heap.size) (e:=9) (size:=1) (a.alloc (.cells #[.string ⟨#[108]⟩,.bool true,.int .i64 0,.string ⟨#[]⟩,.slice none 0 0,.slice none 0 0,.slice none 0 0,.int .i64 0,.int .i64 1,.int .i64 0,.string ⟨#[116]⟩,.bool false,.int .i64 1,.string ⟨#[55]⟩,.slice none 0 0,.slice none 0 0,.slice none 0 0,.int .i64 0,.int .i64 0,.int .i64 10] 124)) #[.string ⟨#[1,111,108,100]⟩,.string ⟨#[2,3,1,97,1,98,1,97]⟩] 2 (by omega) (by decide) rfl;have n:=(Fr.refl [] (a.alloc (.cells #[.string ⟨#[108]⟩,.bool true,.int .i64 0,.string ⟨#[]⟩,.slice none 0 0,.slice none 0 0,.slice none 0 0,.int .i64 0,.int .i64 1,.int .i64 0,.string ⟨#[116]⟩,.bool false,.int .i64 1,.string ⟨#[55]⟩,.slice none 0 0,.slice none 0 0,.slice none 0 0,.int .i64 0,.int .i64 0,.int .i64 10] 124))).alloc (.cells #[.string ⟨#[1,111,108,100]⟩,.string ⟨#[2,3,1,97,1,98,1,97]⟩] 9);have t:((a.alloc (.cells #[.string ⟨#[108]⟩,.bool true,.int .i64 0,.string ⟨#[]⟩,.slice none 0 0,.slice none 0 0,.slice none 0 0,.int .i64 0,.int .i64 1,.int .i64 0,.string ⟨#[116]⟩,.bool false,.int .i64 1,.string ⟨#[55]⟩,.slice none 0 0,.slice none 0 0,.slice none 0 0,.int .i64 0,.int .i64 0,.int .i64 10] 124)).alloc (.cells #[.string ⟨#[1,111,108,100]⟩,.string ⟨#[2,3,1,97,1,98,1,97]⟩] 9)).heap.size=w.heap.size+1+1+1:=by simp[l]
 have p:=World.ownsRow_lit (base:=w.heap.size) (e:=24) (size:=1) ((a.alloc (.cells #[.string ⟨#[108]⟩,.bool true,.int .i64 0,.string ⟨#[]⟩,.slice none 0 0,.slice none 0 0,.slice none 0 0,.int .i64 0,.int .i64 1,.int .i64 0,.string ⟨#[116]⟩,.bool false,.int .i64 1,.string ⟨#[55]⟩,.slice none 0 0,.slice none 0 0,.slice none 0 0,.int .i64 0,.int .i64 0,.int .i64 10] 124)).alloc (.cells #[.string ⟨#[1,111,108,100]⟩,.string ⟨#[2,3,1,97,1,98,1,97]⟩] 9)) #[.slice (some ⟨w.heap.size+1+1,0,none⟩) 2 2] 1 (by omega) (by decide) rfl;have g:=(Fr.refl [] ((a.alloc (.cells #[.string ⟨#[108]⟩,.bool true,.int .i64 0,.string ⟨#[]⟩,.slice none 0 0,.slice none 0 0,.slice none 0 0,.int .i64 0,.int .i64 1,.int .i64 0,.string ⟨#[116]⟩,.bool false,.int .i64 1,.string ⟨#[55]⟩,.slice none 0 0,.slice none 0 0,.slice none 0 0,.int .i64 0,.int .i64 0,.int .i64 10] 124)).alloc (.cells #[.string ⟨#[1,111,108,100]⟩,.string ⟨#[2,3,1,97,1,98,1,97]⟩] 9))).alloc (.cells #[.slice (some ⟨w.heap.size+1+1,0,none⟩) 2 2] 24);rw[l] at s;rw[A] at m;rw[t] at p;refine⟨_,rfl,⟨w.heap.size,_,_,rfl,Xb _,⟨[z3d q1w none 0 none 0 none 0,z3d q1x none 0 none 0 none 0],?_,z08 (z08 s n (by simp)) g (by simp)⟩,⟨[.slice (some ⟨w.heap.size+1+1,0,none⟩) 2 2],?_,?_,p⟩⟩,((f0.trans x).trans n).trans g⟩
 ·refine zfp.mk rfl fun i e f=>?_;rcases i with _|_|i
  ·cases f;exact⟨_,rfl,⟨none,0,none,0,none,0,rfl,World.ownsRow_nil _ _ _ _,World.ownsRow_nil _ _ _ _,World.ownsRow_nil _ _ _ _⟩,fun u b k d=>by simp[z3d] at b;rcases b with rfl|rfl|rfl|rfl|rfl|rfl|rfl|rfl|rfl|rfl <;> cases d⟩
  ·cases f;exact⟨_,rfl,⟨none,0,none,0,none,0,rfl,World.ownsRow_nil _ _ _ _,World.ownsRow_nil _ _ _ _,World.ownsRow_nil _ _ _ _⟩,fun u b k d=>by simp[z3d] at b;rcases b with rfl|rfl|rfl|rfl|rfl|rfl|rfl|rfl|rfl|rfl <;> cases d⟩
  ·simp[z4k] at f
 ·refine⟨rfl,fun i y r=>?_⟩;rcases i with _|i
  ·cases r;exact⟨_,rfl,z08 m g (by simp)⟩
  ·simp[z4k] at r
 ·intro i j u v h b z;rcases i with _|i <;> rcases j with _|j <;> simp at b z h
def q00(e:Ent):Slt:=⟨e.key,false,e.item,0,0,e.til⟩
def zah(s:Sto)(e:Ent):Slt:=match (if z4o Slt.key s.slots e.key=true then s.slots[z1e Slt.key s.slots e.key]? else none) with
 | some x=>if z7a (z6u s.segs x) e.item=true then { x with til:=e.til } else q00 e
 | none=>q00 e
def z8i(s:Sto)(l:List Ent):Sto:=⟨l.map (zah s),s.segs⟩
theorem zsw{s:Sto}{e:Ent}(h:¬z4o Slt.key s.slots e.key=true):zah s e=q00 e:=by unfold zah;rw[Xc h]
theorem zoc{s:Sto}{e:Ent}{x:Slt}(h:z4o Slt.key s.slots e.key=true)(hx:s.slots[z1e Slt.key s.slots e.key]? = some x):zah s e=if z7a (z6u s.segs x) e.item=true then { x with til:=e.til } else q00 e:=by unfold zah;rw[Xf h,hx]
def z7g(w:World)(base lo:Nat)(v:Value)(l:List Slt):Prop:=
 ∃rs:List (List Value),rs.length=l.length∧(∀(i:Nat) (e:Slt),l[i]? = some e→∃cs:List Value,rs[i]? = some cs∧z4a w base cs e)∧w.ownsRow lo 124 10 v l.length rs.flatten
theorem z7g.form{w:World}{base lo:Nat}{v:Value}{l:List Slt}(h:z7g w base lo v l):∃A c,v=.slice A l.length c:=by
 obtain⟨b,_,_,a⟩:=h;obtain⟨A,c,rfl,-⟩:=z05 a;exact⟨A,c,rfl⟩
theorem z7g.nil(w)(base lo:Nat):z7g w base lo (.slice none 0 0) []:=⟨[],rfl,fun i e h=>by simp at h,World.ownsRow_nil _ _ _ _⟩
theorem z7g.o{w:World}{base lo:Nat}{v:Value}{l:List Slt}(h:z7g w base lo v l)(hb:base≤lo):z6c w base v l:=by
 obtain⟨b,a,d,h3⟩:=h;exact⟨b,a,d,z0i h3 hb⟩
theorem z7g.go{w w':World}{base lo:Nat}{v:Value}{l:List Slt}(h:z7g w base lo v l)(f:Fr [] w w'):z7g w' base lo v l:=by
 obtain⟨a,j,d,h3⟩:=h
 exact⟨a,j,fun i e b=>by
  obtain⟨g,h4,k⟩:=d i e b;exact⟨g,h4,k.fr f⟩,z08 h3 f (by simp)⟩
theorem z7g.snoc{w':World}{base lo:Nat}{l:List Slt}{e:Slt}{cs:List Value}{v':Value}{rs:List (List Value)}(hl:rs.length=l.length)(h:∀(i:Nat) (e),l[i]? = some e→∃cs:List Value,rs[i]? = some cs∧z4a w' base cs e)(he:z4a w' base cs e)(ho:w'.ownsRow lo 124 10 v' (l.length+1) (rs.flatten++cs)):z7g w' base lo v' (l++[e]):=by
 refine⟨rs++[cs],by simp[hl],fun i x a=>?_,by simpa using ho⟩;rcases Yc i l.length with h1|h1
 ·rw[Xu h1] at a;obtain⟨d,b,h3⟩:=h i x a;exact⟨d,by rw[Xu (by omega)];exact b,h3⟩
 ·have:i=l.length:=by have:=(Xe.1 a).1;simp at this;omega
  subst this;rw[Xq (Xb _),Ux] at a;simp at a;subst a;exact⟨cs,by rw[Xq (by omega),hl,Ux];rfl,he⟩
def q1z(base e0:Nat)(e:Ent)(A1:YV)(c1:Nat)(A2:YV)(c2:Nat)(A3:YV)(c3:Nat)(wr:World)(py:Value)(wx:World):Prop:=
 ∃yb P1 p1 P2 p2 P3 p3,py=.pointer (some ⟨yb,0,none⟩)∧Whole wx yb 124 (z3d (q00 e) P1 p1 P2 p2 P3 p3)∧z4a wx base (z3d (q00 e) P1 p1 P2 p2 P3 p3) (q00 e)∧Whole wx e0 70 (z9p e A1 c1 A2 c2 A3 c3)∧Fr [] wr wx∧e0 < yb
theorem q1z.new{base base0 e0:Nat}{e:Ent}{A1 A2 A3 P1 P2 P3:YV}{c1 c2 c3 p1 p2 p3:Nat}{wr w4:World}(hu:z0k w4 base0 (.agg #[.int .i64 e.item.kind,.string e.item.text,.slice P1 e.item.list.length p1,.slice P2 e.item.pairs.length p2,.slice P3 e.item.scores.length p3]) e.item)(hb:base≤base0)(hv:Whole w4 e0 70 (z9p e A1 c1 A2 c2 A3 c3))(hf:Fr [] wr w4):
  q1z base e0 e A1 c1 A2 c2 A3 c3 wr (.pointer (some ⟨w4.heap.size,0,none⟩)) (w4.alloc (.cells #[.string e.key,.bool false,.int .i64 e.item.kind,.string e.item.text,.slice P1 e.item.list.length p1,.slice P2 e.item.pairs.length p2,.slice P3 e.item.scores.length p3,.int .i64 0,.int .i64 0,.int .i64 e.til] 124)):=by
 obtain⟨k,j,h,a,f,d,b⟩:=hu;cases a;have g:=(Fr.refl [] w4).alloc (.cells #[.string e.key,.bool false,.int .i64 e.item.kind,.string e.item.text,.slice P1 e.item.list.length p1,.slice P2 e.item.pairs.length p2,.slice P3 e.item.scores.length p3,.int .i64 0,.int .i64 0,.int .i64 e.til] 124);exact⟨_,P1,p1,P2,p2,P3,p3,rfl,Whole.new w4 124 (z3d (q00 e) P1 p1 P2 p2 P3 p3),⟨P1,p1,P2,p2,P3,p3,rfl,z0i (z08 f g (by simp)) hb,z0i (z08 d g (by simp)) hb,z0i (z08 b g (by simp)) hb⟩,hv.fr g (by simp),hf.trans g,hv.lt⟩
theorem za9{g t:Nat}:∀(ps:List (Nat×Value)) {w:World} {cs:List Value},Whole w g t cs→Whole (zcc w g 0 ps) g t (zd6 cs ps)
 | [],_,_,h=>h
 | p :: ps,w,cs,h=>za9 ps (w:=w.setCell ⟨g,0+p.1,none⟩ p.2) (cs:=cs.set p.1 p.2) (by rw[Yw];exact h.set_ p.1 p.2)
theorem q1z.put{base base0 e0 yb:Nat}{e:Ent}{A1 A2 A3 P1 P2 P3:YV}{c1 c2 c3 p1 p2 p3:Nat}{wr w4:World}(hu:z0k w4 base0 (.agg #[.int .i64 e.item.kind,.string e.item.text,.slice P1 e.item.list.length p1,.slice P2 e.item.pairs.length p2,.slice P3 e.item.scores.length p3]) e.item)(hb:base≤base0)(hv:Whole w4 e0 70 (z9p e A1 c1 A2 c2 A3 c3))(hf:Fr [] wr w4)
  (hy:Whole w4 yb 124 [.string ⟨#[]⟩,.bool false,.int .i64 0,.string ⟨#[]⟩,.slice none 0 0,.slice none 0 0,.slice none 0 0,.int .i64 0,.int .i64 0,.int .i64 0]) (h0:e0 < yb) (h1:yb < base0) (hw:wr.heap.size≤yb):
  q1z base e0 e A1 c1 A2 c2 A3 c3 wr (.pointer (some ⟨yb,0,none⟩)) (zcc w4 yb 0 [(0,.string e.key),(1,.bool false),(2,.int .i64 e.item.kind),(3,.string e.item.text),(4,.slice P1 e.item.list.length p1),(5,.slice P2 e.item.pairs.length p2),(6,.slice P3 e.item.scores.length p3),(7,.int .i64 0),(8,.int .i64 0),(9,.int .i64 e.til)]):=by
 obtain⟨s,r,p,b,j,h,f⟩:=hu;cases b;have g:=z87 (g:=yb) (o:=0) [(0,.string e.key),(1,.bool false),(2,.int .i64 e.item.kind),(3,.string e.item.text),(4,.slice P1 e.item.list.length p1),(5,.slice P2 e.item.pairs.length p2),(6,.slice P3 e.item.scores.length p3),(7,.int .i64 0),(8,.int .i64 0),(9,.int .i64 e.til)] w4
 have d:∀ {E size n:Nat} {v:Value} {xs:List Value},w4.ownsRow base0 E size v n xs→∀k,v.ownBlock=some k→k∉[yb]:=fun m k a l=>by
  have:=(m.lt k a).1;have:k=yb:=by simpa using l
  omega
 exact⟨_,P1,p1,P2,p2,P3,p3,rfl,za9 _ hy,⟨P1,p1,P2,p2,P3,p3,rfl,z0i (z08 j g (d j)) hb,z0i (z08 h g (d h)) hb,z0i (z08 f g (d f)) hb⟩,hv.fr g (by simp;omega),(((hf.toB wr.heap.size).trans ((g.toB wr.heap.size).more (fun k a=>.inr (by simp at a;omega)))).fr (Xb _)),h0⟩
def BecJ(base yb:Nat)(X:Slt)(wr wx:World):Prop:=∃P1 p1 P2 p2 P3 p3,Whole wx yb 124 (z3d X P1 p1 P2 p2 P3 p3)∧z4a wx base (z3d X P1 p1 P2 p2 P3 p3) X∧Fr [] wr wx
def BecP(base kb:Nat)(t:Sto)(w:World)(e:Ending)(w':World):Prop:=e=.returned (.tuple #[])∧Fr [kb] w w'∧Kq w' kb t
theorem zq7(s)(base mid kb:Nat)(a b lv)(l)(w:World)(B:Nat)(ok:z6e s)(okl:z22 l)(hb:base≤w.heap.size)(hB:B≤w.heap.size)(h:KpM w base mid kb a b s)(hl:z1f w B lv l):
  Calls prog 141 #[.pointer (some ⟨kb,0,none⟩),lv] w (BecP base kb (z8i s l) w):=by
 obtain⟨i0,hi,hz0,hz1,hz2⟩:=info_parts zwv;have hs:=z1k ok;obtain⟨SA,sc,rfl⟩:=h.sl.form;obtain⟨RA,rc,rfl⟩:=h.sg.form;obtain⟨LA,lc,rfl⟩:=hl.form;obtain⟨g0,g1⟩:=two h.k;have VI:=hid (zip s kb SA RA sc rc w w.heap.size hs (by have:=ok.le;omega) (fun x A hc=>((ok.slot x A).cold hc).2) (Xb _) g0 g1 h.sl.o.v h.sg.o.v);have HK:=hid h;have HL:=hid hl;have HS:=hid hs;have OK:=hid ok;have c4:=hid okl;have ca:=okl.le;have c7:=ok.le;have aa:=zlp s;clear h hl hs ok okl;go_enter func141,ntmps141;go_wp2_with fail;refine VI.o.mono ?_;rintro e1 N ⟨u1,rfl,hu,f1⟩;have HW:=hid hu;have F1:=hid f1;obtain⟨WA,bp,rfl⟩:=hu.form
 try rw[aa]
 clear hu f1 g0 g1;go_wp2;go_loopg [5,15] l.length (fun g o i wr=>∃(k:Nat),g=l.length - k∧k≤l.length∧i=.int .i64 k∧z7g wr base N.heap.size o ((l.take k).map (zah s))∧Fr [] N wr)
 case atStart=>exact⟨0,rfl,Xt _,rfl,by rw[Jd];exact z7g.nil _ _ _,Fr.refl _ _⟩
 case round=>
  obtain⟨k,rfl,hk,rfl,hO,hf⟩:=hrel;have HF:=hid hf;have HO:=hid hO;have a8:((l.take k).map (zah s)).length=k:=by rw[Xx,Xp];omega
  obtain⟨Ao,co,hv⟩:=hO.form;rw[a8] at hv;subst hv;have LT:=hid a8;clear hf hO a8;by_cases hlt:k < l.length
  ·obtain⟨b,off,rfl,a0,hc,cg,bh⟩:=HL.o.at_ (by omega);obtain⟨e,he⟩:∃e,l[k]? = some e:=⟨_,Xa hlt⟩;obtain⟨P,S,Q,c1,c2,c3,h7⟩:=bh k e he;have ao:=Xj he;have FW:=hid (F1.o.trans HF.o);have P7:=hid (h7.fr FW.o a0 hB (by simp));obtain⟨x0,x1,U,x3,V,Z,x6,ah⟩:=P7.o;have ET:=hid (show(l.take (k+1)).map (zah s)=(l.take k).map (zah s)++[zah s e] from by rw[Xz,he];simp);have RI:=hid (z2t (c4.o.items e ao));have E1:=hid (Whole.new wr 70 (z9p e P c1 S c2 Q c3));have G1:=hid ((Fr.refl [] wr).alloc (.cells (yEa e P c1 S c2 Q c3) 70));have OW:=hid (fun W (hW:Fr [] (wr.alloc (.cells (yEa e P c1 S c2 Q c3) 70)) W)=>za1 e.item (.agg (yIa e.item P c1 S c2 Q c3)) W W.heap.size (z4x RI.o) (by have:=RI.o.many;unfold many at this;omega) (by have:=RI.o.many;unfold many at this;omega) (by have:=RI.o.many;unfold many at this;omega) (Xb _) (((ah.fr G1.o (Xd hB FW.o.size) (by simp)).fr hW (Xd (Xd hB FW.o.size) G1.o.size) (by simp)).item.more (Xd (Xd (Xd hB FW.o.size) G1.o.size) hW.size)))
   have YN:=hid (show Whole ((wr.alloc (.cells (yEa e P c1 S c2 Q c3) 70)).alloc (.cells ySza 124)) (wr.heap.size+1) 124 ySzl from by
    have:=Whole.new (wr.alloc (.cells (yEa e P c1 S c2 Q c3) 70)) 124 ySzl;simpa using this)
   have an:=hid (show base≤(wr.alloc (.cells (yEa e P c1 S c2 Q c3) 70)).drew.heap.size from by have:=FW.o.size;simp[World.drew];omega);have al:=hid (show base≤((wr.alloc (.cells (yEa e P c1 S c2 Q c3) 70)).alloc (.cells ySza 124)).drew.heap.size from by have:=FW.o.size;simp[World.drew];omega);have bt:=hid ah;clear bh h7 he ao ah;go_upto_region 5 with fail;clear x0 x1 U x3 V Z x6;obtain⟨x0,x1,U,x3,V,Z,x6⟩:=seven E1.o;go_cut [8] from 16 to 63 (fun py z=>q1z base wr.heap.size e P c1 S c2 Q c3 wr py z)
   case first=>
    go_region_held3 (fun z=>yEc z wr.heap.size e P c1 S c2 Q c3) ((simp only[yEc];go_keep)) ((first|(go_at_call 118;(with_reducible refine(OW.o ((wr.alloc (.cells (yEa e P c1 S c2 Q c3) 70)).drew) (Fr.refl [] _).drew).mono ?_);rintro e4 w4 ⟨u,rfl,hu,k4⟩;obtain⟨P1,p1,P2,p2,P3,p3,rfl⟩:=hu.form;have HU:=hid hu;have F4:=hid (z01 k4);have V4:=hid (E1.o.fr F4.o (by simp));clear k4 hu x0 x1 U x3 V Z x6;obtain⟨x0,x1,U,x3,V,Z,x6⟩:=seven V4.o;have n4:¬wr.heap.size=w4.heap.size:=(by have:=V4.o.lt;omega);have n5:¬w4.heap.size=wr.heap.size:=(fun h=>n4 h.symm))|(go_at_call 118;(with_reducible refine(OW.o (((wr.alloc (.cells (yEa e P c1 S c2 Q c3) 70)).alloc (.cells ySza 124)).drew) ((Fr.refl [] _).alloc _).drew).mono ?_);rintro e4 w4 ⟨u,rfl,hu,k4⟩;obtain⟨P1,p1,P2,p2,P3,p3,rfl⟩:=hu.form;have HU:=hid hu;have F4:=hid (z01 k4);have V4:=hid ((E1.o.alloc _).fr F4.o (by simp));clear k4 hu x0 x1 U x3 V Z x6;obtain⟨x0,x1,U,x3,V,Z,x6⟩:=seven V4.o;have n4:¬wr.heap.size=w4.heap.size:=(by have:=V4.o.lt;omega);have n5:¬w4.heap.size=wr.heap.size:=(fun h=>n4 h.symm);have Y4:=hid (YN.o.fr F4.o (by simp));obtain⟨y0,y1,y2,y3,y4,y5,y6,y7,y8,y9⟩:=ten Y4.o;obtain⟨z0,z1,z2,z3,z4,z5,z6,z7,z8,z9⟩:=tenF Y4.o)))
    all_goals
     go_wp2;go_meet
     case rel=>first|with_reducible exact q1z.new HU.o an.o V4.o (G1.o.trans F4.o)|exact q1z.put HU.o al.o V4.o ((G1.o.trans ((Fr.refl [] _).alloc _)).trans F4.o) Y4.o (by omega) (by simp) (by omega)
   clear x0 x1 U x3 V Z x6;obtain⟨y,P1,p1,P2,p2,P3,p3,rfl,hY,hI,hE,ai,ad⟩:=hcut;have HY:=hid hY;have HI:=hid hI;have HE:=hid hE;have HC:=hid ai;have ag:=hid ad;have F2:=hid ((F1.o.trans HF.o).trans ai);obtain⟨h0,h1⟩:=two (HK.o.k.fr F2.o (by simp));have KS:=hid (fun W (hW:Fr [] wc W)=>zjw s.slots e.key SA sc W.heap.size (.slice RA s.segs.length rc) W OK.o.rise (by omega) (Xb _) (HK.o.go (F2.o.trans hW)).sl.o.v);unfold z3e at KS;obtain⟨R,a9⟩:∃R,R=z1e Slt.key s.slots e.key:=⟨_,rfl⟩;obtain⟨hh,ae⟩:∃hh,hh=z4o Slt.key s.slots e.key:=⟨_,rfl⟩;rw[←a9,←ae] at KS;have bv:=hid a9;have aj:=hid ae;have T:wc.cell? ⟨wr.heap.size,0,none⟩=some (.string e.key):=hE.cell 0;clear hY hI hE ai ad a9 ae OW YN an al;go_upto_region 6 with fail;go_region_held3 (fun z=>z.cell? ⟨kb,0,none⟩=some (.slice SA s.slots.length sc)∧z.cell? ⟨kb,1,none⟩=some (.slice RA s.segs.length rc)∧z.cell? ⟨wr.heap.size,0,none⟩=some (.string e.key)) (go_keep) ((first|(go_at_call 168;refine(KS.o _ (Fr.refl [] _).drew).mono ?_;rintro e5 w5 ⟨rfl,f5⟩;have F5:=hid (z01 f5);have bf:=F5.o.cell h0 (by simp);have bk:=F5.o.cell h1 (by simp);have ac:=F5.o.cell T (by simp);clear f5 h0 h1 T;have h0:=bf;have h1:=bk;have T:=ac;clear bf bk ac)))
   cases hh with
   | false=>
    have EX:=hid (zsw (s:=s) (e:=e) (fun h=>by rw[←aj.o] at h;cases h));go_upto_region 7 with fail;go_quiet (fail)
    have HJ:=hid (show BecJ base y (zah s e) wr (w5.drewN nq) from by
     have ff:=F5.o.drewN nq;rw[EX.o];exact⟨P1,p1,P2,p2,P3,p3,HY.o.fr ff (by simp),HI.o.fr ff,HC.o.trans ff⟩)
    go_upto_region 10 with fail;clear h0 h1 T;generalize w5.drewN nq=O at *;obtain⟨Q1,u1,Q2,u2,Q3,u3,J,I,D⟩:=HJ.o;have YJ:=hid J;have IJ:=hid I;have FJ:=hid D;clear J I D;generalize zah s e=X at *;obtain⟨a7,L,K,H⟩:=HO.o.go FJ.o;have t:=hid (show O.ownsRow N.heap.size 124 10 (.slice Ao k co) k a7.flatten from by have:=H;rw[LT.o] at this;exact this);have a3:=hid L;have a5:=hid K;have a4:=hid (z0l (World.ownsRow_lit (base:=O.heap.size) (e:=124) (size:=10) O (ySa X Q1 u1 Q2 u2 Q3 u3) 1 (Xb _) (by decide) rfl));have be:N.heap.size≤O.heap.size:=Xd HF.o.size FJ.o.size;clear L K H;obtain⟨j0,j1,j2,j3,j4,j5,j6,j7,j8,j9⟩:=ten YJ.o;go_wp2_with (at_builtin;refine z0c _ rfl _ _ 39 rfl N.heap.size 124 i0 _ 10 144 underlying39 hi hz0 hz1 hz2 rfl (by decide) _ _ _ rfl (t.o.alloc _) _ _ 1 _ rfl a4.o (zbk X Q1 Q2 Q3 u1 u2 u3) ?c1 ?c2 ?c3 ?_)
    case c1=>unfold maxLen;omega
    case c2=>omega
    case c3=>first|omega|(simp;omega)
    intro v9 w9 r f G;have a1:=hid r;have a6:=hid f;obtain⟨A9,c9,rfl,-⟩:=z05 r;have C:=(Fr.refl [] O).alloc (.cells (ySa X Q1 u1 Q2 u2 Q3 u3) 124);have OA:=hid (z08 t.o C (by simp));have F9:=hid (((HF.o.trans FJ.o).trans C).grown f (fun j hj=>.inr (t.o.lt j hj).1))
    have a2:=hid (show z7g w9 base N.heap.size (.slice A9 (k+1) c9) ((l.take (k+1)).map (zah s)) from by
     rw[ET.o];have ff:=z1u a6.o;refine z7g.snoc a3.o (fun i x A=>?_) ((IJ.o.fr C).row OA.o z5n ff) (by rw[LT.o];exact a1.o);obtain⟨d,h3,h4⟩:=a5.o i x A;exact⟨d,h3,(h4.fr C).row OA.o z5n ff⟩)
    clear r f G j0 j1 j2 j3 j4 j5 j6 j7 j8 j9 C;go_wp2;go_roundg (l.length - (k+1))
    case measure=>omega
    case rel=>exact⟨k+1,rfl,by omega,by go_num,a2.o,F9.o⟩
   | true=>
    obtain⟨x,A,bo⟩:=(z2s Slt.key).1 aj.o.symm;have EX:=hid (zoc aj.o.symm A);rw[←bv.o] at A;have a9:R < s.slots.length:=(Xe.1 A).1;have ba:=Xj A;have HX:=hid A;have WV:=hid (show z1f N N.heap.size (.slice WA (z0y s).length bp) (z0y s) from by have:=HW.o.val F1.o.size;first|exact this|(rw[aa];exact this))
    obtain⟨b2,F,rfl,bw,cf,br,ab⟩:=WV.o.at_ (by rw[aa];omega);obtain⟨W1,W2,W3,d1,d2,d3,aw⟩:=ab R _ (zq0 A);have af:=hid ((HF.o.trans HC.o).trans F5.o);obtain⟨y0,y1,y2,y3,y4,y5,y6,bn⟩:=aw.fr af.o bw (Xb _) (by simp);have ar:(z6u s.segs x).Small:=z4x (z2t (zef OK.o ba));have E5:=hid (HE.o.fr F5.o (by simp))
    have SI:=hid (fun W (hW:Fr [] w5 W)=>zka (z6u s.segs x) e.item (.agg #[.int .i64 (z6u s.segs x).kind,.string (z6u s.segs x).text,.slice W1 (z6u s.segs x).list.length d1,.slice W2 (z6u s.segs x).pairs.length d2,.slice W3 (z6u s.segs x).scores.length d3]) (.agg (yIa e.item P c1 S c2 Q c3)) W W.heap.size ar (z4x RI.o) (Xb _) (by
     have:=bn.item.fr hW (Xd (Xb _) af.o.size) (by simp);exact this.more (Xd af.o.size hW.size)) (by
     have:=(bt.o.fr (HC.o.trans (F5.o.trans hW)) (Xd hB FW.o.size) (by simp)).item;exact this.more (Xd (Xd hB FW.o.size) (HC.o.trans (F5.o.trans hW)).size)))
    obtain⟨x0,x1,U,x3,V,Z,x6⟩:=seven E5.o;have c8:=aa;have cd:(0:Int)≤(R:Int):=by omega
    have cb:(R:Int) < (s.slots.length:Int):=by omega
    obtain⟨bb,a0⟩:∃bb,bb=z7a (z6u s.segs x) e.item:=⟨_,rfl⟩;rw[←a0] at SI EX;have al:=hid a0;unfold maxLen at br;clear ab aw A ba a0 WV bn ar bo;generalize z6u s.segs x=lx at *;go_upto_region 7 with fail;go_region_held3 (fun z=>z.cell? ⟨b2,F+R * 7+1,none⟩=some (.int .i64 lx.kind)∧z.cell? ⟨b2,F+R * 7+2,none⟩=some (.string lx.text)∧z.cell? ⟨b2,F+R * 7+3,none⟩=some (.slice W1 lx.list.length d1)∧z.cell? ⟨b2,F+R * 7+4,none⟩=some (.slice W2 lx.pairs.length d2)∧z.cell? ⟨b2,F+R * 7+5,none⟩=some (.slice W3 lx.scores.length d3)∧z.cell? ⟨wr.heap.size,1,none⟩=some (.int .i64 e.item.kind)∧z.cell? ⟨wr.heap.size,2,none⟩=some (.string e.item.text)∧z.cell? ⟨wr.heap.size,3,none⟩=some (.slice P e.item.list.length c1)∧z.cell? ⟨wr.heap.size,4,none⟩=some (.slice S e.item.pairs.length c2)∧z.cell? ⟨wr.heap.size,5,none⟩=some (.slice Q e.item.scores.length c3)) (go_keep) ((first|(go_at_call 181;refine(SI.o _ (Fr.refl [] _).drew).mono ?_;rintro e6 Y ⟨rfl,f6⟩;have M:=hid (z01 f6);have bl:=M.o.cell y1 (by simp);have bi:=M.o.cell y2 (by simp);have aq:=M.o.cell y3 (by simp);have ax:=M.o.cell y4 (by simp);have bd:=M.o.cell y5 (by simp);have bg:=M.o.cell x1 (by simp);have av:=M.o.cell U (by simp);have bc:=M.o.cell x3 (by simp);have bm:=M.o.cell V (by simp);have bj:=M.o.cell Z (by simp);clear f6 y0 y1 y2 y3 y4 y5 y6 x0 x1 U x3 V Z x6;have y1:=bl;have y2:=bi;have y3:=aq;have y4:=ax;have y5:=bd;have x1:=bg;have U:=av;have x3:=bc;have V:=bm;have Z:=bj;clear bl bi aq ax bd bg av bc bm bj)))
    have G6:=hid (F2.o.trans (F5.o.trans M.o));have YB:=hid (HY.o.fr (F5.o.trans M.o) (by simp));have e6:Y.cell? ⟨wr.heap.size,6,none⟩=some (.int .i64 e.til):=(E5.o.fr M.o (by simp)).cell 6;cases bb with
    | false=>
     have HJ:=hid (show BecJ base y (zah s e) wr Y from by
      rw[EX.o];exact⟨P1,p1,P2,p2,P3,p3,YB.o,HI.o.fr (F5.o.trans M.o),HC.o.trans (F5.o.trans M.o)⟩)
     clear y1 y2 y3 y4 y5 x1 U x3 V Z e6 h0 h1 T;go_upto_region 10 with fail;obtain⟨Q1,u1,Q2,u2,Q3,u3,J,I,D⟩:=HJ.o;have YJ:=hid J;have IJ:=hid I;have FJ:=hid D;clear J I D;generalize zah s e=X at *;obtain⟨a7,L,K,H⟩:=HO.o.go FJ.o;have t:=hid (show Y.ownsRow N.heap.size 124 10 (.slice Ao k co) k a7.flatten from by have:=H;rw[LT.o] at this;exact this);have a3:=hid L;have a5:=hid K;have a4:=hid (z0l (World.ownsRow_lit (base:=Y.heap.size) (e:=124) (size:=10) Y (ySa X Q1 u1 Q2 u2 Q3 u3) 1 (Xb _) (by decide) rfl));have be:N.heap.size≤Y.heap.size:=Xd HF.o.size FJ.o.size;clear L K H;obtain⟨j0,j1,j2,j3,j4,j5,j6,j7,j8,j9⟩:=ten YJ.o;go_wp2_with (at_builtin;refine z0c _ rfl _ _ 39 rfl N.heap.size 124 i0 _ 10 144 underlying39 hi hz0 hz1 hz2 rfl (by decide) _ _ _ rfl (t.o.alloc _) _ _ 1 _ rfl a4.o (zbk X Q1 Q2 Q3 u1 u2 u3) ?c1 ?c2 ?c3 ?_)
     case c1=>unfold maxLen;omega
     case c2=>omega
     case c3=>first|omega|(simp;omega)
     intro v9 w9 r f G;have a1:=hid r;have a6:=hid f;obtain⟨A9,c9,rfl,-⟩:=z05 r;have C:=(Fr.refl [] Y).alloc (.cells (ySa X Q1 u1 Q2 u2 Q3 u3) 124);have OA:=hid (z08 t.o C (by simp));have F9:=hid (((HF.o.trans FJ.o).trans C).grown f (fun j hj=>.inr (t.o.lt j hj).1))
     have a2:=hid (show z7g w9 base N.heap.size (.slice A9 (k+1) c9) ((l.take (k+1)).map (zah s)) from by
      rw[ET.o];have ff:=z1u a6.o;refine z7g.snoc a3.o (fun i x A=>?_) ((IJ.o.fr C).row OA.o z5n ff) (by rw[LT.o];exact a1.o);obtain⟨d,h3,h4⟩:=a5.o i x A;exact⟨d,h3,(h4.fr C).row OA.o z5n ff⟩)
     clear r f G j0 j1 j2 j3 j4 j5 j6 j7 j8 j9 C;go_wp2;go_roundg (l.length - (k+1))
     case measure=>omega
     case rel=>exact⟨k+1,rfl,by omega,by go_num,a2.o,F9.o⟩
    | true=>
     have K6:=hid (HK.o.go G6.o);have A:=HX.o;obtain⟨sg,c0,bu⟩:=z9c K6.o.sl.choose_spec.2 (show 0 < s.slots.length by omega);cases bu;obtain⟨rs,ak,ay⟩:=K6.o.sl;obtain⟨cs,az,bx⟩:=ak.at_ R x A;obtain⟨⟨X1,z1,X2,z2,X3,z3,rfl,t1,t2,t3⟩,c5⟩:=bx;obtain⟨pa,pf,pb,pc,pd⟩:=z8f ay;have au:=zfh ak;have m:∀j v,j < 10→(z3d x X1 z1 X2 z2 X3 z3)[j]? = some v→Y.cell? ⟨sg,R * 10+j,none⟩=some v:=fun j v hj hv=>pa _ v (by rw[z3q 10 rs R j _ au az hj];exact hv);have r0:=m 0 _ (by decide) rfl;have r1:=m 1 _ (by decide) rfl;have r2:=m 2 _ (by decide) rfl;have r3:=m 3 _ (by decide) rfl;have r4:=m 4 _ (by decide) rfl;have r5:=m 5 _ (by decide) rfl;have r6:=m 6 _ (by decide) rfl;have r7:=m 7 _ (by decide) rfl;have r8:=m 8 _ (by decide) rfl;have r9:=m 9 _ (by decide) rfl;rw[Ye] at r0;have T1:=hid t1;have T2:=hid t2;have T3:=hid t3;have g0:Y.cell? ⟨kb,0,none⟩=some (.slice (some ⟨sg,0,none⟩) s.slots.length sc):=K6.o.k.cell 0;obtain⟨b0,b1,bq,b3,b4,b5,b6,b7,b8,b9⟩:=ten YB.o;obtain⟨q0,q1,q2,q3,q4,q5,q6,q7,q8,q9⟩:=tenF YB.o;have ce:¬wr.heap.size=y:=by have:=ag.o;omega
     have cc:¬y=wr.heap.size:=by have:=ag.o;omega
     unfold maxLen at pd;clear A ak ay az t1 t2 t3 c5 pa pf m au y1 y2 y3 y4 y5 x1 U x3 V Z;obtain⟨O,am⟩:∃O,O=(((((((((((Y.setCell ⟨y,0,none⟩ (.string x.key)).setCell ⟨y,1,none⟩ (.bool x.cold)).setCell ⟨y,2,none⟩ (.int .i64 x.item.kind)).setCell ⟨y,3,none⟩ (.string x.item.text)).setCell ⟨y,4,none⟩ (.slice X1 x.item.list.length z1)).setCell ⟨y,5,none⟩ (.slice X2 x.item.pairs.length z2)).setCell ⟨y,6,none⟩ (.slice X3 x.item.scores.length z3)).setCell ⟨y,7,none⟩ (.int .i64 x.seg)).setCell ⟨y,8,none⟩ (.int .i64 x.rcd)).setCell ⟨y,9,none⟩ (.int .i64 x.til)).setCell ⟨y,9,none⟩ (.int .i64 e.til)):=⟨_,rfl⟩
     have HJ:=hid (show BecJ base y (zah s e) wr O from by
      rw[am,EX.o];show BecJ base y { x with til:=e.til } wr (zcc Y y 0 [(0,.string x.key),(1,.bool x.cold),(2,.int .i64 x.item.kind),(3,.string x.item.text),(4,.slice X1 x.item.list.length z1),(5,.slice X2 x.item.pairs.length z2),(6,.slice X3 x.item.scores.length z3),(7,.int .i64 x.seg),(8,.int .i64 x.rcd),(9,.int .i64 x.til),(9,.int .i64 e.til)]);have fr:=z87 (g:=y) (o:=0) [(0,.string x.key),(1,.bool x.cold),(2,.int .i64 x.item.kind),(3,.string x.item.text),(4,.slice X1 x.item.list.length z1),(5,.slice X2 x.item.pairs.length z2),(6,.slice X3 x.item.scores.length z3),(7,.int .i64 x.seg),(8,.int .i64 x.rcd),(9,.int .i64 x.til),(9,.int .i64 e.til)] Y
      have nb:∀ {E base size n:Nat} {v:Value} {xs:List Value},124≠E→Y.ownsRow base E size v n xs→∀k,v.ownBlock=some k→k∉[y]:=fun hE ho k hk hm=>by
       have:k=y:=by simpa using hm
       exact z0u ho YB.o hE (by rw[hk,this])
      exact⟨X1,z1,X2,z2,X3,z3,za9 _ YB.o,⟨X1,z1,X2,z2,X3,z3,rfl,z08 T1.o fr (nb (by decide) T1.o),z08 T2.o fr (nb (by decide) T2.o),z08 T3.o fr (nb (by decide) T3.o)⟩,((((HC.o.trans (F5.o.trans M.o)).toB wr.heap.size).trans ((fr.toB wr.heap.size).more (fun k hk=>.inr (by simp at hk;have:=ag.o;omega)))).fr (Xb _))⟩)
     have ap:=hid am;clear am;go_upto_region 10 with fail;rw[←ap.o];clear ap h0 h1 T e6 r0 r1 r2 r3 r4 r5 r6 r7 r8 r9 g0 b0 b1 bq b3 b4 b5 b6 b7 b8 b9 q0 q1 q2 q3 q4 q5 q6 q7 q8 q9;obtain⟨Q1,u1,Q2,u2,Q3,u3,J,I,D⟩:=HJ.o;have YJ:=hid J;have IJ:=hid I;have FJ:=hid D;clear J I D;generalize zah s e=X at *;obtain⟨a7,L,K,H⟩:=HO.o.go FJ.o;have t:=hid (show O.ownsRow N.heap.size 124 10 (.slice Ao k co) k a7.flatten from by have:=H;rw[LT.o] at this;exact this);have a3:=hid L;have a5:=hid K;have a4:=hid (z0l (World.ownsRow_lit (base:=O.heap.size) (e:=124) (size:=10) O (ySa X Q1 u1 Q2 u2 Q3 u3) 1 (Xb _) (by decide) rfl));have be:N.heap.size≤O.heap.size:=Xd HF.o.size FJ.o.size;clear L K H;obtain⟨j0,j1,j2,j3,j4,j5,j6,j7,j8,j9⟩:=ten YJ.o;go_wp2_with (at_builtin;refine z0c _ rfl _ _ 39 rfl N.heap.size 124 i0 _ 10 144 underlying39 hi hz0 hz1 hz2 rfl (by decide) _ _ _ rfl (t.o.alloc _) _ _ 1 _ rfl a4.o (zbk X Q1 Q2 Q3 u1 u2 u3) ?c1 ?c2 ?c3 ?_)
     case c1=>unfold maxLen;omega
     case c2=>omega
     case c3=>first|omega|(simp;omega)
     intro v9 w9 r f G;have a1:=hid r;have a6:=hid f;obtain⟨A9,c9,rfl,-⟩:=z05 r;have C:=(Fr.refl [] O).alloc (.cells (ySa X Q1 u1 Q2 u2 Q3 u3) 124);have OA:=hid (z08 t.o C (by simp));have F9:=hid (((HF.o.trans FJ.o).trans C).grown f (fun j hj=>.inr (t.o.lt j hj).1))
     have a2:=hid (show z7g w9 base N.heap.size (.slice A9 (k+1) c9) ((l.take (k+1)).map (zah s)) from by
      rw[ET.o];have ff:=z1u a6.o;refine z7g.snoc a3.o (fun i x A=>?_) ((IJ.o.fr C).row OA.o z5n ff) (by rw[LT.o];exact a1.o);obtain⟨d,h3,h4⟩:=a5.o i x A;exact⟨d,h3,(h4.fr C).row OA.o z5n ff⟩)
     clear r f G j0 j1 j2 j3 j4 j5 j6 j7 j8 j9 C;go_wp2;go_roundg (l.length - (k+1))
     case measure=>omega
     case rel=>exact⟨k+1,rfl,by omega,by go_num,a2.o,F9.o⟩
  ·obtain rfl:k=l.length:=by omega
   rw[Ym] at HO;have KR:=hid (HK.o.go (F1.o.trans HF.o));obtain⟨k0,k1⟩:=two KR.o.k;obtain⟨g0,g1⟩:=zo1 KR.o.k;have c6:=F1.o.size;go_wp2
   (first|refine bodyPost_end (v:=.tuple #[]) (by simp[results,results141,go_sem]) rfl ?_|refine Xg (v:=.tuple #[]) (by simp[results,results141,go_sem]) rfl ?_)
   exact⟨rfl,((F1.o.trans HF.o).more (by simp)).setCell (p:=⟨kb,0,none⟩) (.inl (by simp)) _,_,_,KR.o.k.set_ 0 _,(((HO.o.o (Xd hb c6)).i).far (i:=0) KR.o.k ⟨by decide,by decide⟩ _).o.v,(KR.o.sg.far (i:=0) KR.o.k ⟨by decide,by decide⟩ _).o.v⟩
end
end Go.Proofs.YtnmoajaelmimnaaGreatDoor
