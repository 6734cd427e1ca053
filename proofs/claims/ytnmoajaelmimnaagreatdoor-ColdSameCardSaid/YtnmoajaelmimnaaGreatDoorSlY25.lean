/- Contracts; no condition but each theorem's own. -/
import Derived.Test.YtnmoajaelmimnaaGreatDoorSlY24
set_option linter.unusedVariables false
set_option linter.unusedSimpArgs false
set_option maxHeartbeats 8000000
set_option maxRecDepth 100000
namespace Go.Proofs.YtnmoajaelmimnaaGreatDoor
open Go.Proofs.Tryz
section
open Go.RowKit
def Kq(w:World)(kb:Nat)(s:Sto):Prop:=∃a b,Whole w kb 115 [a,b]∧z6d w w.heap.size a s.slots∧z5g w w.heap.size b s.segs
theorem Kp.q{w:World}{base kb:Nat}{s:Sto}(h:Kp w base kb s):Kq w kb s:=by
 obtain⟨mid,a,b,h⟩:=h;exact⟨a,b,h.k,h.sl.o.v,h.sg.o.v⟩
def KqP(base kb:Nat)(c:Int)(t:Sto)(w:World)(e:Ending)(w':World):Prop:=e=.returned (.int .i64 c)∧FrB [] base w w'∧w.heap.size≤w'.heap.size∧(c=0→Kq w' kb t)
theorem KpP.q{base kb:Nat}{c:Int}{t:Sto}{w:World}{e:Ending}{w':World}(h:KpP base kb c t w e w'):KqP base kb c t w e w':=⟨h.1,h.2.1,h.2.2.1,fun h0=>(h.2.2.2 h0).q⟩
theorem zq1{s:Sto}{k:YY}{e:Int}(h:z4j s k true=(none,e)):z70 s k=(noS,e):=by unfold z70;rw[h]
theorem zls{s:Sto}{k:YY}{i:Nat}{x:Slt}{e:Int}(h:z4j s k true=(some (i,x),e)):z70 s k=(⟨s.slots.set i (q4w s.segs x),s.segs⟩,0):=by unfold z70;rw[h]
theorem zv3(s)(base mid kb:Nat)(a b)(key:YY)(w:World)(ok:z6e s)(hsm:s.Small)(hb:base≤w.heap.size)(h:KpM w base mid kb a b s):
  Calls prog 78 #[.pointer (some ⟨kb,0,none⟩),.string key] w (KqP base kb (z70 s key).2 (z70 s key).1 w):=by
 have W:=hid (zkd s base mid kb a b key true w ok.rise (by have:=ok.le;omega) h);rcases hsl:z4j s key true with⟨_|⟨i,x⟩,e⟩
 ·rw[zq1 hsl];have he:=z88 hsl;have R:zg4 s key true=0:=by unfold zg4;rw[hsl]
  rw[hsl,R] at W;have q:(e != 0)=true:=by simpa using he
  clear hsl R h;go_enter func78,ntmps78;go_wp2_with fail;refine W.o.mono ?_;rintro e1 J ⟨rfl,I⟩;go_wp2;go_ret;exact⟨rfl,I.toB base,I.size,fun h0=>absurd h0 he⟩
 obtain⟨N,U,rfl,a1,-,-⟩:=z89 hsl;have R:zg4 s key true=i:=by unfold zg4;rw[hsl]
 rw[hsl,R] at W;rw[zls hsl];have EW:q4w s.segs x={ x with cold:=false,item:=z6u s.segs x,seg:=0,rcd:=0 }:=rfl;rw[EW];clear EW;generalize hy:z6u s.segs x=y;have HY:=hid hy;have ad:=(Xe.1 N).1;have E:=Xj N;have a9:=ok.le;have a0:=hid (ok.slot x E);have a5:=hid (hsm.slots x E);have a3:=hid hsm.segs;have M:=hsm.sle;have HX:=hid N;have K:=hid h;obtain⟨sg,sc,rfl⟩:=z9c h.sl.choose_spec.2 (show 0 < s.slots.length by omega);obtain⟨RA,rc,rfl⟩:=h.sg.form;clear hsl R h hsm ok E a1 hy;go_enter func78,ntmps78;go_wp2_with fail;refine W.o.mono ?_;rintro e1 J ⟨rfl,I⟩;have H:=hid (K.o.go I);have F1:=hid I;obtain⟨rs,F,P⟩:=H.o.sl;obtain⟨cs,Q,a4⟩:=F.at_ i x N;obtain⟨⟨X1,x1,X2,x2,X3,x3,rfl,t1,t2,t3⟩,a6⟩:=a4;obtain⟨pa,pf,pb,pc,pd⟩:=z8f P;have L:=zfh F;have d:∀j v,j < 10→(z3d x X1 x1 X2 x2 X3 x3)[j]? = some v→J.cell? ⟨sg,i * 10+j,none⟩=some v:=fun j v hj S=>pa _ v (by rw[z3q 10 rs i j _ L Q hj];exact S);have r0:=d 0 _ (by decide) rfl;have r1:=d 1 _ (by decide) rfl;have r2:=d 2 _ (by decide) rfl;have r3:=d 3 _ (by decide) rfl;have r4:=d 4 _ (by decide) rfl;have r5:=d 5 _ (by decide) rfl;have r6:=d 6 _ (by decide) rfl;have r7:=d 7 _ (by decide) rfl;have r8:=d 8 _ (by decide) rfl;have r9:=d 9 _ (by decide) rfl;rw[U] at r1;rw[Ye] at r0;have X:=hid (zpf s.segs kb RA rc x X1 X2 X3 x1 x2 x3 J J.heap.size a5.o a3.o M (fun hc=>(a0.o.cold hc).2) (Xb _) (H.o.k.cell 1) H.o.sg.o.v (z4a.c ⟨X1,x1,X2,x2,X3,x3,rfl,t1,t2,t3⟩));rw[U] at X;rw[HY.o] at X;obtain⟨g0,g1⟩:=two H.o.k;have ab:(0:Int)≤(i:Int):=by omega
 have ac:(i:Int) < (s.slots.length:Int):=by omega
 unfold maxLen at pd;clear N F P Q t1 t2 t3 a6 pa pf d L I;go_wp2_with fail;refine X.o.mono ?_;rintro e2 Y ⟨u,rfl,-,C,V⟩;have C:=C rfl;obtain⟨P1,p1,P2,p2,P3,Z,rfl⟩:=C.form;have HU:=hid C;have G:=hid (H.o.go V);have F2:=hid (F1.o.trans V);have hz2:=V.size;have hz1:=F1.o.size;have S2:=hid (G.o.sl.more G.o.mz);obtain⟨a2,t,r⟩:=G.o.sl;obtain⟨aa,A,⟨⟨Y1,y1,Y2,y2,Y3,y3,rfl,-⟩,-⟩⟩:=t.at_ i x HX.o;obtain⟨T,l,-⟩:=z8f r;have D:=zfh t;have f:∀j v,j < 10→(z3d x Y1 y1 Y2 y2 Y3 y3)[j]? = some v→Y.cell? ⟨sg,i * 10+j,none⟩=some v:=fun j v hj S=>T _ v (by rw[z3q 10 a2 i j _ D A hj];exact S);clear g0 g1 r0 r1 r2 r3 r4 r5 r6 r7 r8 r9 C V X;have k1:=f 1 _ (by decide) rfl;have k2:=f 2 _ (by decide) rfl;have k3:=f 3 _ (by decide) rfl;have k4:=f 4 _ (by decide) rfl;have k5:=f 5 _ (by decide) rfl;have k6:=f 6 _ (by decide) rfl;have k7:=f 7 _ (by decide) rfl;have k8:=f 8 _ (by decide) rfl;have z1:=l (i * 10+1);have z2:=l (i * 10+2);have z3:=l (i * 10+3);have z4:=l (i * 10+4);have z5:=l (i * 10+5);have z6:=l (i * 10+6);have z7:=l (i * 10+7);have z8:=l (i * 10+8);have a7:kb≠sg:=fun e=>z0u r G.o.k (by decide) (by rw[e];rfl);clear f l T t A D;have B:=hid r;clear r;go_wp2;go_ret;show KqP base kb 0 _ w _ (zcc Y sg (i * 10) [(2,.int .i64 y.kind),(3,.string y.text),(4,.slice P1 y.list.length p1),(5,.slice P2 y.pairs.length p2),(6,.slice P3 y.scores.length Z),(1,.bool false),(7,.int .i64 0),(8,.int .i64 0)])
 have O:=z2b.put (y:={ x with cold:=false,item:=y,seg:=0,rcd:=0 }) S2.o HX.o [(2,.int .i64 y.kind),(3,.string y.text),(4,.slice P1 y.list.length p1),(5,.slice P2 y.pairs.length p2),(6,.slice P3 y.scores.length Z),(1,.bool false),(7,.int .i64 0),(8,.int .i64 0)] (fun p hp=>by
  simp at hp;rcases hp with rfl|rfl|rfl|rfl|rfl|rfl|rfl|rfl <;> simp) (fun w' cs hf hI=>by
  obtain⟨⟨B1,d1,B2,d2,B3,d3,rfl,-⟩,hb⟩:=hI;obtain⟨v1,v2,v3,S,o1,o2,o3⟩:=HU.o;cases S;have a8:base≤J.heap.size:=by omega
  have keep:∀ {e size n:Nat} {v:Value} {xs:List Value},Y.ownsRow J.heap.size e size v n xs→w'.ownsRow base e size v n xs:=fun ho=>z0i (z08 ho hf (fun k m hm=>by
   have hm:k=sg:=by simpa using hm
   rw[hm] at m;have h1:=(ho.lt _ m).1;have h3:=(H.o.sl.choose_spec.2.lt sg rfl).2;omega)) a8
  refine⟨⟨_,_,_,_,_,_,rfl,keep o1,keep o2,keep o3⟩,fun u C k m=>?_⟩;simp only[zd6,z3d,Xn,Xm,Yh,List.not_mem_nil,or_false] at C;rcases C with rfl|rfl|rfl|rfl|rfl|rfl|rfl|rfl|rfl|rfl
  ·cases m
  ·cases m
  ·cases m
  ·cases m
  ·exact z7w o1 m
  ·exact z7w o2 m
  ·exact z7w o3 m
  ·cases m
  ·cases m
  ·cases m)
 have z:=z87 (g:=sg) (o:=i * 10) [(2,.int .i64 y.kind),(3,.string y.text),(4,.slice P1 y.list.length p1),(5,.slice P2 y.pairs.length p2),(6,.slice P3 y.scores.length Z),(1,.bool false),(7,.int .i64 0),(8,.int .i64 0)] Y;have hG:=G.o.sg.row B.o ⟨by decide,by decide⟩ z;rw[Ug] at O;have pb:base≤sg:=(B.o.lt sg rfl).1;exact⟨rfl,(F2.o.toB base).trans ((z.toB base).more (fun k m=>.inr (by simp at m;subst m;exact pb))),Xd hz1 (Xd hz2 z.size),fun _=>⟨_,_,G.o.k.fr z (by simpa using a7),O.o.v,hG.o.v⟩⟩
theorem zum:∀ {l:List Ent} {p:Option YY},(∀e∈l,e.key.size≤60∧z0a e.item=0∧(0≤e.til∧e.til≤1000000))→rises (ltK Ent.key) l=true→(∀e,l[0]? = some e→z2v p e.key=false)→zse p l=0
 | [],p,_,_,_=>rfl
 | e :: l,p,h,hr,h0=>by
  obtain⟨h1,h2,h3⟩:=h e (by simp);have h4:=h0 e rfl
  have hc:z3o p e=0:=by
   have d:z30 e.til=true:=by unfold z30;rw[Xi h3.1,Xi h3.2];rfl
   unfold z3o;rw[Xc (by omega),Xc (by simpa using h2),Xc (by rw[d];decide),Xc (by rw[h4];decide)]
  unfold zse;rw[Xc (by simpa using hc)];refine zum (fun x b=>h x (by simp[b])) ?_ ?_
  ·cases l with
   | nil=>rfl
   | cons y l=>
    have a:(ltK Ent.key e y&&rises (ltK Ent.key) (y :: l))=true:=hr;rw[Yf] at a;exact a.2
  ·intro x b;cases l with
   | nil=>simp at b
   | cons y l=>
    simp at b;subst b;have a:(ltK Ent.key e y&&rises (ltK Ent.key) (y :: l))=true:=hr;rw[Yf] at a;have:ltS e.key y.key=true:=a.1;show(!ltS e.key y.key)=false;rw[this];rfl
theorem zwx{l:List Ent}(h:z22 l):z1z l=0:=by
 unfold z1z;rw[Xc (by have:=h.le;omega)];exact zum (fun e a=>⟨h.keys e a,h.items e a,h.times e a⟩) h.rise (fun e _=>rfl)
theorem zaa{l:List Ent}(h:z22 l)(q:Ent→Bool):z22 (l.filter q):=
 ⟨Xd (Xv _ _) h.le,fun e he=>h.keys e (Yj.1 he).1,fun e he=>h.items e (Yj.1 he).1,fun e he=>h.times e (Yj.1 he).1,z34 ((z2u (z3r Ent.key) h.rise).filter _)⟩
theorem zzc{l:List Ent}{e:Ent}(h:z4o Ent.key l e.key=false):zr1 l e=zd3 Ent.key l e:=by
 unfold zr1 zd3 zk7;rw[Xc (by rw[h];decide)]
theorem zvr{l:List Ent}(hr:rises (ltK Ent.key) l=true)(s):z4o Ent.key (z5q l s) s=false:=by
 rcases h:z4o Ent.key (z5q l s) s with _|_
 ·rfl
 ·obtain⟨q,d,b⟩:=(z2s Ent.key).1 h;have a:=(Yj.1 (Xj d)).2;rw[b] at a;simp at a
theorem zk8{l:List Ent}(hr:rises (ltK Ent.key) l=true)(s)(x)(u:Int):rises (ltK Ent.key) (zr1 (z5q l s) ⟨s,x,u⟩)=true:=by
 rw[zzc (by exact zvr hr s)];exact zgr Ent.key _ (zvu hr s)
theorem zru{l:List Ent}(hr:rises (ltK Ent.key) l=true)(now:Int)(s)(x)(u:Int):rises (ltK Ent.key) (zrt l now s x u)=true:=by
 unfold zrt;split
 ·exact z34 ((z2u (z3r Ent.key) (zk8 hr s x u)).filter _)
 ·exact zk8 hr s x u
theorem zeq{x:Itm}(h:z0v x=true):x=z2q 0:=by
 rw[zko] at h;simp at h;obtain⟨d,e,h3⟩:=h;unfold many at h3;obtain⟨k,t,a,b,c⟩:=x;simp at d e h3;obtain⟨⟨rfl,rfl⟩,rfl⟩:=h3;subst d;unfold z2q;congr
theorem z44:z0v (z2q 0)=true:=by decide
theorem q3z:∀n,n < 3→∀i:Nat,i < 11→(⟨0,none,false,n⟩:Shp).num i=decide ((0:Int)≤Lib.indexByte (zhx n).data.toList ((48+(i:Int)).toNat.toUInt8)):=by decide
theorem q40{n:Nat}(h:3≤n):zhx n=⟨#[112]⟩:=by
 match n,h with
 | n+3,_=>rfl
theorem num_p{l:Nat}{m:Option Nat}{p:Bool}{n:Nat}(h:3≤n)(i:Nat):(⟨l,m,p,n⟩:Shp).num i=decide (i % 2=1):=by
 match n,h with
 | n+3,_=>rfl
theorem zwr(sh:Shp)(i:Nat)(hi:i≤10)(w):Calls prog 70 #[shpV sh,.int .i64 i] w fun e w'=>e=.returned (.bool (sh.num i))∧Fr [] w w':=by
 obtain⟨b,d,a,nums⟩:=sh;show Calls prog 70 #[.agg #[.int .i64 (b:Int),.int .i64 (zre d),.bool a,.string (zhx nums)],.int .i64 i] w _;generalize zre d=M;generalize (b:Int)=L;by_cases hp:3≤nums
 ·rw[q40 hp,num_p hp];have g:=hid ((Fr.refl [] w).alloc (.cells #[.int .i64 L,.int .i64 M,.bool a,.string ⟨#[112]⟩] 109));clear hp;go_enter func70,ntmps70;go_wp2;go_ret;refine⟨?_,g.o⟩;clear g;have h:i=0∨i=1∨i=2∨i=3∨i=4∨i=5∨i=6∨i=7∨i=8∨i=9∨i=10:=by omega
  rcases h with rfl|rfl|rfl|rfl|rfl|rfl|rfl|rfl|rfl|rfl|rfl <;> rfl
 ·have k:(⟨b,d,a,nums⟩:Shp).num i=(⟨0,none,false,nums⟩:Shp).num i:=rfl;have j:=q3z nums (by omega) i (by omega);rw[k]
  have f:(zhx nums).data.toList≠[112]:=by
   have:nums=0∨nums=1∨nums=2:=by omega
   rcases this with rfl|rfl|rfl <;> decide
  have m:=z7t f;have g:=hid ((Fr.refl [] w).alloc (.cells #[.int .i64 L,.int .i64 M,.bool a,.string (zhx nums)] 109));have n:=hid (fun W=>Tryz.strings_IndexByte (zhx nums) (48+(i:Int)) W);rw[j];clear j k f hp;generalize zhx nums=p at *;have t:(48+(i:Int)) < 256:=by omega
  generalize Lib.indexByte p.data.toList ((48+(i:Int)).toNat.toUInt8)=l at *;go_enter func70,ntmps70;go_wp2_with fail;refine(n.o _).mono ?_;rintro s r ⟨rfl,rfl⟩;go_wp2;go_ret;exact⟨rfl,g.o⟩
def zit(k:Int)(t:YY)(n:Int)(w:World)(e:Ending)(w':World):Prop:=e=.returned (.agg #[.int .i64 k,.string t,.int .i64 n,.slice none 0 0])∧Fr [] w w'
theorem z3v{a b:World}{o:Obj}(h:Fr [] (a.alloc o) b):Fr [] a b:=((Fr.refl [] a).alloc o).trans h
def orR(r:Rep)(c:Int)(b:Bool):Rep:=if c=0 then r else if c=5∧b=true then zhv else z8t c
def orV(v:Value)(c:Int)(b:Bool):Value:=if c=0 then v else if c=5∧b=true then .agg #[.int .i64 5,.string ⟨#[]⟩,.int .i64 0,.slice none 0 0] else .agg #[.int .i64 2,.string ⟨#[]⟩,.int .i64 c,.slice none 0 0]
theorem zc2{w:World}{base:Nat}{v:Value}{r:Rep}(h:z1i w base v r)(c:Int)(b:Bool):z1i w base (orV v c b) (orR r c b):=by
 unfold orV orR;split
 ·exact h
 ·split
  ·exact z1i.bare _ _ _ _ _
  ·exact z1i.bare _ _ _ _ _
theorem q7i{w:World}{g t:Nat}{a b c d:Value}(h:Whole w g t [a,b,c,d])(x y z u):Whole (set4 w g x y z u) g t [x,y,z,u]:=Whole.set_ (Whole.set_ (Whole.set_ (Whole.set_ h 0 _) 1 _) 2 _) 3 _
theorem z1c(n:Int)(w):Calls prog 197 #[.int .i64 n] w (zit 3 ⟨#[]⟩ n w):=by
 obtain⟨a,b,e,d⟩:=four (show Whole (w.alloc (.cells #[.int .i64 3,.string ⟨#[]⟩,.int .i64 n,.slice none 0 0] 27)) w.heap.size 27 [.int .i64 3,.string ⟨#[]⟩,.int .i64 n,.slice none 0 0] from Whole.new w _ _);go_enter func197,ntmps197;go_wp2;refine Xg (v:=.agg #[.int .i64 3,.string ⟨#[]⟩,.int .i64 n,.slice none 0 0]) (by simp[results,results197,go_sem,a,b,e,d]) rfl ⟨rfl,(Fr.refl [] w).alloc _⟩
theorem zdm(t)(w):Calls prog 152 #[.string t] w (zit 1 t 0 w):=by
 obtain⟨a,b,e,d⟩:=four (show Whole (w.alloc (.cells #[.int .i64 1,.string t,.int .i64 0,.slice none 0 0] 27)) w.heap.size 27 [.int .i64 1,.string t,.int .i64 0,.slice none 0 0] from Whole.new w _ _);go_enter func152,ntmps152;go_wp2;refine Xg (v:=.agg #[.int .i64 1,.string t,.int .i64 0,.slice none 0 0]) (by simp[results,results152,go_sem,a,b,e,d]) rfl ⟨rfl,(Fr.refl [] w).alloc _⟩
theorem zak(t)(w):Calls prog 192 #[.string t] w (zit 4 t 0 w):=by
 obtain⟨a,b,e,d⟩:=four (show Whole (w.alloc (.cells #[.int .i64 4,.string t,.int .i64 0,.slice none 0 0] 27)) w.heap.size 27 [.int .i64 4,.string t,.int .i64 0,.slice none 0 0] from Whole.new w _ _);go_enter func192,ntmps192;go_wp2;refine Xg (v:=.agg #[.int .i64 4,.string t,.int .i64 0,.slice none 0 0]) (by simp[results,results192,go_sem,a,b,e,d]) rfl ⟨rfl,(Fr.refl [] w).alloc _⟩
theorem zbv(n:Int)(w):Calls prog 98 #[.int .i64 n] w (zit 2 ⟨#[]⟩ n w):=by
 obtain⟨a,b,e,d⟩:=four (show Whole (w.alloc (.cells #[.int .i64 2,.string ⟨#[]⟩,.int .i64 n,.slice none 0 0] 27)) w.heap.size 27 [.int .i64 2,.string ⟨#[]⟩,.int .i64 n,.slice none 0 0] from Whole.new w _ _);go_enter func98,ntmps98;go_wp2;refine Xg (v:=.agg #[.int .i64 2,.string ⟨#[]⟩,.int .i64 n,.slice none 0 0]) (by simp[results,results98,go_sem,a,b,e,d]) rfl ⟨rfl,(Fr.refl [] w).alloc _⟩
theorem z6l(r)(v)(c:Int)(b:Bool)(base:Nat)(w)(h:z1i w base v r):Calls prog 191 #[v,.int .i64 c,.bool b] w fun e w'=>e=.returned (orV v c b)∧Fr [] w w':=by
 obtain⟨A,k,rfl⟩:=h.form;have E:=hid (show orV (.agg (yRa r A k)) c b=if c=0 then (.agg (yRa r A k)) else if c=5∧b=true then .agg #[.int .i64 5,.string ⟨#[]⟩,.int .i64 0,.slice none 0 0] else .agg #[.int .i64 2,.string ⟨#[]⟩,.int .i64 c,.slice none 0 0] from rfl);have j:=hid (fun o=>(((Fr.refl [] w).alloc (.cells (yRa r A k) 27)).alloc o));clear h;by_cases h0:c=0
 ·subst h0;rw[E.o,Xf rfl];obtain⟨l,d,m,f⟩:=four (z8e w (.cells (yRa r A k) 27) 27 (yRl r A k));go_enter func191,ntmps191;go_wp2;refine Xg (v:=.agg (yRa r A k)) (by simp[results,results191,go_sem,l,d,m,f]) rfl ?_;exact⟨rfl,j.o _⟩
 ·have t:(c==0)=false:=by simpa using h0
  by_cases h5:c=5∧b=true
  ·obtain⟨rfl,rfl⟩:=h5;rw[E.o,Xc (by decide),Xf ⟨rfl,rfl⟩];clear h0 t;obtain⟨l,d,m,f⟩:=four (z8e w (.cells (yRa r A k) 27) 27 [.int .i64 5,.string ⟨#[]⟩,.int .i64 0,.slice none 0 0]);go_enter func191,ntmps191;go_wp2;refine Xg (v:=.agg #[.int .i64 5,.string ⟨#[]⟩,.int .i64 0,.slice none 0 0]) (by simp[results,results191,go_sem,l,d,m,f]) rfl ?_;exact⟨rfl,j.o _⟩
  ·rw[E.o,Xc h0,Xc h5];have y:=hid (z8e w (.cells (yRa r A k) 27) 27 yRzl);have x:=hid (j.o (.cells yRza 27));have s:=hid (fun W=>zbv c W)
   have p:((c==5)&&b)=false:=by
    rcases b with _|_
    ·simp
    ·simp only[Bool.and_true];have:¬c=5:=fun h=>h5 ⟨h,rfl⟩;simpa using this
   clear h5 h0 E;have u:=hid p;clear p;rcases hb:(c==5) with _|_;have a:=hid trivial
   all_goals
    first
    | (guard_hyp a
       skip)
    | (obtain rfl:b=false:=by
        have:=u.o;rw[hb] at this;simpa using this)
    go_enter func191,ntmps191;go_wp2_with fail;refine(s.o _).mono ?_;rintro L G ⟨rfl,g⟩;have B:=hid (x.o.trans g);have n:=hid (y.o.f0 g);clear g;obtain⟨C,D,F,z⟩:=four n.o;obtain⟨J,H,K,I⟩:=z1p n.o;go_wp2;refine Xg (v:=.agg #[.int .i64 2,.string ⟨#[]⟩,.int .i64 c,.slice none 0 0]) (by simp[results,results191,go_sem,C,D,F,z]) rfl ?_;exact⟨rfl,z2d B.o (by simp) _ _ _ _⟩
theorem FrB.low{S:List Nat}{B B':Nat}{a b:World}(h:FrB S B a b)(hb:B'≤B):FrB S B' a b:=⟨h.os,h.tape,h.output,h.size,fun k h1 h2 h3=>h.block k h1 (by omega) h3⟩
theorem StI.later{w:World}{base:Nat}{v:Value}{s:Sto}(h:StI w base v s){p:Addr}(hp:p.block < base)(u):StI (w.setCell p u) base v s:=by
 obtain⟨mid,a,b,rfl,e,d,f⟩:=h;exact⟨mid,a,b,rfl,e,d.later hp u,f.later (by omega) u⟩
theorem q0n{t:YY}(h:z1n t=0):t.size≤281474976710656:=by
 obtain⟨b,a⟩:=q1g h;have h3:=zyw (z2t b);unfold zap at a;rw[Xf b] at a;rw[←a];exact h3
theorem z1k{t:Sto}(h:z6e t):t.Small:=by
 refine⟨fun e m=>?_,by have:=h.le;omega,fun l f=>⟨by have:=h.rle l f;omega,fun r hr=>q0n (h.recs l f r hr)⟩,by have:=h.sle;omega⟩;have a:=h.slot e m;have s:=a.til;have g:=a.key;cases hc:e.cold with
 | false=>
  obtain⟨d,b,h3⟩:=a.hot hc;exact⟨by omega,z4x (z2t d),by rw[b];decide,by rw[h3];decide,by omega⟩
 | true=>
  obtain⟨d,b⟩:=a.cold hc;obtain⟨i,j,l,r,k,n,h3,h4,-⟩:=z9l b;have hi:=(Xe.1 h3).1;have p:=(Xe.1 h4).1;have:=h.sle;have:=h.rle l (Xj h3);exact⟨by omega,by rw[zeq d];exact z12 0 (by omega),by rw[k];omega,by rw[n];omega,by omega⟩
theorem z2b.base{w:World}{base base' mid:Nat}{v:Value}{l:List Slt}(h:z2b w base mid v l)(hb:base'≤base):z2b w base' mid v l:=by
 obtain⟨b,a,d⟩:=h;exact⟨b,a.imp fun _ _ h=>h.base hb,z0i d hb⟩
theorem StI.mid{w:World}{base base':Nat}{v:Value}{s:Sto}(h:StI w base v s)(hb:base'≤base)(hz:base'≤w.heap.size):∃mid a b,v=.agg #[a,b]∧base'≤mid∧mid≤w.heap.size∧z2b w base' mid a s.slots∧z71 w mid b s.segs:=by
 obtain⟨mid,a,b,rfl,f,d,e⟩:=h;rcases Nat.le_total mid w.heap.size with hl|hl
 ·exact⟨mid,a,b,rfl,by omega,hl,d.base hb,e⟩
 ·exact⟨w.heap.size,a,b,rfl,hz,Xb _,((d.base hb).o).i,e.base hl⟩
theorem StI.v{w:World}{base:Nat}{v:Value}{s:Sto}(h:StI w base v s):z5p w w.heap.size v s:=by
 obtain⟨mid,a,b,rfl,f,d,e⟩:=h;exact⟨a,b,rfl,d.o.v,e.o.v⟩
theorem StI.less{w:World}{base base':Nat}{v:Value}{s:Sto}(h:StI w base v s)(hb:base'≤base):StI w base' v s:=by
 obtain⟨mid,a,b,rfl,f,d,e⟩:=h;exact⟨mid,a,b,rfl,by omega,d.base hb,e⟩
theorem StI.nil(w)(base:Nat):StI w base (.agg #[.slice none 0 0,.slice none 0 0]) noS:=⟨base,_,_,rfl,Xb _,z2b.nil _ _ _,z71.nil _ _⟩
theorem StI.form{w:World}{base:Nat}{v:Value}{s:Sto}(h:StI w base v s):∃A c A' c',v=.agg #[.slice A s.slots.length c,.slice A' s.segs.length c']:=by
 obtain⟨mid,a,b,rfl,f,d,e⟩:=h;obtain⟨A,c,rfl⟩:=d.form;obtain⟨A',c',rfl⟩:=e.form;exact⟨_,_,_,_,rfl⟩
def CloP(ex:List Nat)(base kb:Nat)(c:Int)(t:Sto)(R:World→Prop)(w:World)(e:Ending)(w':World):Prop:=
 e=.returned (.int .i64 c)∧FrB ex base w w'∧(c=0→Kq w' kb t)∧R w'
def CloF(g:Nat)(lb:Array Value)(ex:List Nat)(s:Sto)(c:Int)(t:Sto)(R:World→Prop)(w:World):Prop:=
 ∀(W:World) (base mid kb:Nat) (a b:Value),w.heap.size≤base→base≤W.heap.size→Fr [] w W→KpM W base mid kb a b s→Calls prog g (#[.pointer (some ⟨kb,0,none⟩)]++lb) W (CloP ex base kb c t R W)
def q4z(ex:List Nat)(c:Int)(t:Sto)(p:Prop)(R:World→Prop)(w:World)(e:Ending)(w':World):Prop:=
 ∃u,e=.returned (.tuple #[u,.int .i64 c])∧StI w' w.heap.size u t∧Fr ex w w'∧(p→R w')∧(¬p→Fr [] w w')
theorem q77:(∀(s:Sto) (v) (w:World) (B:Nat) (hs:s.Small) (hB:B≤w.heap.size) (h:z5p w B v s),Calls prog 14 #[v] w (VwP s w))∧(∀(g:Nat) (lb:Array Value) (eg:∀args w,(callFunc g args).run prog w=.ok (.enter g args) w) (s:Sto) (v) (c:Int) (t) (ex:List Nat) (R:World→Prop) (w:World) (B:Nat) (hs:s.Small) (hB:B≤w.heap.size) (h:z5p w B v s) (hf:z6e s→CloF g lb ex s c t R w)
  (hc0:c≠0→t=noS) (hok:z6e s→c=0→z6e t) (hR:∀W W',FrB [] w.heap.size W W'→R W→R W') (hex:∀k,k∈ex→k < w.heap.size),Calls prog 74 #[v,.func (Fn.func g) #[] lb] w (q4z ex (if z0q s=0 then c else z0q s) (if z0q s=0 then t else noS) (z0q s=0) R w)):=by
 refine⟨?_,?_⟩;have y:=hid trivial
 rotate_left
 have ab:=hid trivial
 all_goals
  first
  | (guard_hyp y
     intro s v w B hs hB h)
  | (intro g lb eg s v c t ex R w B hs hB h hf hc0 hok hR hex)
  have CK:=hid (fun W (hW:Fr [] w W)=>z7h s v W B hs (Xd hB hW.size) (h.fr hW hB (by simp)));have OW:=hid (fun(ok:z6e s) W (hW:Fr [] w W)=>z9k s v W B hs (z9j ok) (Xd hB hW.size) (h.fr hW hB (by simp)));obtain⟨a,b,rfl,h1,h2⟩:=h;obtain⟨SA,sc,rfl⟩:=h1.form;obtain⟨RA,rc,rfl⟩:=h2.form
  first
  | (guard_hyp y
     have D:=hid ((Fr.refl [] w).alloc (.cells #[.slice SA s.slots.length sc,.slice RA s.segs.length rc] 42));have W1:=hid (Whole.new w 42 [.slice SA s.slots.length sc,.slice RA s.segs.length rc]))
  | (have D:=hid (((Fr.refl [] w).alloc (.cells #[.slice SA s.slots.length sc,.slice RA s.segs.length rc] 42)).alloc (.cells #[.slice none 0 0,.slice none 0 0] 42))
     have W1:=hid ((Whole.new w 42 [.slice SA s.slots.length sc,.slice RA s.segs.length rc]).alloc (.cells #[.slice none 0 0,.slice none 0 0] 42))
     have V1:=hid (show Whole ((w.alloc (.cells #[.slice SA s.slots.length sc,.slice RA s.segs.length rc] 42)).alloc (.cells #[.slice none 0 0,.slice none 0 0] 42)) (w.heap.size+1) 42 [.slice none 0 0,.slice none 0 0] from by
      have:=Whole.new (w.alloc (.cells #[.slice SA s.slots.length sc,.slice RA s.segs.length rc] 42)) 42 [.slice none 0 0,.slice none 0 0];simpa using this))
  obtain⟨M,O⟩:=two W1.o
  first
  | (guard_hyp y
     have HS:=hid hs;clear h1 h2 hs;unfold VwP)
  | (obtain⟨V,Q⟩:=two V1.o
     obtain⟨g0,g1⟩:=zo1 V1.o;have C:w.heap.size≤w.heap.size+1:=by omega
     clear h1 h2 hs)
  by_cases h0:z0q s=0
  ·
   have ok:=zsg h0
   first
   | (guard_hyp y
      have OK:=hid ok)
   | (skip)
   have OW:=hid (OW.o ok)
   first
   | (guard_hyp y
      rw[h0] at CK ⊢;rw[Xf rfl];clear ok h0;go_enter func14,ntmps14;go_wp2_with fail;refine(CK.o _ D.o).mono ?_;rintro e2 P ⟨rfl,e⟩;have E:=hid (D.o.trans e);have W2:=hid (W1.o.fr e (by simp));clear e M O;obtain⟨M,O⟩:=two W2.o;go_wp2_with fail;refine(OW.o _ E.o).mono ?_;rintro e3 n ⟨u,rfl,⟨mid,a,b,rfl,z,L,H⟩,G⟩;obtain⟨l,m,rfl⟩:=L.form;obtain⟨j,f,rfl⟩:=H.form;have F3:=hid ((E.o.trans G).alloc (.cells #[.slice l s.slots.length m,.slice j s.segs.length f] 115));have K3:=hid (Whole.new n 115 [.slice l s.slots.length m,.slice j s.segs.length f]);obtain⟨k0,k1⟩:=two K3.o;have A:=(Fr.refl [] n).alloc (.cells #[.slice l s.slots.length m,.slice j s.segs.length f] 115);have VI:=hid (zip s n.heap.size l j m f (n.alloc (.cells #[.slice l s.slots.length m,.slice j s.segs.length f] 115)) n.heap.size HS.o (by have:=OK.o.le;omega) (fun x hx hc=>((OK.o.slot x hx).cold hc).2) A.size k0 k1 (L.o.v.fr A (Xb _) (by simp)) (H.o.v.fr A (Xb _) (by simp)));clear A L H G M O;go_wp2_with fail;refine VI.o.mono ?_;rintro e4 w4 ⟨u4,rfl,K,J⟩;have HU:=hid (K.val (Xd (by simp) J.size));have F4:=hid (F3.o.trans J);obtain⟨U,uc,rfl⟩:=K.form;clear K J;go_wp2;go_ret2;exact⟨_,rfl,HU.o,F4.o⟩)
   | (have HF:=hid (hf ok)
      have HO:=hid (hok ok);rw[h0] at CK;rw[Xf h0,Xf h0,h0];have HR:=hid hR;have a2:=hid hc0;have a6:=hid hex;have EG:=hid eg;clear ok h0 hok hf hR hc0 hex;by_cases hc:c=0
      ·
       have HT:=hid (HO.o hc);subst hc;have OT:=hid (fun W u (K:z5p W W.heap.size u t)=>z9k t u W W.heap.size (z1k HT.o) (z9j HT.o) (Xb _) K);clear HO a2;go_enter func74,ntmps74;go_wp2_with fail;refine(CK.o _ D.o).mono ?_;rintro e2 P ⟨rfl,e⟩;have E:=hid (D.o.trans e);have W2:=hid (W1.o.fr e (by simp));have N:=hid (V1.o.fr e (by simp));clear e M O V Q g0 g1 D W1 V1;obtain⟨M,O⟩:=two W2.o;go_wp2_with fail;refine(OW.o _ E.o).mono ?_;rintro e3 n ⟨u,rfl,K,G⟩;have I:=E.o.size;have d:=G.size;obtain⟨mid,a,b,rfl,z,a9,L,H⟩:=K.mid (base':=P.heap.size) (by omega) d;obtain⟨l,m,rfl⟩:=L.form;obtain⟨j,f,rfl⟩:=H.form;have F3:=hid ((E.o.trans G).alloc (.cells #[.slice l s.slots.length m,.slice j s.segs.length f] 115));have V3:=hid ((N.o.fr G (by simp)).alloc (.cells #[.slice l s.slots.length m,.slice j s.segs.length f] 115));have A:=(Fr.refl [] n).alloc (.cells #[.slice l s.slots.length m,.slice j s.segs.length f] 115);have KM:=hid (show KpM (n.alloc (.cells #[.slice l s.slots.length m,.slice j s.segs.length f] 115)) P.heap.size mid n.heap.size (.slice l s.slots.length m) (.slice j s.segs.length f) s from⟨Whole.new n 115 _,z,d,L.go A,H.go A,by simp;omega⟩);have CL:=hid (HF.o _ _ _ _ _ _ I (Xd d A.size) F3.o KM.o);have a0:w.heap.size+1 < P.heap.size:=N.o.lt;clear A L H K G M O W2 N KM;have eg:=EG.o;go_wp2_with fail;refine CL.o.mono ?_;rintro e4 w4 ⟨rfl,J,hq,hr⟩;obtain⟨p,q,hk,hp,a3⟩:=hq rfl;obtain⟨PA,pc,rfl⟩:=hp.form;obtain⟨TA,tc,rfl⟩:=a3.form;have F4:=hid (show Fr ex w w4 from((F3.o.toB w.heap.size).more (T:=ex) (by simp) |>.trans (J.low I)).fr (Xb _))
       have V4:=hid (J.whole V3.o a0 (fun hm=>by have:=a6.o _ hm;omega));have R4:=hid hr;have a7:=hid (OT.o w4 _ ⟨_,_,rfl,hp,a3⟩);obtain⟨k0,k1⟩:=two hk;clear hp a3 hq J hk hr;go_wp2_with fail;refine a7.o.mono ?_;rintro e5 w5 ⟨u5,rfl,a8,f5⟩;have V5:=hid (V4.o.fr f5 (by simp));obtain⟨V,Q⟩:=two V5.o;obtain⟨g0,g1⟩:=zo1 V5.o;obtain⟨aa,a5,b5,rfl,a4,a1,F⟩:=a8;obtain⟨Y,Z,rfl⟩:=a1.form;obtain⟨X,S,rfl⟩:=F.form;have U5:=hid (show StI w5 _ (.agg #[.slice Y t.slots.length Z,.slice X t.segs.length S]) t from⟨_,_,_,rfl,a4,a1,F⟩);have F5:=hid f5;clear a1 F f5 a4;go_wp2;refine Xg (v:=.tuple #[.agg #[.slice Y t.slots.length Z,.slice X t.segs.length S],.int .i64 0]) (by simp[results,results74,go_sem,V,Q]) rfl ?_;have F:w.heap.size+1 < w4.heap.size+3:=by have:=V4.o.lt;omega
       have UF:=hid ((U5.o.later (p:=⟨w.heap.size+1,0,none⟩) F (.slice Y t.slots.length Z)).later (p:=⟨w.heap.size+1,1,none⟩) F (.slice X t.segs.length S));have f6:=((FrB.refl [] w.heap.size w5).setCell (p:=⟨w.heap.size+1,0,none⟩) (.inr C) (.slice Y t.slots.length Z)).setCell (p:=⟨w.heap.size+1,1,none⟩) (.inr C) (.slice X t.segs.length S);exact⟨_,rfl,UF.o.less (by have:=F4.o.size;omega),((F4.o.toB w.heap.size).trans (((F5.o.toB w.heap.size).trans f6).more (by simp))).fr (Xb _),fun _=>HR.o _ _ ((F5.o.toB w.heap.size).trans f6) R4.o,fun h=>(h (by trivial)).elim⟩
      ·
       have ht:=a2.o hc;subst ht;have q:(c != 0)=true:=by simpa using hc
       clear a2 HO hc;go_enter func74,ntmps74;go_wp2_with fail;refine(CK.o _ D.o).mono ?_;rintro e2 P ⟨rfl,e⟩;have E:=hid (D.o.trans e);have W2:=hid (W1.o.fr e (by simp));have N:=hid (V1.o.fr e (by simp));clear e M O V Q g0 g1 D W1 V1;obtain⟨M,O⟩:=two W2.o;go_wp2_with fail;refine(OW.o _ E.o).mono ?_;rintro e3 n ⟨u,rfl,K,G⟩;have I:=E.o.size;have d:=G.size;obtain⟨mid,a,b,rfl,z,a9,L,H⟩:=K.mid (base':=P.heap.size) (by omega) d;obtain⟨l,m,rfl⟩:=L.form;obtain⟨j,f,rfl⟩:=H.form;have F3:=hid ((E.o.trans G).alloc (.cells #[.slice l s.slots.length m,.slice j s.segs.length f] 115));have V3:=hid ((N.o.fr G (by simp)).alloc (.cells #[.slice l s.slots.length m,.slice j s.segs.length f] 115));have A:=(Fr.refl [] n).alloc (.cells #[.slice l s.slots.length m,.slice j s.segs.length f] 115);have KM:=hid (show KpM (n.alloc (.cells #[.slice l s.slots.length m,.slice j s.segs.length f] 115)) P.heap.size mid n.heap.size (.slice l s.slots.length m) (.slice j s.segs.length f) s from⟨Whole.new n 115 _,z,d,L.go A,H.go A,by simp;omega⟩);have CL:=hid (HF.o _ _ _ _ _ _ I (Xd d A.size) F3.o KM.o);have a0:w.heap.size+1 < P.heap.size:=N.o.lt;clear A L H K G M O W2 N KM;have eg:=EG.o;go_wp2_with fail;refine CL.o.mono ?_;rintro e4 w4 ⟨rfl,J,-,hr⟩;have F4:=hid (show Fr ex w w4 from((F3.o.toB w.heap.size).more (T:=ex) (by simp) |>.trans (J.low I)).fr (Xb _))
       have V4:=hid (J.whole V3.o a0 (fun hm=>by have:=a6.o _ hm;omega));have R4:=hid hr;obtain⟨V,Q⟩:=two V4.o;obtain⟨g0,g1⟩:=zo1 V4.o;clear J hr;go_wp2;refine Xg (v:=.tuple #[.agg #[.slice none 0 0,.slice none 0 0],.int .i64 c]) (by simp[results,results74,go_sem,V,Q]) rfl ?_;have f6:=((FrB.refl [] w.heap.size w4).setCell (p:=⟨w.heap.size+1,0,none⟩) (.inr C) (.slice none 0 0)).setCell (p:=⟨w.heap.size+1,1,none⟩) (.inr C) (.slice none 0 0);exact⟨_,rfl,StI.nil _ _,((F4.o.toB w.heap.size).trans (f6.more (by simp))).fr (Xb _),fun _=>HR.o _ _ f6 R4.o,fun h=>(h (by trivial)).elim⟩)
  ·
   have q:(z0q s != 0)=true:=by simpa using h0
   first
   | (guard_hyp y
      rw[Xc h0];clear h0 OW;generalize z0q s=r at *;go_enter func14,ntmps14)
   | (rw[Xc h0,Xc h0]
      have H0:=hid h0;clear h0 OW hf hok hR hc0;generalize z0q s=r at *;go_enter func74,ntmps74)
   go_wp2_with fail;refine(CK.o _ D.o).mono ?_;rintro e2 P ⟨rfl,e⟩
   first
   | (guard_hyp y
      go_wp2;go_ret2;exact⟨_,rfl,z1f.nil _ _,D.o.trans e⟩)
   | (have E:=hid (D.o.trans e)
      have N:=hid (V1.o.fr e (by simp));clear e M O V Q g0 g1 D W1 V1;obtain⟨V,Q⟩:=two N.o;obtain⟨g0,g1⟩:=zo1 N.o;go_wp2;refine Xg (v:=.tuple #[.agg #[.slice none 0 0,.slice none 0 0],.int .i64 r]) (by simp[results,results74,go_sem,V,Q]) rfl ?_;have f6:=((FrB.refl [] w.heap.size P).setCell (p:=⟨w.heap.size+1,0,none⟩) (.inr C) (.slice none 0 0)).setCell (p:=⟨w.heap.size+1,1,none⟩) (.inr C) (.slice none 0 0);exact⟨_,rfl,StI.nil _ _,(((E.o.toB w.heap.size).trans f6).more (by simp)).fr (Xb _),fun h=>absurd h H0.o,fun _=>((E.o.toB w.heap.size).trans f6).fr (Xb _)⟩)
abbrev zj8:=@And.left _ _ q77
abbrev zi9:=@And.right _ _ q77
theorem zja{s:Sto}{k:YY}(h:(z5x s k).2≠0):(z5x s k).1=noS:=by
 rcases hsl:z4j s k false with⟨_|⟨i,x⟩,e⟩
 ·rw[zom hsl]
 ·cases hr:zi4 s.segs with
  | false=>rw[zgd hsl hr]
  | true=>rw[zjb hsl hr] at h;exact absurd rfl h
theorem zlr{s:Sto}{k:YY}(h:(z70 s k).2≠0):(z70 s k).1=noS:=by
 rcases hsl:z4j s k true with⟨_|⟨i,x⟩,e⟩
 ·rw[zq1 hsl]
 ·rw[zls hsl] at h;exact absurd rfl h
theorem zyb(s)(key)(bx:Nat)(w:World)(ok:z6e s)(hbx:w.cell? ⟨bx,0,none⟩=some (.string key)):
  CloF 75 #[.pointer (some ⟨bx,0,none⟩)] [] s (z5x s key).2 (z5x s key).1 (fun _=>True) w:=by
 intro W base mid j a b r k f h;have p:W.cell? ⟨bx,0,none⟩=some (.string key):=f.cell hbx (by simp);have l:=hid (zux s base mid j a b key W ok (z1k ok) k h);clear h hbx;go_enter func75,ntmps75;go_wp2_with fail;refine l.o.mono ?_;rintro n m d;have d:=d.q;obtain⟨rfl,e,t,g⟩:=d;go_wp2;go_ret;exact⟨rfl,e,g,trivial⟩
theorem zyc(s)(key)(bx:Nat)(w:World)(ok:z6e s)(hbx:w.cell? ⟨bx,0,none⟩=some (.string key)):
  CloF 77 #[.pointer (some ⟨bx,0,none⟩)] [] s (z70 s key).2 (z70 s key).1 (fun _=>True) w:=by
 intro W base mid j a b r k f h;have p:W.cell? ⟨bx,0,none⟩=some (.string key):=f.cell hbx (by simp);have l:=hid (zv3 s base mid j a b key W ok (z1k ok) k h);clear h hbx;go_enter func77,ntmps77;go_wp2_with fail;refine l.o.mono ?_;rintro n m g;skip;obtain⟨rfl,d,t,e⟩:=g;go_wp2;go_ret;exact⟨rfl,d,e,trivial⟩
def z4e(s:Sto)(k:YY):Sto×Int:=if z0q s=0 then z5x s k else (noS,z0q s)
def z4m(s:Sto)(k:YY):Sto×Int:=if z0q s=0 then z70 s k else (noS,z0q s)
theorem q6x(s:Sto)(v)(key)(w:World)(B:Nat)(hs:s.Small)(hB:B≤w.heap.size)(h:z5p w B v s):(Calls prog 15 #[v,.string key] w (q4z [] (z4e s key).2 (z4e s key).1 True (fun _=>True) w))∧(Calls prog 16 #[v,.string key] w (q4z [] (z4m s key).2 (z4m s key).1 True (fun _=>True) w)):=by
 refine⟨?_,?_⟩;have d:=hid trivial
 rotate_left
 have R:=hid trivial
 all_goals
  first
  | (guard_hyp d
     have x:=hid (fun W bx (hW:Fr [] w W) (hbx:W.cell? ⟨bx,0,none⟩=some (.string key))=>(show Calls prog 74 #[v,.func (Fn.func 75) #[] #[.pointer (some ⟨bx,0,none⟩)]] W (q4z [] (z4e s key).2 (z4e s key).1 (z0q s=0) (fun _=>True) W) from by
      have:=zi9 75 #[.pointer (some ⟨bx,0,none⟩)] (fun _ _=>rfl) s v (z5x s key).2 (z5x s key).1 [] (fun _=>True) W B hs (Xd hB hW.size) (h.fr hW hB (by simp)) (fun e=>zyb s key bx W e hbx) (fun l=>zja l) (fun e l=>(ztg (k:=key) e (show z5x s key=((z5x s key).1,0) from by rw[←l])).1) (fun _ _ _ _=>trivial) (by simp);rw[show(z4e s key).2=if z0q s=0 then (z5x s key).2 else z0q s from by unfold z4e;split <;> rfl,show(z4e s key).1=if z0q s=0 then (z5x s key).1 else noS from by unfold z4e;split <;> rfl];exact this))
     generalize (z4e s key).2=C at *;generalize (z4e s key).1=n at *)
  | (have x:=hid (fun W bx (hW:Fr [] w W) (hbx:W.cell? ⟨bx,0,none⟩=some (.string key))=>(show Calls prog 74 #[v,.func (Fn.func 77) #[] #[.pointer (some ⟨bx,0,none⟩)]] W (q4z [] (z4m s key).2 (z4m s key).1 (z0q s=0) (fun _=>True) W) from by
      have:=zi9 77 #[.pointer (some ⟨bx,0,none⟩)] (fun _ _=>rfl) s v (z70 s key).2 (z70 s key).1 [] (fun _=>True) W B hs (Xd hB hW.size) (h.fr hW hB (by simp)) (fun e=>zyc s key bx W e hbx) (fun l=>zlr l) (fun e l=>(zxa (k:=key) e (show z70 s key=((z70 s key).1,0) from by rw[←l])).1) (fun _ _ _ _=>trivial) (by simp);rw[show(z4m s key).2=if z0q s=0 then (z70 s key).2 else z0q s from by unfold z4m;split <;> rfl,show(z4m s key).1=if z0q s=0 then (z70 s key).1 else noS from by unfold z4m;split <;> rfl];exact this))
     generalize (z4m s key).2=C at *;generalize (z4m s key).1=n at *)
  obtain⟨a,b,rfl,G,D⟩:=h;obtain⟨m,j,rfl⟩:=G.form;obtain⟨f,g,rfl⟩:=D.form;have y:=hid ((((Fr.refl [] w).alloc (.cells #[.slice m s.slots.length j,.slice f s.segs.length g] 42)).alloc (.cells #[.string key] 9)).alloc (.cells #[.slice none 0 0,.slice none 0 0] 42));have O:=hid (((Whole.new w 42 [.slice m s.slots.length j,.slice f s.segs.length g]).alloc (.cells #[.string key] 9)).alloc (.cells #[.slice none 0 0,.slice none 0 0] 42))
  have N:=hid (show Whole (((w.alloc (.cells #[.slice m s.slots.length j,.slice f s.segs.length g] 42)).alloc (.cells #[.string key] 9)).alloc (.cells #[.slice none 0 0,.slice none 0 0] 42)) (w.heap.size+1) 9 [.string key] from by
   have:=(Whole.new (w.alloc (.cells #[.slice m s.slots.length j,.slice f s.segs.length g] 42)) 9 [.string key]).alloc (.cells #[.slice none 0 0,.slice none 0 0] 42);simpa using this)
  have F:=hid (show Whole (((w.alloc (.cells #[.slice m s.slots.length j,.slice f s.segs.length g] 42)).alloc (.cells #[.string key] 9)).alloc (.cells #[.slice none 0 0,.slice none 0 0] 42)) (w.heap.size+1+1) 42 [.slice none 0 0,.slice none 0 0] from by
   have:=Whole.new ((w.alloc (.cells #[.slice m s.slots.length j,.slice f s.segs.length g] 42)).alloc (.cells #[.string key] 9)) 42 [.slice none 0 0,.slice none 0 0];simpa using this)
  obtain⟨L,S⟩:=two O.o;have P:=hid (x.o _ (w.heap.size+1) y.o (N.o.cell 0));have t:w.heap.size≤w.heap.size+1+1:=by omega
  clear G D hs x
  first
  | (guard_hyp d
     go_enter func15,ntmps15)
  | (go_enter func16,ntmps16)
  go_wp2_with fail;refine P.o.mono ?_;rintro U X ⟨u,rfl,z,A,-⟩;have M:=hid A;have H:=hid (F.o.fr A (by simp));have Q:=hid z;obtain⟨E,c1,J,c2,rfl⟩:=z.form;clear z A L S;obtain⟨K,I⟩:=two H.o;obtain⟨T,V⟩:=zo1 H.o;go_wp2
  first
  | (guard_hyp d
     refine Xg (v:=.tuple #[.agg #[.slice E n.slots.length c1,.slice J n.segs.length c2],.int .i64 C]) (by simp[results,results15,go_sem,K,I]) rfl ?_)
  | (refine Xg (v:=.tuple #[.agg #[.slice E n.slots.length c1,.slice J n.segs.length c2],.int .i64 C]) (by simp[results,results16,go_sem,K,I]) rfl ?_)
  have r:w.heap.size+1+1 < (((w.alloc (.cells #[.slice m s.slots.length j,.slice f s.segs.length g] 42)).alloc (.cells #[.string key] 9)).alloc (.cells #[.slice none 0 0,.slice none 0 0] 42)).heap.size:=F.o.lt;exact⟨_,rfl,((Q.o.later (p:=⟨w.heap.size+1+1,0,none⟩) r _).later (p:=⟨w.heap.size+1+1,1,none⟩) r _).less y.o.size,((y.o.trans M.o).setCell (p:=⟨w.heap.size+1+1,0,none⟩) (.inr t) _).setCell (p:=⟨w.heap.size+1+1,1,none⟩) (.inr t) _,fun _=>trivial,fun h=>absurd trivial h⟩
abbrev zj5:=fun s v key w B hs hB h=>@And.left _ _ (q6x s v key w B hs hB h)
abbrev zj9:=fun s v key w B hs hB h=>@And.right _ _ (q6x s v key w B hs hB h)
end
end Go.Proofs.YtnmoajaelmimnaaGreatDoor
