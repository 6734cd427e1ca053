/- Contracts; no condition but each theorem's own. -/
import Derived.Test.YtnmoajaelmimnaaGreatDoorSlY22
set_option linter.unusedVariables false
set_option linter.unusedSimpArgs false
set_option maxHeartbeats 8000000
set_option maxRecDepth 100000
namespace Go.Proofs.YtnmoajaelmimnaaGreatDoor
open Go.Proofs.Tryz
section
open Go.RowKit
theorem zmk{l:List Ent}{k:Nat}{e:Ent}(q:Ent→Bool)(h:l[k]? = some e):(l.take (k+1)).filter q=(l.take k).filter q++(if q e=true then [e] else []):=by
 rw[Xz,h,Vb];congr 1;simp[Vi]
theorem zfu{l:List Ent}(k:Nat)(q:Ent→Bool):((l.take k).filter q).length≤l.length:=Xd (Xv _ _) (List.length_take_le' _ _)
theorem z7r(l)(now:Int)(s):(z00 l now s=newE∧z26 l now s=false)∨(z00 l now s∈l∧z26 l now s=true∧(z00 l now s).key=s∧z60 (z00 l now s).til now=false):=by
 unfold z00 z26;rcases h:zfy l now s with _|e
 ·exact .inl ⟨rfl,rfl⟩
 ·refine .inr ?_;unfold zfy at h;have a:=Kd h;simp at a;exact⟨Jl h,rfl,a.1,a.2⟩
theorem za5:(z2q 0).Small:=z12 0 (by decide)
theorem z2n{l:List Ent}(h:∀e∈l,e.Small)(now:Int)(s):(z00 l now s).Small:=by
 rcases z7r l now s with⟨a,_⟩|⟨a,_⟩
 ·rw[a];exact⟨by show(⟨#[]⟩:YY).size≤_;decide,za5,by show -9223372036854775808≤(0:Int)∧_;decide⟩
 ·exact h _ a
attribute [local go_sem] z1g
theorem z2a.atO{w:World}{base:Nat}{A:YV}{c:Nat}{l:List Ent}(h:z2a w base (.slice A l.length c) l)(hn:0 < l.length):
  ∃b off,A=some ⟨b,off,none⟩∧b < w.heap.size∧l.length≤c∧c≤maxLen∧∀(i:Nat) (e:Ent),l[i]? = some e→∃A1 A2 A3 c1 c2 c3,At7 w w.heap.size b (off+i * 7) e A1 A2 A3 c1 c2 c3∧z38 w base (z9p e A1 c1 A2 c2 A3 c3) e:=by
 obtain⟨m,t,hi,hs⟩:=h;obtain⟨b,off,rfl,D,E,n,a⟩:=(z0l hs).at_ hn;refine⟨b,off,rfl,D,E,n,fun i e x=>?_⟩;obtain⟨z,f,k⟩:=hi i e x;have d:=zjq t (fun z e h=>z38.len h) hi;have p:=k.c;obtain⟨A1,c1,A2,c2,A3,c3,rfl,C,s,r⟩:=k
 have g:∀j u,j < 7→(z9p e A1 c1 A2 c2 A3 c3)[j]? = some u→w.cell? ⟨b,off+(i * 7+j),none⟩=some u:=fun j u y B=>
  a _ _ (by rw[z3q 7 m i j _ d f y];exact B)
 exact⟨A1,A2,A3,c1,c2,c3,⟨g 0 _ (by decide) rfl,by rw[Yb];exact g 1 _ (by decide) rfl,by rw[Yb];exact g 2 _ (by decide) rfl,by rw[Yb];exact g 3 _ (by decide) rfl,by rw[Yb];exact g 4 _ (by decide) rfl,by rw[Yb];exact g 5 _ (by decide) rfl,by rw[Yb];exact g 6 _ (by decide) rfl,p⟩,⟨A1,c1,A2,c2,A3,c3,rfl,C,s,r⟩⟩
def zlz(e:Ent)(b:Bool)(base:Nat)(w:World)(r:Ending)(w':World):Prop:=
 ∃A1 c1 A2 c2 A3 c3,r=.returned (.tuple #[.agg #[.string e.key,.int .i64 e.item.kind,.string e.item.text,.slice A1 e.item.list.length c1,.slice A2 e.item.pairs.length c2,.slice A3 e.item.scores.length c3,.int .i64 e.til],.bool b])∧z38 w' base (z9p e A1 c1 A2 c2 A3 c3) e∧Fr [] w w'
theorem q1o(w)(base:Nat):z38 w base (z9p newE none 0 none 0 none 0) newE:=⟨none,0,none,0,none,0,rfl,World.ownsRow_nil _ _ _ _,World.ownsRow_nil _ _ _ _,World.ownsRow_nil _ _ _ _⟩
theorem z3n(l)(v)(now:Int)(s:YY)(w)(B0:Nat)(hr:rises (ltK Ent.key) l=true)(hl:l.length≤281474976710656)(ho:z2a w B0 v l):
  Calls prog 201 #[v,.int .i64 now,.string s] w (zlz (z00 l now s) (z26 l now s) B0 w):=by
 obtain⟨B,R,h⟩:∃B,B≤w.heap.size∧z1f w B v l:=⟨_,Xb _,ho.v⟩;obtain⟨A,c,rfl⟩:=h.form;have r:=hid ((Fr.refl [] w).alloc (.cells yEza 70));have J:=hid (Whole.new w 70 yEzl);have p:=hid (fun W (hW:Fr [] w W)=>ze0 l s A c B W hr hl (Xd R hW.size) (h.fr hW R (by simp)));have HV:=hid ho;have N:=hid hr;unfold z3e at p;clear h hr ho;by_cases hh:z4o Ent.key l s=true
 ·obtain⟨e,D,hk⟩:=(z2s Ent.key).1 hh;subst hk;have T:=(Xe.1 D).1;obtain⟨b,off,rfl,Z,hc,H,j⟩:=HV.o.atO (by omega);obtain⟨K,Q,P,c1,c2,O,L,M⟩:=j _ e D;have X:=hid L;have O7:=hid M;have y:=hid (zzq N.o D now);have I:=hid (fun W=>zhn e.til now W);rw[hh] at p;clear j L M D hh;generalize z1e Ent.key l e.key=k at *;have a8:(0:Int)≤(k:Int):=by omega
  have a7:(k:Int) < (l.length:Int):=by omega
  unfold maxLen at H;by_cases hg:z60 e.til now=true;have a:=hid trivial
  all_goals
   first
   | (guard_hyp a
      have G:=hid (show zfy l now e.key=none from y.o.trans (Xf hg));rw[hg] at I;clear y hg)
   | (have m:z60 e.til now=false:=by simpa using hg
      have G:=hid (show zfy l now e.key=some e from y.o.trans (Xc hg));rw[m] at I;clear y hg m)
   go_enter func201,ntmps201;go_wp2_with fail;refine(p.o _ r.o).mono ?_;rintro e1 S ⟨rfl,d⟩;have g:=hid (r.o.trans d);have n:=hid (J.o.f0 d);have P7:=hid (X.o.fr g.o Z (Xb _) (by simp));obtain⟨x0,x1,x2,x3,x4,x5,x6,-⟩:=P7.o;clear d;go_wp2_with fail;refine(I.o _).mono ?_;rintro e2 w2 ⟨rfl,rfl⟩;obtain⟨C,E,F,t,x,u,z⟩:=seven n.o;obtain⟨b0,U,b2,b3,b4,V,Y⟩:=zbi n.o;go_wp2
   first
   | (guard_hyp a
      refine Xg (v:=.tuple #[.agg yEza,.bool false]) (by simp[results,results201,go_sem,C,E,F,t,x,u,z]) rfl ?_)
   | (refine Xg (v:=.tuple #[.agg (z9p e K c1 Q c2 P O).toArray,.bool true]) (by simp[results,results201,go_sem,z9p,C,E,F,t,x,u,z]) rfl ?_)
   unfold z00 z26 zlz;rw[G.o]
   first
   | (guard_hyp a
      exact⟨none,0,none,0,none,0,rfl,q1o _ _,zbz g.o (Xb _) _ _ _ _ _ _ _⟩)
   | (exact⟨K,c1,Q,c2,P,O,rfl,O7.o.fr (zbz g.o (Xb _) _ _ _ _ _ _ _),zbz g.o (Xb _) _ _ _ _ _ _ _⟩)
 ·have f:z4o Ent.key l s=false:=by simpa using hh
  have G:=hid (q3k N.o f now);rw[f] at p;clear hh f;generalize z1e Ent.key l s=k at *;go_enter func201,ntmps201;go_wp2_with fail;refine(p.o _ r.o).mono ?_;rintro e1 S ⟨rfl,d⟩;have g:=hid (r.o.trans d);have n:=hid (J.o.f0 d);clear d;obtain⟨C,E,F,t,x,u,z⟩:=seven n.o;obtain⟨b0,U,b2,b3,b4,V,Y⟩:=zbi n.o;go_wp2;refine Xg (v:=.tuple #[.agg yEza,.bool false]) (by simp[results,results201,go_sem,C,E,F,t,x,u,z]) rfl ?_;unfold z00 z26 zlz;rw[G.o];exact⟨none,0,none,0,none,0,rfl,q1o _ _,zbz g.o (Xb _) _ _ _ _ _ _ _⟩
theorem zb0{l:YX}(hl:l.length≤1000000)(ht:∀s∈l,s.size≤281474976710656):(ofL l).Small:=by
 unfold ofL;split
 ·exact z12 0 (by decide)
 ·exact zei hl ht
theorem zne(x)(left:Bool)(l):(zc5 x left l).Small:=by
 unfold zc5;by_cases hc:z18 x l=0
 ·rw[Xf hc];unfold z18 at hc;by_cases ha:z02 2 x=0
  ·rw[Xc (by simpa using ha)] at hc;by_cases hb:z1a l=0
   ·rw[Xc (by simpa using hb)] at hc;have a:=z1m ha;have b:=z7d hb;have d:¬24 < x.list.length+l.length:=fun h=>by rw[Xf h] at hc;cases hc
    refine zb0 (by rw[z4v];omega) (fun s hs=>?_);rcases zi1 hs with h|h
    ·have:=a.texts s h;omega
    ·have:=b s h;omega
   ·rw[Xf hb] at hc;exact absurd hc hb
  ·rw[Xf ha] at hc;exact absurd hc ha
 ·rw[Xc hc];exact z12 0 (by decide)
theorem zrn{x:Itm}(h:z1q x=0):z02 2 x=0:=by
 unfold z1q at h;by_cases ha:z02 2 x=0
 ·exact ha
 ·rw[Xf ha] at h;exact absurd h ha
theorem q4a{x:Itm}{left:Bool}{s:YY}(h:s∈zxh x left):s∈x.list:=by
 unfold zxh at h;cases left
 ·exact Ud h
 ·exact Yp h
theorem q6m(x)(left:Bool):(zxh x left).length≤x.list.length:=by
 unfold zxh;cases left <;> simp
theorem zro(x)(left:Bool):(zg0 x left).Small:=by
 unfold zg0;by_cases hc:z1q x=0
 ·rw[Xf hc];have a:=z1m (zrn hc);have:=a.le24;unfold many at this;refine zb0 (by have:=q6m x left;omega) (fun s hs=>by have:=a.texts s (q4a hs);omega)
 ·rw[Xc hc];exact z12 0 (by decide)
theorem zrz(x)(s):(zxj x s).Small:=by
 unfold zxj;by_cases hc:z02 2 x=0
 ·rw[Xf hc];have a:=z1m hc;have:=a.le24;unfold many at this;refine zb0 (by have:(zry x s).length≤x.list.length:=Xv _ _;omega) (fun y b=>by have:=a.texts y (Yj.1 b).1;omega)
 ·rw[Xc hc];exact z12 0 (by decide)
theorem zf3(x)(f t:Int):(z2l x f t).length≤24∧∀s∈z2l x f t,s.size≤281474976710656:=by
 unfold z2l;by_cases ha:z02 2 x=0
 ·rw[Xf ha];have a:=z1m ha;refine⟨?_,fun s hs=>by have:=a.texts s (z81 hs);omega⟩;rw[z2p];have:=z6z x.list.length f t;have:=a.le24;unfold many at this;omega
 ·rw[Xc ha];exact⟨by simp,by simp⟩
theorem zkt{l:List (YY×YY)}(hl:l.length≤1000000)(ht:∀s∈l,s.1.size≤281474976710656∧s.2.size≤281474976710656):(ofP l).Small:=by
 unfold ofP;split
 ·exact z12 0 (by decide)
 ·exact zez hl ht
theorem q47{x:Itm}{l:List (YY×YY)}(h:z1y x l=0):z02 4 x=0∧¬l.any z5e=true:=by
 unfold z1y at h;by_cases ha:z02 4 x=0
 ·rw[Xc (by simpa using ha)] at h;by_cases hb:l.length=0
  ·rw[Xf hb] at h;cases h
  ·rw[Xc hb] at h;by_cases hc:l.any z5e=true
   ·rw[Xf hc] at h;cases h
   ·exact⟨ha,hc⟩
 ·rw[Xf ha] at h;exact absurd h ha
theorem putOk{x:Itm}{l:List (YY×YY)}(h:z23 x l=0):z1y x l=0∧(zwb x l).length≤24:=by
 unfold z23 at h;by_cases ha:z1y x l=0
 ·rw[Xc (by simpa using ha)] at h;by_cases hb:24 < (zwb x l).length
  ·rw[Xf hb] at h;cases h
  ·exact⟨ha,by omega⟩
 ·rw[Xf ha] at h;exact absurd h ha
theorem zrv{x:Itm}{l:List (YY×YY)}(h:z1y x l=0):∀s∈zwb x l,s.1.size≤60∧s.2.size≤60:=fun s hs=>by
 obtain⟨ha,hc⟩:=q47 h;rcases zdf _ _ hs with h|h
 ·exact zhw hc s h
 ·exact(zb1 ha).2 s h
theorem zrw(x)(l:List (YY×YY)):(zsf x l).Small:=by
 unfold zsf;split
 ·rename_i h;obtain⟨a,b⟩:=putOk h;exact zkt (by omega) (fun s hs=>by have:=zrv a s hs;omega)
 ·exact z12 0 (by decide)
theorem zmg(x)(l):(zd0 x l).Small:=by
 unfold zd0;split
 ·rename_i h;have a:=zb1 h;have:=Xv (fun p:YY×YY=>!(l.any fun y=>decide (y=p.1))) x.pairs;exact zkt (by unfold zbt;omega) (fun s hs=>by have:=a.2 s (Yj.1 hs).1;omega)
 ·exact z12 0 (by decide)
def keyM(p:YY)(now:Int)(e:Ent):Bool:=z54 p e.key&&!z60 e.til now
def zea(l:List Ent)(now:Int)(p:YY):YX:=(l.filter (keyM p now)).map Ent.key
def zkb(l:List Ent)(now:Int)(p:YY):Int:=if z6h l now ⟨#[]⟩=0 then z0z p else z6h l now ⟨#[]⟩
def zeb(l:List Ent)(now:Int)(p:YY):YX:=if zkb l now p=0 then zea l now p else []
def TCP(r:YX)(c:Int)(w:World)(e:Ending)(w':World):Prop:=∃A n,e=.returned (.tuple #[.slice A r.length n,.int .i64 c])∧w'.ownsRow w.heap.size 9 1 (.slice A r.length n) r.length (z03 r)∧Fr [] w w'
theorem zv1{l:List Ent}{k:Nat}{e:Ent}(now:Int)(p)(h:l[k]? = some e):zea (l.take (k+1)) now p=zea (l.take k) now p++(if keyM p now e=true then [e.key] else []):=by
 unfold zea;rw[zmk _ h,Vu];congr 1;split <;> rfl
theorem zpb(l:List Ent)(k:Nat)(now:Int)(p):(zea (l.take k) now p).length≤l.length:=by
 unfold zea;rw[Xx];exact zfu _ _
theorem zik(l)(v)(now:Int)(p:YY)(w:World)(B:Nat)(hs:∀e∈l,e.Small)(hl:l.length≤281474976710656)(hz:p.size≤281474976710656)(hB:B≤w.heap.size)(h:z1f w B v l):
  Calls prog 207 #[v,.int .i64 now,.string p] w (TCP (zeb l now p) (zkb l now p) w):=by
 obtain⟨i0,hi,hz0,hz1,hz2⟩:=info_parts z2y;obtain⟨A,c,rfl⟩:=h.form;have Y:=hid (zg5 l _ now ⟨#[]⟩ w B hs hl (by decide) hB h);have GC:=hid (fun W=>zhl p W hz);have HV:=hid h;have HS:=hid hs;have C:=hid (show zkb l now p=if z6h l now ⟨#[]⟩=0 then z0z p else z6h l now ⟨#[]⟩ from rfl);have s:=hid (show zeb l now p=if zkb l now p=0 then zea l now p else [] from rfl);clear h hs;by_cases ha:z6h l now ⟨#[]⟩=0
 ·rw[Xf ha] at C;have a0:=(q4j (atOk ha).1).le;rw[ha] at Y;rw[C.o] at s ⊢;clear ha C;by_cases hg:z0z p=0;have x:=hid trivial
  all_goals
   first
   | (guard_hyp x
      rw[Xf hg] at s;rw[hg] at GC ⊢;rw[s.o];clear hg s)
   | (rw[Xc hg] at s
      rw[s.o];have q1:(z0z p != 0)=true:=by simpa using hg
      clear hg s;generalize z0z p=r at *)
   go_enter func207,ntmps207;go_wp2_with fail;refine Y.o.mono ?_;rintro e1 w1 ⟨rfl,H⟩;go_wp2_with fail;refine(GC.o _).mono ?_;rintro Z M ⟨rfl,d⟩
   first
   | (guard_hyp x
      have F2:=hid (H.trans d);clear H d;go_wp2;go_loopg [9,26] l.length (fun g o i wr=>∃(k:Nat) (a:YX),g=l.length - k∧k≤l.length∧i=.int .i64 k∧Hid (a=zea (l.take k) now p)∧wr.ownsRow w.heap.size 9 1 o a.length (z03 a)∧Fr [] w wr)
      case atStart=>exact⟨0,[],rfl,Xt _,rfl,hid rfl,World.ownsRow_nil _ _ _ _,F2.o⟩
      case round=>
       obtain⟨k,a,rfl,hk,rfl,n,R,U⟩:=hrel;have E:=hid U;have P:=hid R;have a2:=U.size;obtain⟨Ao,co,rfl,-⟩:=z05 R;have a3:a.length≤l.length:=by rw[n.o];exact zpb _ _ _ _
       clear U R F2;by_cases hlt:k < l.length
       ·obtain⟨b,off,rfl,hb,hc,a1,L⟩:=HV.o.at_ (by omega);obtain⟨e,Q⟩:∃e,l[k]? = some e:=⟨_,Xa hlt⟩;obtain⟨A1,A2,A3,c1,c2,c3,h7⟩:=L k e Q;have K:=(HS.o e (Xj Q)).key;have P7:=hid (h7.fr E.o hb hB (by simp));obtain⟨x0,x1,x2,x3,x4,x5,x6,-⟩:=P7.o;have t:=hid (zv1 now p Q);have D:=hid (fun W=>zhm p e.key W hz K);have O:=hid (fun W=>zhn e.til now W);have V1:=hid (Whole.new wr 70 (yEl e A1 c1 A2 c2 A3 c3));have V:=hid ((Fr.refl [] wr).alloc (.cells (yEa e A1 c1 A2 c2 A3 c3) 70));have N:=hid (show keyM p now e=(z54 p e.key&&!z60 e.til now) from rfl);clear L h7 Q K;rw[N.o,←n.o] at t;generalize z4h p e.key=mc at *;rcases hm:z54 p e.key with _|_
        ·rw[hm] at D t;have f:=hid (t.o.trans (by rw[Uz,Xc (by decide),Ub]));clear hm t N;go_wp2_with fail;refine(D.o _).mono ?_;rintro Z M ⟨rfl,d⟩;have z:=hid (V.o.trans d);clear d;go_wp2;go_roundg (l.length - (k+1))
         case measure=>omega
         case rel=>exact⟨k+1,a,rfl,by omega,by go_num,hid f.o.symm,z08 P.o z.o (by simp),E.o.trans z.o⟩
        ·rcases hg:z60 e.til now with _|_
         ·rw[hm,hg] at t;rw[hm] at D;rw[hg] at O;have f:=hid (t.o.trans (by rw[show(true&&!false)=true from rfl,Xf rfl]));clear hm hg t N;go_wp2_with fail;refine(D.o _).mono ?_;rintro Z M ⟨rfl,d⟩;have I:=hid (V1.o.fr d (by simp));have z:=hid (V.o.trans d);clear d;have T:=I.o.lt;obtain⟨y0,y1,y2,y3,y4,y5,y6⟩:=seven I.o;have F:=hid ((z08 P.o z.o (by simp)).alloc (.cells #[.string e.key] 9));go_wp2_with fail;refine(O.o _).mono ?_;rintro e3 w3 ⟨rfl,rfl⟩;have X:=hid (z0l (World.ownsRow_lit (base:=M.heap.size) (e:=9) (size:=1) M #[.string e.key] 1 (Xb _) (by decide) rfl));have h1:∀u∈[Value.string e.key],u.oneCell'=true:=fun u hu=>by simp at hu;subst hu;rfl
          go_wp2_with (at_builtin;refine z0c _ rfl _ _ 24 rfl w.heap.size 9 i0 _ 1 16 underlying24 hi hz0 hz1 hz2 rfl (by decide) _ _ _ rfl F.o _ _ 1 _ rfl X.o h1 ?c1 ?c2 ?c3 ?_)
          case c1=>unfold maxLen;omega
          case c2=>omega
          case c3=>first|omega|(simp;omega)
          intro v' w5 y m J;have S:=hid y;have F5:=hid ((E.o.trans (z.o.alloc (.cells #[.string e.key] 9))).grown m (fun j hj=>.inr (F.o.lt j hj).1));clear y m J;go_wp2;go_roundg (l.length - (k+1))
          case measure=>omega
          case rel=>exact⟨k+1,_,rfl,by omega,by go_num,hid rfl,by rw[f.o,z36,Xk];exact S.o,F5.o⟩
         ·rw[hm,hg] at t;rw[hm] at D;rw[hg] at O;have f:=hid (t.o.trans (by rw[show(true&&!true)=false from rfl,Xc (by decide),Ub]));clear hm hg t N;go_wp2_with fail;refine(D.o _).mono ?_;rintro Z M ⟨rfl,d⟩;have I:=hid (V1.o.fr d (by simp));have z:=hid (V.o.trans d);clear d;have T:=I.o.lt;obtain⟨y0,y1,y2,y3,y4,y5,y6⟩:=seven I.o;go_wp2_with fail;refine(O.o _).mono ?_;rintro e3 w3 ⟨rfl,rfl⟩;go_wp2;go_roundg (l.length - (k+1))
          case measure=>omega
          case rel=>exact⟨k+1,a,rfl,by omega,by go_num,hid f.o.symm,z08 P.o z.o (by simp),E.o.trans z.o⟩
       ·obtain rfl:k=l.length:=by omega
        have G:=n.o;rw[Ym] at G;go_wp2;go_ret2;rw[←G];exact⟨_,_,rfl,P.o,E.o⟩)
   | (go_wp2
      go_ret2;exact⟨_,_,rfl,World.ownsRow_nil _ _ _ _,H.trans d⟩)
 ·rw[Xc ha] at C;rw[C.o] at s ⊢;rw[Xc ha] at s;rw[s.o];have q1:(z6h l now ⟨#[]⟩ != 0)=true:=by simpa using ha
  have q2:(z6h l now ⟨#[]⟩==0)=false:=by simpa using ha
  clear ha s C;generalize z6h l now ⟨#[]⟩=r at *;go_enter func207,ntmps207;go_wp2_with fail;refine Y.o.mono ?_;rintro e1 w1 ⟨rfl,H⟩;go_wp2;go_ret2;exact⟨_,_,rfl,World.ownsRow_nil _ _ _ _,H⟩
def zq2(w:World)(base B:Nat)(v:Value)(x:Itm):Prop:=z0p w B v x∨z0k w base v x
theorem zq2.form{w:World}{base B:Nat}{v:Value}{x:Itm}(h:zq2 w base B v x):∃A1 c1 A2 c2 A3 c3,v=.agg #[.int .i64 x.kind,.string x.text,.slice A1 x.list.length c1,.slice A2 x.pairs.length c2,.slice A3 x.scores.length c3]:=by
 rcases h with h|h
 ·exact h.form
 ·exact h.form
def LieP(base B:Nat)(x:Itm)(c:Bool)(w:World)(e:Ending)(w':World):Prop:=∃u,e=.returned u∧zq2 w' base B u x∧(c=true→z0k w' base u x)∧Fr [] w w'
theorem zpf(ss:List YX)(kb:Nat)(RA:YV)(rc:Nat)(x:Slt)(A1 A2 A3:YV)(c1 c2 c3:Nat)(w:World)(B:Nat)(hx:x.Small)(hs:∀l∈ss,l.length≤281474976710656∧∀t∈l,t.size≤281474976710656)(hl:ss.length≤281474976710656)(ht:x.cold=true→z2w ss x.seg x.rcd=true)(hB:B≤w.heap.size)
  (hg:w.cell? ⟨kb,1,none⟩=some (.slice RA ss.length rc)) (h:z5g w B (.slice RA ss.length rc) ss) (hv:zis w B (z3d x A1 c1 A2 c2 A3 c3) x):
  Calls prog 120 #[.pointer (some ⟨kb,0,none⟩),.agg #[.string x.key,.bool x.cold,.int .i64 x.item.kind,.string x.item.text,.slice A1 x.item.list.length c1,.slice A2 x.item.pairs.length c2,.slice A3 x.item.scores.length c3,.int .i64 x.seg,.int .i64 x.rcd,.int .i64 x.til]] w (LieP w.heap.size B (z6u ss x) x.cold w):=by
 have F:=hid (((Fr.refl [] w).alloc (.cells #[.string x.key,.bool x.cold,.int .i64 x.item.kind,.string x.item.text,.slice A1 x.item.list.length c1,.slice A2 x.item.pairs.length c2,.slice A3 x.item.scores.length c3,.int .i64 x.seg,.int .i64 x.rcd,.int .i64 x.til] 124)).alloc (.cells #[.int .i64 0,.string ⟨#[]⟩,.slice none 0 0,.slice none 0 0,.slice none 0 0] 68));have I:=hid ((Whole.new w 124 [.string x.key,.bool x.cold,.int .i64 x.item.kind,.string x.item.text,.slice A1 x.item.list.length c1,.slice A2 x.item.pairs.length c2,.slice A3 x.item.scores.length c3,.int .i64 x.seg,.int .i64 x.rcd,.int .i64 x.til]).alloc (.cells #[.int .i64 0,.string ⟨#[]⟩,.slice none 0 0,.slice none 0 0,.slice none 0 0] 68))
 have p:=hid (show Whole ((w.alloc (.cells #[.string x.key,.bool x.cold,.int .i64 x.item.kind,.string x.item.text,.slice A1 x.item.list.length c1,.slice A2 x.item.pairs.length c2,.slice A3 x.item.scores.length c3,.int .i64 x.seg,.int .i64 x.rcd,.int .i64 x.til] 124)).alloc (.cells #[.int .i64 0,.string ⟨#[]⟩,.slice none 0 0,.slice none 0 0,.slice none 0 0] 68)) (w.heap.size+1) 68 [.int .i64 0,.string ⟨#[]⟩,.slice none 0 0,.slice none 0 0,.slice none 0 0] from by
  have:=Whole.new (w.alloc (.cells #[.string x.key,.bool x.cold,.int .i64 x.item.kind,.string x.item.text,.slice A1 x.item.list.length c1,.slice A2 x.item.pairs.length c2,.slice A3 x.item.scores.length c3,.int .i64 x.seg,.int .i64 x.rcd,.int .i64 x.til] 124)) 68 [.int .i64 0,.string ⟨#[]⟩,.slice none 0 0,.slice none 0 0,.slice none 0 0];simpa using this)
 have IV:=hid hv.item;have HG:=hid hg;have a6:kb < w.heap.size:=World.block_lt_of_cell? w _ hg;cases hc:x.cold with
 | false=>
  have E:=hid (show z6u ss x=x.item from by unfold z6u;rw[Xc (by rw[hc];decide)]);rw[hc] at F I p;obtain⟨x0,x1,X,x3,x4,x5,x6,x7,Z,V⟩:=ten I.o;obtain⟨n,A,D,y,C⟩:=five p.o;obtain⟨f0,P,M,U,N⟩:=z11 p.o;rw[E.o];clear hg h hv ht hx;go_enter func120,ntmps120;go_wp2;refine Xg (v:=.agg #[.int .i64 x.item.kind,.string x.item.text,.slice A1 x.item.list.length c1,.slice A2 x.item.pairs.length c2,.slice A3 x.item.scores.length c3]) (by simp[results,results120,go_sem,n,A,D,y,C]) rfl ?_;have R:Fr [] w ((w.alloc (.cells #[.string x.key,.bool false,.int .i64 x.item.kind,.string x.item.text,.slice A1 x.item.list.length c1,.slice A2 x.item.pairs.length c2,.slice A3 x.item.scores.length c3,.int .i64 x.seg,.int .i64 x.rcd,.int .i64 x.til] 124)).alloc (.cells #[.int .i64 x.item.kind,.string x.item.text,.slice A1 x.item.list.length c1,.slice A2 x.item.pairs.length c2,.slice A3 x.item.scores.length c3] 68)):=((Fr.refl [] w).alloc _).alloc _;exact⟨_,rfl,.inl (IV.o.fr R hB (by simp)),(fun h=>by cases h),R⟩
 | true=>
  have E:=hid (show z6u ss x=z0m (zf6 ss x.seg x.rcd) from by unfold z6u;rw[Xf hc]);rw[hc] at F I p;rw[E.o];obtain⟨i,j,l,t,ea,eb,hi,Y,r⟩:=z9l (ht hc);rw[r];rw[ea,eb] at F I p ⊢;have ai:=(Xe.1 hi).1;have a4:=(Xe.1 Y).1;have H:=hs l (Xj hi);have DE:=hid (fun W=>zge t W (H.2 t (Xj Y)));unfold zlw at DE;have af:=H.1;obtain⟨b,off,rfl,hb,a3,a1,S⟩:=h.at_ (by omega);obtain⟨T1,d1,z0,s0⟩:=S i l hi;obtain⟨b2,u,rfl,a9,a8,a0,s⟩:=s0.at_ (by omega);have z1:=s j _ (z0x _ _ _ Y);have g0:=F.o.cell HG.o (by simp);have g1:=F.o.cell z0 (by simp);have g2:=F.o.cell z1 (by simp);obtain⟨x0,x1,X,x3,x4,x5,x6,x7,Z,V⟩:=ten I.o;obtain⟨n,A,D,y,C⟩:=five p.o;obtain⟨f0,P,M,U,N⟩:=z11 p.o;have ag:(0:Int)≤(i:Int):=by omega
  have a7:(i:Int) < (ss.length:Int):=by omega
  have a5:(0:Int)≤(j:Int):=by omega
  have ad:(j:Int) < (l.length:Int):=by omega
  unfold maxLen at a1 a0;have HZ:=hid z0;have a2:=hid z1;clear hg h hv ht hx hi Y S s s0 z0 z1 ea eb r H hs E;go_enter func120,ntmps120;go_wp2;have ac:¬w.heap.size+1+1=kb:=by omega
  have ab:¬w.heap.size+1+1=b:=by omega
  have aa:¬w.heap.size+1+1=b2:=by omega
  have ae:¬w.heap.size+1+1=w.heap.size:=by omega
  go_region_held3 (fun K=>K.cell? ⟨kb,1,none⟩=some (.slice (some ⟨b,off,none⟩) ss.length rc)∧K.cell? ⟨w.heap.size,7,none⟩=some (.int .i64 (i:Int))∧K.cell? ⟨w.heap.size,8,none⟩=some (.int .i64 (j:Int))∧K.cell? ⟨b,off+i,none⟩=some (.slice (some ⟨b2,u,none⟩) l.length d1)∧K.cell? ⟨b2,u+j,none⟩=some (.string t)) (go_keep) ((go_at_call 137;(first
    | (((with_reducible refine(DE.o (((w.alloc (.cells #[.string x.key,.bool true,.int .i64 x.item.kind,.string x.item.text,.slice A1 x.item.list.length c1,.slice A2 x.item.pairs.length c2,.slice A3 x.item.scores.length c3,.int .i64 (i:Int),.int .i64 (j:Int),.int .i64 x.til] 124)).alloc (.cells #[.int .i64 0,.string ⟨#[]⟩,.slice none 0 0,.slice none 0 0,.slice none 0 0] 68)).drew)).mono ?_));rintro e4 G ⟨z,rfl,L,Q⟩;have KF:=hid (z01 Q);have HB:=hid (show z0k G (w.heap.size+2) z (z0m t) from L.less (by simp[World.drew])))
    | (((with_reducible refine(DE.o ((((w.alloc (.cells #[.string x.key,.bool true,.int .i64 x.item.kind,.string x.item.text,.slice A1 x.item.list.length c1,.slice A2 x.item.pairs.length c2,.slice A3 x.item.scores.length c3,.int .i64 (i:Int),.int .i64 (j:Int),.int .i64 x.til] 124)).alloc (.cells #[.int .i64 0,.string ⟨#[]⟩,.slice none 0 0,.slice none 0 0,.slice none 0 0] 68)).alloc (.cells #[.int .i64 0,.string ⟨#[]⟩,.slice none 0 0,.slice none 0 0,.slice none 0 0] 68)).drew)).mono ?_));rintro e4 G ⟨z,rfl,L,Q⟩;have KF:=hid (((Fr.refl [] ((w.alloc (.cells #[.string x.key,.bool true,.int .i64 x.item.kind,.string x.item.text,.slice A1 x.item.list.length c1,.slice A2 x.item.pairs.length c2,.slice A3 x.item.scores.length c3,.int .i64 (i:Int),.int .i64 (j:Int),.int .i64 x.til] 124)).alloc (.cells #[.int .i64 0,.string ⟨#[]⟩,.slice none 0 0,.slice none 0 0,.slice none 0 0] 68))).alloc (.cells #[.int .i64 0,.string ⟨#[]⟩,.slice none 0 0,.slice none 0 0,.slice none 0 0] 68)).trans (z01 Q));have N4:=hid (show Whole G (w.heap.size+1+1) 68 [.int .i64 0,.string ⟨#[]⟩,.slice none 0 0,.slice none 0 0,.slice none 0 0] from(by have:=(Whole.new ((w.alloc (.cells #[.string x.key,.bool true,.int .i64 x.item.kind,.string x.item.text,.slice A1 x.item.list.length c1,.slice A2 x.item.pairs.length c2,.slice A3 x.item.scores.length c3,.int .i64 (i:Int),.int .i64 (j:Int),.int .i64 x.til] 124)).alloc (.cells #[.int .i64 0,.string ⟨#[]⟩,.slice none 0 0,.slice none 0 0,.slice none 0 0] 68)) 68 [.int .i64 0,.string ⟨#[]⟩,.slice none 0 0,.slice none 0 0,.slice none 0 0]).fr (z01 Q) (by simp);simpa[World.drew] using this));have HA:=hid (show z0k G (w.heap.size+3) z (z0m t) from L.less (by simp[World.drew]));obtain⟨n0,n1,n2,n3,n4⟩:=five N4.o;obtain⟨m0,m1,m2,m3,m4⟩:=z11 N4.o));obtain⟨g,m,k,e,f,d,rfl⟩:=L.form;have J:=hid (F.o.trans KF.o);have V4:=hid (I.o.fr KF.o (by simp));have R4:=hid (p.o.fr KF.o (by simp));have ah:=R4.o.lt;clear L Q g0 g1 g2 x0 x1 X x3 x4 x5 x6 x7 Z V n A D y C f0 P M U N;have g0:=J.o.cell HG.o (by simp);have g1:=J.o.cell HZ.o (by simp);have g2:=J.o.cell a2.o (by simp);obtain⟨x0,x1,X,x3,x4,x5,x6,x7,Z,V⟩:=ten V4.o;obtain⟨n,A,D,y,C⟩:=five R4.o;obtain⟨f0,P,M,U,N⟩:=z11 R4.o))
  ·have ga:=(Fr.refl [] G).alloc (.cells #[.int .i64 (z0m t).kind,.string (z0m t).text,.slice g (z0m t).list.length m,.slice k (z0m t).pairs.length e,.slice f (z0m t).scores.length d] 68);have T5:=Whole.new G 68 [.int .i64 (z0m t).kind,.string (z0m t).text,.slice g (z0m t).list.length m,.slice k (z0m t).pairs.length e,.slice f (z0m t).scores.length d];have R5:=R4.o.alloc (.cells #[.int .i64 (z0m t).kind,.string (z0m t).text,.slice g (z0m t).list.length m,.slice k (z0m t).pairs.length e,.slice f (z0m t).scores.length d] 68);have T:=hid (HB.o.go ga);have F5:=hid (J.o.trans ga);clear ga;obtain⟨w5,O⟩:∃w5,w5=G.alloc (.cells #[.int .i64 (z0m t).kind,.string (z0m t).text,.slice g (z0m t).list.length m,.slice k (z0m t).pairs.length e,.slice f (z0m t).scores.length d] 68):=⟨_,rfl⟩;rw[←O] at T5 R5 T F5 ⊢;clear O g0 g1 g2 x0 x1 X x3 x4 x5 x6 x7 Z V n A D y C f0 P M U N;obtain⟨t0,t1,t2,t3,t4⟩:=five T5;obtain⟨n,A,D,y,C⟩:=five R5;obtain⟨f0,P,M,U,N⟩:=z11 R5;go_wp2;refine Xg (v:=.agg #[.int .i64 (z0m t).kind,.string (z0m t).text,.slice g (z0m t).list.length m,.slice k (z0m t).pairs.length e,.slice f (z0m t).scores.length d]) (by simp[results,results120,go_sem,n,A,D,y,C]) rfl ?_;have a:=(z1v T.o (show w.heap.size+1 < w.heap.size+2 by omega) (.int .i64 (z0m t).kind) (.string (z0m t).text) (.slice g (z0m t).list.length m) (.slice k (z0m t).pairs.length e) (.slice f (z0m t).scores.length d)).less (show w.heap.size≤w.heap.size+2 by omega);exact⟨_,rfl,.inr a,(fun _=>a),z6s F5.o (by omega) _ _ _ _ _⟩
  ·go_wp2;refine Xg (v:=.agg #[.int .i64 (z0m t).kind,.string (z0m t).text,.slice g (z0m t).list.length m,.slice k (z0m t).pairs.length e,.slice f (z0m t).scores.length d]) (by simp[results,results120,go_sem,n,A,D,y,C]) rfl ?_;have a:=(z1v (z1v HA.o (show w.heap.size+1+1 < w.heap.size+3 by omega) (.int .i64 (z0m t).kind) (.string (z0m t).text) (.slice g (z0m t).list.length m) (.slice k (z0m t).pairs.length e) (.slice f (z0m t).scores.length d)) (show w.heap.size+1 < w.heap.size+3 by omega) (.int .i64 (z0m t).kind) (.string (z0m t).text) (.slice g (z0m t).list.length m) (.slice k (z0m t).pairs.length e) (.slice f (z0m t).scores.length d)).less (show w.heap.size≤w.heap.size+3 by omega);exact⟨_,rfl,.inr a,(fun _=>a),z6s (z6s J.o (by omega) _ _ _ _ _) (by omega) _ _ _ _ _⟩
def zsc(w:World)(base B:Nat)(cs:List Value)(e:Ent):Prop:=zlx w B cs e∨z38 w base cs e
def zbo(w:World)(base B:Nat)(v:Value)(l:List Ent):Prop:=∃rs:List (List Value),zfp (zsc w base B) rs l∧w.ownsRow base 70 7 v l.length rs.flatten
section
variable {w w':World} {base B n:Nat} {v v':Value} {l:List Ent} {e:Ent} {cs:List Value} {rs:List (List Value)}
theorem zsc.go(h:zsc w base B cs e)(hf:Fr [] w w')(hB:B≤w.heap.size):zsc w' base B cs e:=by
 rcases h with h|h
 ·exact .inl (h.fr hf hB (by simp))
 ·exact .inr (h.fr hf)
theorem zsc.row{T size n base':Nat}{u:Value}{xs:List Value}(h:zsc w base B cs e)(ho:w.ownsRow base' T size u n xs)(hT:9≠T∧97≠T∧102≠T)(hf:Fr (z1w u) w w')(hB:B≤w.heap.size)(hb:B≤base'):zsc w' base B cs e:=by
 rcases h with h|h
 ·exact .inl (h.fr hf hB (fun k a=>Xd hb (z19 ho a)))
 ·exact .inr (h.row ho hT hf)
theorem zbo.form(h:zbo w base B v l):∃A c,v=.slice A l.length c:=by
 obtain⟨b,_,a⟩:=h;obtain⟨A,c,rfl,-⟩:=z05 a;exact⟨A,c,rfl⟩
theorem zbo.nil(w)(base B:Nat):zbo w base B (.slice none 0 0) []:=⟨[],zfp.nil,World.ownsRow_nil _ _ _ _⟩
theorem zbo.val(h:zbo w base B v l)(hB:B≤w.heap.size):z1f w w.heap.size v l:=by
 obtain⟨f,d,h3⟩:=h;obtain⟨A,c,rfl,-⟩:=z05 h3;refine⟨A,c,f,rfl,d.len,fun i e g=>?_,z0l h3⟩;obtain⟨b,h4,a⟩:=d.at_ i e g;rcases a with a|a
 ·exact⟨b,h4,a.more hB⟩
 ·exact⟨b,h4,a.c⟩
theorem zbo.snoc(h:zfp (zsc w base B) rs l)(he:zsc w base B cs e)(hn:l.length=n)(hB:B≤w.heap.size)(hb:B≤base)(ho:w.ownsRow base 70 7 v n rs.flatten)(hg:w.grownBy w' v.ownBlock)(h':w'.ownsRow base 70 7 v' (n+1) (rs.flatten++cs)):zbo w' base B v' (l++[e]):=by
 subst hn;have a:=z1u hg;refine⟨rs++[cs],(h.imp fun _ _ h=>h.row ho z2f a hB hb).snoc (he.row ho z2f a hB hb),?_⟩;simpa using h'
end
theorem z5s{w:World}{base e size n b T:Nat}{v:Value}{xs cs:List Value}(h:w.ownsRow base e size v n xs)(hw:Whole w b T cs)(hT:T≠e)(hm:b∈z1w v):False:=z0u h hw hT (by
 unfold z1w at hm;split at hm
 ·simp at hm;subst hm;rfl
 ·cases hm)
theorem zq2.ent{w:World}{base B:Nat}{y:Itm}{A1 A2 A3:YV}{c1 c2 c3:Nat}(h:zq2 w base B (.agg #[.int .i64 y.kind,.string y.text,.slice A1 y.list.length c1,.slice A2 y.pairs.length c2,.slice A3 y.scores.length c3]) y)(k)(t:Int):zsc w base B (z9p ⟨k,y,t⟩ A1 c1 A2 c2 A3 c3) ⟨k,y,t⟩:=by
 rcases h with⟨l,g,m,e,j,f,a,d,b,h3⟩|⟨v1,v2,v3,a,d,b,h3⟩
 ·cases a;exact .inl ⟨_,_,_,_,_,_,rfl,d,b,h3⟩
 ·cases a;exact .inr ⟨_,_,_,_,_,_,rfl,d,b,h3⟩
theorem zq0{s:Sto}{k:Nat}{x:Slt}(h:s.slots[k]? = some x):(z0y s)[k]? = some ⟨x.key,z6u s.segs x,x.til⟩:=by
 unfold z0y;rw[Uc,h];rfl
theorem zlp(s):(z0y s).length=s.slots.length:=by unfold z0y;rw[Xx]
def ViP(base B:Nat)(l:List Ent)(w:World)(e:Ending)(w':World):Prop:=∃u,e=.returned u∧zbo w' base B u l∧Fr [] w w'
theorem zip(s:Sto)(kb:Nat)(SA RA:YV)(sc rc:Nat)(w:World)(B:Nat)(hs:s.Small)(hn:s.slots.length≤1000000)(ht:∀x∈s.slots,x.cold=true→z2w s.segs x.seg x.rcd=true)(hB:B≤w.heap.size)
  (g0:w.cell? ⟨kb,0,none⟩=some (.slice SA s.slots.length sc)) (g1:w.cell? ⟨kb,1,none⟩=some (.slice RA s.segs.length rc)) (h:z6d w B (.slice SA s.slots.length sc) s.slots) (hr:z5g w B (.slice RA s.segs.length rc) s.segs):
  Calls prog 73 #[.pointer (some ⟨kb,0,none⟩)] w (ViP w.heap.size B (z0y s) w):=by
 obtain⟨i0,hi,hz0,hz1,hz2⟩:=info_parts zbu;have HV:=hid h;have HR:=hid hr;have HS:=hid hs;have HT:=hid ht;have G1:=hid g1;have V:=zlp s;have a5:=hs.le;clear h hr hs ht g1;go_enter func73,ntmps73;go_wp2;clear g0;go_loopg [3,12] s.slots.length (fun g o i wr=>∃(k:Nat),g=s.slots.length - k∧k≤s.slots.length∧i=.int .i64 k∧zbo wr w.heap.size B o ((z0y s).take k)∧Fr [] w wr)
 case atStart=>exact⟨0,rfl,Xt _,rfl,by rw[Jd];exact zbo.nil _ _ _,Fr.refl _ _⟩
 case round=>
  obtain⟨k,rfl,hk,rfl,hO,hf⟩:=hrel;have z:=hid hf;have HO:=hid hO;have C:((z0y s).take k).length=k:=by rw[Xp];omega
  obtain⟨Ao,co,hv⟩:=hO.form;rw[C] at hv;subst hv;clear hf hO C;by_cases hlt:k < s.slots.length
  ·obtain⟨b,off,rfl,hb,hc,a4,X⟩:=HV.o.at_ (by omega);obtain⟨x,hx⟩:∃x,s.slots[k]? = some x:=⟨_,Xa hlt⟩;obtain⟨A1,A2,A3,c1,c2,c3,R⟩:=X k x hx;have E:=Xj hx;have U:=hid (R.fr z.o hb hB (by simp));obtain⟨J,O,H,N,K,M,P,L,I,G,-⟩:=U.o;have ET:=hid (show(z0y s).take (k+1)=(z0y s).take k++[⟨x.key,z6u s.segs x,x.til⟩] from by rw[Xz,zq0 hx];rfl);have LT:=hid (show((z0y s).take k).length=k from by rw[Xp];omega);have LI:=hid (fun W (hW:Fr [] wr W)=>zpf s.segs kb RA rc x A1 A2 A3 c1 c2 c3 W B (HS.o.slots x E) HS.o.segs HS.o.sle (HT.o x E) (Xd hB (z.o.trans hW).size) ((z.o.trans hW).cell G1.o (by simp)) (HR.o.fr (z.o.trans hW) hB (by simp)) (U.o.ent.fr hW (Xd hB z.o.size) (by simp)));obtain⟨y,hy⟩:∃y,y=z6u s.segs x:=⟨_,rfl⟩;rw[←hy] at LI ET;have V1:=hid (Whole.new wr 124 (ySl x A1 c1 A2 c2 A3 c3));have F1:=hid ((Fr.refl [] wr).alloc (.cells (ySa x A1 c1 A2 c2 A3 c3) 124));have p:=z.o.size;obtain⟨rs,Q,S⟩:=HO.o;have HQ:=hid (show wr.ownsRow w.heap.size 70 7 (.slice Ao k co) k rs.flatten from by have:=S;rw[LT.o] at this;exact this);have a2:=hid Q;have q1:k+1≤maxLen:=by unfold maxLen;omega
   have q2:(k+1) * 120≤140737488355328:=by omega
   unfold maxLen at a4;clear X R hx E hy Q S;go_upto_region 5 with fail;clear J O H N K M P L I G;obtain⟨J,O,H,N,K,M,P,L,I,G⟩:=ten V1.o
   go_region_held3 (fun wx=>ySc wx wr.heap.size x A1 c1 A2 c2 A3 c3) ((simp only[ySc];go_keep)) ((first
    | (go_at_call 120;refine(LI.o _ F1.o.drew).mono ?_;rintro e4 F ⟨u,rfl,hu,-,k4⟩;obtain⟨m,r,n,f,l,d,rfl⟩:=hu.form;have HU:=hid (show zq2 F wr.heap.size B _ y from hu.imp id (fun h=>h.base (by simp[World.drew])));have Z:=hid (F1.o.trans (z01 k4));have V4:=hid (V1.o.fr (z01 k4) (by simp));have t:=hid (z08 HQ.o Z.o (by simp));have Y:=Z.o.size;have a3:=hid (z0l (World.ownsRow_lit (base:=F.heap.size) (e:=70) (size:=7) F #[.string x.key,.int .i64 y.kind,.string y.text,.slice m y.list.length r,.slice n y.pairs.length f,.slice l y.scores.length d,.int .i64 x.til] 1 (Xb _) (by decide) rfl));have q4:w.heap.size≤(F.alloc (.cells #[.string x.key,.int .i64 y.kind,.string y.text,.slice m y.list.length r,.slice n y.pairs.length f,.slice l y.scores.length d,.int .i64 x.til] 70)).heap.size:=(Xd p (Xd Y (by simp)));clear hu k4 J O H N K M P L I G;obtain⟨J,O,H,N,K,M,P,L,I,G⟩:=ten V4.o)
    | (refine z3u _ rfl _ _ 23 rfl w.heap.size 70 i0 _ 7 120 underlying23 hi hz0 hz1 hz2 rfl (by decide) _ _ _ rfl (t.o.alloc _) _ _ 1 _ rfl a3.o (zde ⟨x.key,y,x.til⟩ m n l r f d) q1 q2 q4 ?_;intro v5 w5 A a T;have a1:=hid A;have a0:=hid a;have OQ:=hid (t.o.alloc (.cells #[.string x.key,.int .i64 y.kind,.string y.text,.slice m y.list.length r,.slice n y.pairs.length f,.slice l y.scores.length d,.int .i64 x.til] 70));have F5:=hid ((z.o.trans (Z.o.alloc (.cells #[.string x.key,.int .i64 y.kind,.string y.text,.slice m y.list.length r,.slice n y.pairs.length f,.slice l y.scores.length d,.int .i64 x.til] 70))).grown a (fun j hj=>.inr (t.o.lt j hj).1));have V5:=hid ((V4.o.alloc (.cells #[.string x.key,.int .i64 y.kind,.string y.text,.slice m y.list.length r,.slice n y.pairs.length f,.slice l y.scores.length d,.int .i64 x.til] 70)).fr (z1u a) (fun hm=>z5s t.o V4.o (by decide) hm));clear A a T J O H N K M P L I G;obtain⟨J,O,H,N,K,M,P,L,I,G⟩:=ten V5.o)))
   have HE:=hid (show zbo w5 w.heap.size B v5 ((z0y s).take (k+1)) from by
    rw[ET.o];have ga:=(Fr.refl [] F).alloc (.cells #[.string x.key,.int .i64 y.kind,.string y.text,.slice m y.list.length r,.slice n y.pairs.length f,.slice l y.scores.length d,.int .i64 x.til] 70);have D:B≤F.heap.size:=Xd hB (Xd p Y);refine zbo.snoc (a2.o.imp fun _ _ h=>(h.go Z.o (Xd hB p)).go ga D) (cs:=z9p ⟨x.key,y,x.til⟩ m r n f l d) (zsc.go (show zsc F w.heap.size B (z9p ⟨x.key,y,x.til⟩ m r n f l d) ⟨x.key,y,x.til⟩ from(HU.o.ent x.key x.til).imp id (fun h=>h.base p)) ga D) LT.o (Xd D ga.size) hB OQ.o a0.o a1.o)
   go_wp2;go_roundg (s.slots.length - (k+1))
   case measure=>omega
   case rel=>exact⟨k+1,rfl,by omega,by go_num,HE.o,F5.o⟩
  ·obtain rfl:k=s.slots.length:=by omega
   rw[←V,Ym] at HO;go_wp2;go_ret;exact⟨_,rfl,by have:=HO.o;rw[V] at this;exact this,z.o⟩
def VwP(s:Sto)(w:World)(e:Ending)(w':World):Prop:=∃u,e=.returned (.tuple #[u,.int .i64 (z0q s)])∧z1f w' w'.heap.size u (if z0q s=0 then z0y s else [])∧Fr [] w w'
theorem z9j{s:Sto}(h:z6e s):Bulk s:=by
 have b:∀e∈s.slots,e.item.list.length+e.item.pairs.length+e.item.scores.length≤24:=fun e a=>by
  have:=h.slot e a;cases hc:e.cold with
  | false=>exact(z2t (this.hot hc).1).many
  | true=>
   have d:=(this.cold hc).1;unfold z0v z6q at d;simp only[Yf,Jp,beq_iff_eq] at d;omega
 exact⟨fun e a=>by have:=b e a;omega,by have:=h.le;omega,by have:=h.sle;omega,fun l f=>by have:=h.rle l f;omega⟩
theorem zbf(l)(v u)(w:World)(B:Nat)(hs:∀e∈l,e.Small)(hl:l.length≤281474976710656)(hB:B≤w.heap.size)(h:z1f w B v l)(k:z1f w B u l):
  Calls prog 27 #[v,u] w fun e w'=>e=.returned (.bool true)∧Fr [] w w':=by
 obtain⟨A,c,rfl⟩:=h.form;obtain⟨A',c',rfl⟩:=k.form;have HV:=hid h;have KV:=hid k;have HS:=hid hs;clear h k hs;go_enter func27,ntmps27;go_wp2;go_loopg [5] l.length (fun g i wr=>∃(k:Nat),g=l.length - k∧k≤l.length∧i=.int .i64 k∧Fr [] w wr)
 case atStart=>exact⟨0,rfl,Xt _,rfl,Fr.refl _ _⟩
 case round=>
  obtain⟨k,rfl,hk,rfl,Q⟩:=hrel;have f:=hid Q;clear Q;by_cases hlt:k < l.length
  ·obtain⟨b,off,rfl,G,hc,a0,p⟩:=HV.o.at_ (by omega);obtain⟨n,a,rfl,r,a1,P,j⟩:=KV.o.at_ (by omega);obtain⟨e,s⟩:∃e,l[k]? = some e:=⟨_,Xa hlt⟩;obtain⟨K,A2,A3,c1,c2,S,M⟩:=p k e s;obtain⟨U,B2,T,e1,N,e3,J⟩:=j k e s;have C:=hid (M.fr f.o G hB (by simp));have y:=hid (J.fr f.o r hB (by simp));have m:=HS.o e (Xj s)
   have SI:=hid (show Calls prog 94 #[.agg (yIa e.item K c1 A2 c2 A3 S),.agg (yIa e.item U e1 B2 N T e3)] wr.drew fun e w'=>e=.returned (.bool true)∧Fr [] wr.drew w' from by
    have:=zla e.item e.item _ _ wr.drew B m.item m.item (Xd hB f.o.size) (C.o.ent.fr (Fr.refl [] _).drew (Xd hB f.o.size) (by simp)).item (y.o.ent.fr (Fr.refl [] _).drew (Xd hB f.o.size) (by simp)).item;rw[zs0] at this;exact this)
   obtain⟨E,x1,V,H,F,X,x6,-⟩:=C.o;obtain⟨Y,I,y2,L,W,O,R,-⟩:=y.o;have x:=zov e.key;have q2:=x.1;have q3:=x.2;clear p j M J s m x;go_wp2;go_region_held3 (fun d=>d.cell? ⟨b,off+k * 7,none⟩=some (.string e.key)∧d.cell? ⟨b,off+k * 7+1,none⟩=some (.int .i64 e.item.kind)∧d.cell? ⟨b,off+k * 7+2,none⟩=some (.string e.item.text)∧d.cell? ⟨b,off+k * 7+3,none⟩=some (.slice K e.item.list.length c1)∧d.cell? ⟨b,off+k * 7+4,none⟩=some (.slice A2 e.item.pairs.length c2)∧d.cell? ⟨b,off+k * 7+5,none⟩=some (.slice A3 e.item.scores.length S)∧d.cell? ⟨b,off+k * 7+6,none⟩=some (.int .i64 e.til)∧d.cell? ⟨n,a+k * 7,none⟩=some (.string e.key)∧d.cell? ⟨n,a+k * 7+1,none⟩=some (.int .i64 e.item.kind)∧d.cell? ⟨n,a+k * 7+2,none⟩=some (.string e.item.text)∧d.cell? ⟨n,a+k * 7+3,none⟩=some (.slice U e.item.list.length e1)∧d.cell? ⟨n,a+k * 7+4,none⟩=some (.slice B2 e.item.pairs.length N)∧d.cell? ⟨n,a+k * 7+5,none⟩=some (.slice T e.item.scores.length e3)∧d.cell? ⟨n,a+k * 7+6,none⟩=some (.int .i64 e.til)) (go_keep) ((go_at_call 94;refine SI.o.mono ?_;rintro e9 w2 ⟨rfl,Z⟩;have z:=hid (z01 Z);have D:=hid (C.o.fr z.o G (Xd hB f.o.size) (by simp));have t:=hid (y.o.fr z.o r (Xd hB f.o.size) (by simp));clear Z E x1 V H F X x6 Y I y2 L W O R;obtain⟨E,x1,V,H,F,X,x6,-⟩:=D.o;obtain⟨Y,I,y2,L,W,O,R,-⟩:=t.o));go_wp2;go_roundg (l.length - (k+1))
   case measure=>omega
   case rel=>exact⟨k+1,rfl,by omega,by go_num,f.o.trans z.o⟩
  ·obtain rfl:k=l.length:=by omega
   go_wp2;go_ret;exact⟨rfl,f.o⟩
def q6s:Itm:=⟨1,⟨#[55]⟩,[],[],[]⟩
def z1r:List Ent:=[⟨⟨#[108]⟩,zpr,0⟩,⟨⟨#[116]⟩,q6s,10⟩]
theorem zic:z1z z1r=0:=by kernel_rfl
def SomeS(l:List Ent)(w:World)(r:Ending)(w':World):Prop:=∃u,r=.returned u∧z2a w' w.heap.size u l∧Fr [] w w'
theorem z7c(w):Calls prog 65 #[] w (SomeS z1r w):=by
 go_enter func65,ntmps65;go_wp2_with fail;refine(q4f _).mono ?_;rintro e b ⟨v,rfl,hi,j⟩;obtain⟨d,c1,g,c2,f,h,rfl⟩:=hi.form;have r:=hid hi;have k:=hid j;have m:=hid (World.ownsRow_lit (base:=b.heap.size) (e:=70) (size:=7) b #[.string ⟨#[108]⟩,.int .i64 zpr.kind,.string zpr.text,.slice d zpr.list.length c1,.slice g zpr.pairs.length c2,.slice f zpr.scores.length h,.int .i64 0,.string ⟨#[116]⟩,.int .i64 1,.string ⟨#[55]⟩,.slice none 0 0,.slice none 0 0,.slice none 0 0,.int .i64 10] 2 (Xb _) (by decide) rfl);clear hi j;go_wp2;go_ret;have l:=(Fr.refl [] b).alloc (.cells #[.string ⟨#[108]⟩,.int .i64 zpr.kind,.string zpr.text,.slice d zpr.list.length c1,.slice g zpr.pairs.length c2,.slice f zpr.scores.length h,.int .i64 0,.string ⟨#[116]⟩,.int .i64 1,.string ⟨#[55]⟩,.slice none 0 0,.slice none 0 0,.slice none 0 0,.int .i64 10] 70);refine⟨_,rfl,⟨[z9p ⟨⟨#[108]⟩,zpr,0⟩ d c1 g c2 f h,z9p ⟨⟨#[116]⟩,q6s,10⟩ none 0 none 0 none 0],rfl,fun i e a=>?_,z0i m.o k.o.size⟩,k.o.trans l⟩
 match i,a with
 | 0,a=>
  cases a;refine⟨_,rfl,?_⟩;obtain⟨y,x,u,p,t,s,n⟩:=r.o.go l;cases p;exact⟨_,_,_,_,_,_,rfl,t,s,n⟩
 | 1,a=>
  cases a;exact⟨_,rfl,_,_,_,_,_,_,rfl,World.ownsRow_nil _ _ _ _,World.ownsRow_nil _ _ _ _,World.ownsRow_nil _ _ _ _⟩
 | i+2,a=>simp[z1r] at a
structure KpM(w:World)(base mid kb:Nat)(a b:Value)(s:Sto):Prop where
 k:Whole w kb 115 [a,b]
 m:base≤mid
 kb:base≤kb
 sl:z2b w base mid a s.slots
 sg:z71 w mid b s.segs
 mz:mid≤w.heap.size
def Kp(w:World)(base kb:Nat)(s:Sto):Prop:=∃mid a b,KpM w base mid kb a b s
section
variable {w w1:World} {base mid kb:Nat} {a b:Value} {s:Sto}
theorem KpM.go(h:KpM w base mid kb a b s)(f:Fr [] w w1):KpM w1 base mid kb a b s:=⟨h.k.fr f (by simp),h.m,h.kb,h.sl.go f,h.sg.go f,Xd h.mz f.size⟩
end
def KpP(base kb:Nat)(c:Int)(t:Sto)(w:World)(e:Ending)(w':World):Prop:=e=.returned (.int .i64 c)∧FrB [] base w w'∧w.heap.size≤w'.heap.size∧(c=0→Kp w' base kb t)
def zg4(s:Sto)(k:YY)(c:Bool):Nat:=match (z4j s k c).1 with
 | some p=>p.1
 | none=>0
theorem zkd(s:Sto)(base mid kb:Nat)(a b)(key:YY)(c:Bool)(w)(hr:rises (ltK Slt.key) s.slots=true)(hl:s.slots.length≤281474976710656)(h:KpM w base mid kb a b s):
  Calls prog 121 #[.pointer (some ⟨kb,0,none⟩),.string key,.bool c] w fun e w'=>e=.returned (.tuple #[.int .i64 (zg4 s key c),.int .i64 (z4j s key c).2])∧Fr [] w w':=by
 obtain⟨M,L,rfl⟩:=h.sl.form;obtain⟨D,E⟩:=two h.k;have l:=hid (zjw s.slots key M L w.heap.size b w hr hl (Xb _) h.sl.o.v);unfold z3e at l;have K:=hid h;have I:=hid h.sl.o.v
 have d:zg4 s key c=match (z4j s key c).1 with
  | some p=>p.1
  | none=>0:=rfl
 have j:z4j s key c=if z4o Slt.key s.slots key=false then ((none:Option (Nat×Slt)),(5:Int))
  else match s.slots[z1e Slt.key s.slots key]? with
   | none=>(none,5)
   | some x=>if x.cold=c then (some (z1e Slt.key s.slots key,x),0) else (none,4):=rfl
 cases hh:z4o Slt.key s.slots key with
 | false=>
  rw[hh,Xf rfl] at j;rw[j] at d ⊢;simp only at d;rw[hh] at l;rw[d];clear j d h hr hh;go_enter func121,ntmps121;go_wp2_with fail;refine l.o.mono ?_;rintro F B ⟨rfl,f⟩;go_wp2;go_ret2;exact⟨rfl,f⟩
 | true=>
  obtain⟨x,y,J⟩:=(z2s Slt.key).1 hh;have C:=(Xe.1 y).1;rw[hh,Xc (by decide),y] at j;simp only at j;rw[hh] at l;obtain⟨g,off,rfl,O,T,z,n⟩:=I.o.at_ (by omega);obtain⟨P,S,R,c1,c2,Q,r⟩:=n _ x y;have t:=r.k1;have u:=hid t;unfold maxLen at z;clear n r y hh hr h;generalize z1e Slt.key s.slots key=m at *;by_cases hcc:x.cold=c
  ·rw[Xf hcc] at j;rw[j] at d ⊢;simp only at d;rw[d];have G:(x.cold != c)=false:=by rw[hcc];cases c <;> rfl
   have N:(x.cold==c)=true:=by rw[hcc];cases c <;> rfl
   clear j d hcc t;go_enter func121,ntmps121;go_wp2_with fail;refine l.o.mono ?_;rintro F B ⟨rfl,f⟩;have A:=hid f;obtain⟨H,k1⟩:=two (K.o.go f).k;have t:=f.cell u.o (by simp);clear f D E;go_wp2;go_ret2;exact⟨rfl,A.o⟩
  ·rw[Xc hcc] at j;rw[j] at d ⊢;simp only at d;rw[d]
   have G:(x.cold != c)=true:=by
    cases h1:x.cold <;> cases h2:c <;> first|rfl|(rw[h1,h2] at hcc;exact absurd rfl hcc)
   have N:(x.cold==c)=false:=by
    cases h1:x.cold <;> cases h2:c <;> first|rfl|(rw[h1,h2] at hcc;exact absurd rfl hcc)
   clear j d hcc t;go_enter func121,ntmps121;go_wp2_with fail;refine l.o.mono ?_;rintro F B ⟨rfl,f⟩;have A:=hid f;obtain⟨H,k1⟩:=two (K.o.go f).k;have t:=f.cell u.o (by simp);clear f D E;go_wp2;go_ret2;exact⟨rfl,A.o⟩
theorem zvc{α:Type}{l:List α}(h:0 < l.length):∃x,l[l.length - 1]? = some x:=⟨_,Xa (by omega)⟩
theorem zpd{ss:List YX}{l:YX}(h:ss[ss.length - 1]? = some l):z73 ss=l.length:=by unfold z73;rw[z6t h]
def RmP(base kb:Nat)(r:Bool)(t:Sto)(w:World)(e:Ending)(w':World):Prop:=e=.returned (.bool r)∧FrB [] base w w'∧w.heap.size≤w'.heap.size∧(r=true→Kp w' base kb t)
theorem zv2(s:Sto)(base mid kb:Nat)(a b)(w:World)(h8:s.segs.length≤8)(h4:∀l∈s.segs,l.length≤4)(hb:base≤w.heap.size)(h:KpM w base mid kb a b s):
  Calls prog 122 #[.pointer (some ⟨kb,0,none⟩)] w (RmP base kb (zi4 s.segs) ⟨s.slots,z32 s.segs⟩ w):=by
 obtain⟨j0,R,J,L,M⟩:=info_parts zi5;obtain⟨RA,rc,rfl⟩:=h.sg.form;obtain⟨V,W⟩:=two h.k;have K:=hid h;have GV:=hid h.sg.o.v;have x:zi4 s.segs=((decide (0 < s.segs.length)&&decide (z73 s.segs < 4))||decide (s.segs.length≠8)):=rfl
 have t:z32 s.segs=if (decide (0 < s.segs.length)&&decide (z73 s.segs < 4))=true then s.segs else s.segs++[[]]:=rfl
 have T:=h.mz;have H:=h.m;by_cases hn:0 < s.segs.length
 ·obtain⟨l,hl⟩:=zvc hn;have el:=zpd hl;have a3:=h4 l (Xj hl);obtain⟨g,off,rfl,hg,hc,Z,F⟩:=GV.o.at_ hn;obtain⟨A1,c1,x0,-⟩:=F _ l hl;have q0:(s.segs.length:Int) > 0:=by omega
  have q1:decide ((s.segs.length:Int) > 0)=true:=Xi q0;have ix:(((s.segs.length - 1:Nat):Nat):Int)=(s.segs.length:Int) - 1:=by omega
  have a1:(0:Int)≤(s.segs.length:Int) - 1:=by omega
  have a4:(s.segs.length:Int) - 1 < (s.segs.length:Int):=by omega
  have a5:((s.segs.length:Int) - 1).toNat=s.segs.length - 1:=by omega
  have a2:IntKind.i64.wrap ((s.segs.length:Int) - 1)=(s.segs.length:Int) - 1:=by rw[IntKind.wrap_i64];omega
  unfold maxLen at Z;rw[el,Xi hn] at x t;simp only[Vk] at x t;by_cases h3:l.length < 4
  ·rw[Xi h3] at x t;rw[Xf rfl] at t;rw[x,t];simp only[Bool.true_or];have q3:(l.length:Int) < 4:=by omega
   clear x t F h;go_enter func122,ntmps122;go_wp2;go_ret;exact⟨rfl,FrB.refl _ _ _,Xb _,fun _=>⟨_,_,_,K.o⟩⟩
  ·have q3:¬(l.length:Int) < 4:=by omega
   rw[Xl h3] at x t;rw[Xc (by decide)] at t;rw[x,t];simp only[Kb];by_cases hn8:s.segs.length=8
   ·rw[Xl (by simpa using hn8)];have q8:((s.segs.length:Int)==8)=true:=by rw[hn8];rfl
    clear x t F h hn8;go_enter func122,ntmps122;go_wp2;go_ret;exact⟨rfl,FrB.refl _ _ _,Xb _,(fun hx=>by cases hx)⟩
   ·rw[Xi (by simpa using hn8)];have q8:((s.segs.length:Int)==8)=false:=by simp;omega
    clear x t F h;go_enter func122,ntmps122;go_upto_region 6 with fail;obtain⟨vs,y,A,C⟩:=K.o.sg;have N:=hid y;have P:=hid A;have z:=hid C;have O:=hid (z0l (World.ownsRow_lit (base:=w.heap.size) (e:=24) (size:=1) w #[.slice none 0 0] 1 (Xb _) (by decide) rfl));clear y A C;go_wp2_with (at_builtin;refine z0c _ rfl _ _ 40 rfl mid 24 j0 _ 1 24 underlying40 R J L M rfl (by decide) _ _ _ rfl (z.o.alloc _) _ _ 1 _ rfl O.o (by simp[Value.oneCell']) ?c1 ?c2 ?c3 ?_)
    case c1=>unfold maxLen;omega
    case c2=>omega
    case c3=>first|omega|(simp;omega)
    intro v' I d r D;have Q:=hid d;have f:=hid r;obtain⟨S,U,rfl,-⟩:=z05 d;have G:=hid (z.o.alloc (.cells #[.slice none 0 0] 24));have E:=hid ((Fr.refl [] w).alloc (.cells #[.slice none 0 0] 24));have n:=hid (show Whole I kb 115 _ from((K.o.k.alloc _).grown f.o (fun e=>z0u G.o (K.o.k.alloc _) (by decide) e.symm)));have X:=hid (show z2b I base mid a s.slots from(K.o.sl.go E.o).row G.o ⟨z7b,by decide⟩ (z1u f.o));have G5:=hid (show z71 I mid (.slice S (s.segs.length+1) U) (s.segs++[[]]) from z71.snoc (N.o.imp fun _ _ h=>z08 h E.o (by simp)) P.o (World.ownsRow_nil _ _ _ _) (fun u _ k _=>by simp[Value.ownBlock]) rfl G.o f.o Q.o);have Y:=hid (show FrB [] base w I from((E.o.toB base).grown f.o (fun j R=>.inr (Xd H (G.o.lt j R).1))));have B:=Xd E.o.size f.o.size;clear d r D V W;obtain⟨V,W⟩:=two n.o;obtain⟨f0,f1⟩:=zo1 n.o;go_wp2;go_ret;refine⟨rfl,Y.o.setCell (p:=⟨kb,1,none⟩) (.inr K.o.kb) _,by simpa[World.setCell] using B,fun _=>⟨mid,_,_,n.o.set_ 1 _,H,K.o.kb,X.o.far n.o (by decide) _,?_,by simpa[World.setCell] using Xd T B⟩⟩;have:=G5.o.far n.o (i:=1) (by decide) (.slice S (s.segs.length+1) U);exact this
 ·have a0:s.segs.length=0:=by omega
  have q0:¬(s.segs.length:Int) > 0:=by omega
  rw[Xl hn] at x t;simp only[Uz,Kb] at x t;rw[Xc (by decide)] at t;rw[x,t,Xi (by omega)];have q8:((s.segs.length:Int)==8)=false:=by simp;omega
  clear x t h a0 hn;go_enter func122,ntmps122;go_upto_region 6 with fail;obtain⟨vs,y,A,C⟩:=K.o.sg;have N:=hid y;have P:=hid A;have z:=hid C;have O:=hid (z0l (World.ownsRow_lit (base:=w.heap.size) (e:=24) (size:=1) w #[.slice none 0 0] 1 (Xb _) (by decide) rfl));clear y A C;go_wp2_with (at_builtin;refine z0c _ rfl _ _ 40 rfl mid 24 j0 _ 1 24 underlying40 R J L M rfl (by decide) _ _ _ rfl (z.o.alloc _) _ _ 1 _ rfl O.o (by simp[Value.oneCell']) ?c1 ?c2 ?c3 ?_)
  case c1=>unfold maxLen;omega
  case c2=>omega
  case c3=>first|omega|(simp;omega)
  intro v' I d r D;have Q:=hid d;have f:=hid r;obtain⟨S,U,rfl,-⟩:=z05 d;have G:=hid (z.o.alloc (.cells #[.slice none 0 0] 24));have E:=hid ((Fr.refl [] w).alloc (.cells #[.slice none 0 0] 24));have n:=hid (show Whole I kb 115 _ from((K.o.k.alloc _).grown f.o (fun e=>z0u G.o (K.o.k.alloc _) (by decide) e.symm)));have X:=hid (show z2b I base mid a s.slots from(K.o.sl.go E.o).row G.o ⟨z7b,by decide⟩ (z1u f.o));have G5:=hid (show z71 I mid (.slice S (s.segs.length+1) U) (s.segs++[[]]) from z71.snoc (N.o.imp fun _ _ h=>z08 h E.o (by simp)) P.o (World.ownsRow_nil _ _ _ _) (fun u _ k _=>by simp[Value.ownBlock]) rfl G.o f.o Q.o);have Y:=hid (show FrB [] base w I from((E.o.toB base).grown f.o (fun j R=>.inr (Xd H (G.o.lt j R).1))));have B:=Xd E.o.size f.o.size;clear d r D V W;obtain⟨V,W⟩:=two n.o;obtain⟨f0,f1⟩:=zo1 n.o;go_wp2;go_ret;refine⟨rfl,Y.o.setCell (p:=⟨kb,1,none⟩) (.inr K.o.kb) _,by simpa[World.setCell] using B,fun _=>⟨mid,_,_,n.o.set_ 1 _,H,K.o.kb,X.o.far n.o (by decide) _,?_,by simpa[World.setCell] using Xd T B⟩⟩;have:=G5.o.far n.o (i:=1) (by decide) (.slice S (s.segs.length+1) U);exact this
inductive Cm where
 | ping|get|set_|append_|strlen|incrby|getrange|del|exists_|type_|keys_|expire|ttl|persist
 | lpush|rpush|lpop|rpop|lrange|ltrim|lrem|sadd|srem|sismember|smembers|sinter|sunion|sdiff
 | hset|hget|hdel|hgetall|zadd|zrem|zscore|zrank|zrange|zrangebyscore
deriving DecidableEq
def Cm.bs:Cm→List UInt8
 | .ping=>[112,105,110,103]
 | .get=>[103,101,116]
 | .set_=>[115,101,116]
 | .append_=>[97,112,112,101,110,100]
 | .strlen=>[115,116,114,108,101,110]
 | .incrby=>[105,110,99,114,98,121]
 | .getrange=>[103,101,116,114,97,110,103,101]
 | .del=>[100,101,108]
 | .exists_=>[101,120,105,115,116,115]
 | .type_=>[116,121,112,101]
 | .keys_=>[107,101,121,115]
 | .expire=>[101,120,112,105,114,101]
 | .ttl=>[116,116,108]
 | .persist=>[112,101,114,115,105,115,116]
 | .lpush=>[108,112,117,115,104]
 | .rpush=>[114,112,117,115,104]
 | .lpop=>[108,112,111,112]
 | .rpop=>[114,112,111,112]
 | .lrange=>[108,114,97,110,103,101]
 | .ltrim=>[108,116,114,105,109]
 | .lrem=>[108,114,101,109]
 | .sadd=>[115,97,100,100]
 | .srem=>[115,114,101,109]
 | .sismember=>[115,105,115,109,101,109,98,101,114]
 | .smembers=>[115,109,101,109,98,101,114,115]
 | .sinter=>[115,105,110,116,101,114]
 | .sunion=>[115,117,110,105,111,110]
 | .sdiff=>[115,100,105,102,102]
 | .hset=>[104,115,101,116]
 | .hget=>[104,103,101,116]
 | .hdel=>[104,100,101,108]
 | .hgetall=>[104,103,101,116,97,108,108]
 | .zadd=>[122,97,100,100]
 | .zrem=>[122,114,101,109]
 | .zscore=>[122,115,99,111,114,101]
 | .zrank=>[122,114,97,110,107]
 | .zrange=>[122,114,97,110,103,101]
 | .zrangebyscore=>[122,114,97,110,103,101,98,121,115,99,111,114,101]
def Cm.all:List Cm:=[.ping,.get,.set_,.append_,.strlen,.incrby,.getrange,.del,.exists_,.type_,.keys_,.expire,.ttl,.persist,.lpush,.rpush,.lpop,.rpop,.lrange,.ltrim,.lrem,.sadd,.srem,.sismember,.smembers,.sinter,.sunion,.sdiff,.hset,.hget,.hdel,.hgetall,.zadd,.zrem,.zscore,.zrank,.zrange,.zrangebyscore]
theorem Cm.mem_all(c:Cm):c∈Cm.all:=by cases c <;> decide
def cmOf(s:List UInt8):Option Cm:=Cm.all.find? fun c=>decide (c.bs=s)
theorem zj4{s:List UInt8}{c:Cm}(h:cmOf s=some c):s=c.bs:=by
 have:=Kd h;exact(Yl this).symm
theorem ztc{s:List UInt8}(h:cmOf s=none)(c:Cm):s≠c.bs:=fun e=>by
 have:=Jf.1 h c c.mem_all;exact this (Xi e.symm)
def zej(c:UInt8):UInt8:=if 65≤c.toNat∧c.toNat≤90 then c+32 else c
def q3m(s:YY):List UInt8:=s.data.toList.map zej
def cmL(l:YX):Option Cm:=cmOf (q3m (l.getD 0 ⟨#[]⟩))
structure Shp where
 least:Nat
 most:Option Nat
 pairs:Bool
 nums:Nat
def Cm.shp:Cm→Shp
 | .ping=>⟨0,some 0,false,0⟩
 | .get|.strlen|.type_|.ttl|.persist|.keys_|.lpop|.rpop|.smembers|.hgetall=>⟨1,some 1,false,0⟩
 | .set_|.append_|.lrem|.sismember|.hget|.zscore|.zrank=>⟨2,some 2,false,0⟩
 | .incrby|.expire=>⟨2,some 2,false,1⟩
 | .getrange|.lrange|.ltrim|.zrange|.zrangebyscore=>⟨3,some 3,false,2⟩
 | .del|.exists_|.sinter|.sunion|.sdiff=>⟨1,none,false,0⟩
 | .lpush|.rpush|.sadd|.srem|.hdel|.zrem=>⟨2,none,false,0⟩
 | .hset=>⟨3,none,true,0⟩
 | .zadd=>⟨3,none,true,3⟩
def Shp.num(s:Shp)(i:Nat):Bool:=match s.nums with
 | 0=>false
 | 1=>decide (i=1)
 | 2=>decide (i=1)||decide (i=2)
 | _=>decide (i % 2=1)
def Shp.bad(s:Shp)(n:Nat):Bool:=decide (n < s.least)||(match s.most with|some m=>decide (m < n)|none=>false)||(s.pairs&&decide (n % 2=0))
def isN(s:YY):Bool:=(z5l s.data.toList).isSome
def z77(s:Shp):Nat→YX→Bool
 | _,[]=>true
 | i,w :: l=>(!s.num i||isN w)&&z77 s (i+1) l
def z1x(l:YX):Int:=
 if z10 l≠0 then z10 l
 else match cmL l with
  | none=>5
  | some c=>if c.shp.bad (l.length - 1)=true then 1 else if z77 c.shp 0 (l.drop 1)=true then 0 else 3
def z8t(e:Int):Rep:=⟨2,⟨#[]⟩,e,[]⟩
def z4b(s:YY):Rep:=⟨1,s,0,[]⟩
def z0s(n:Int):Rep:=⟨3,⟨#[]⟩,n,[]⟩
def z1s(s:YY):Rep:=⟨4,s,0,[]⟩
def zhv:Rep:=⟨5,⟨#[]⟩,0,[]⟩
def z2h(l:YX):Rep:=⟨6,⟨#[]⟩,0,l.map fun s=>⟨4,s,0,0⟩⟩
def tOK:YY:=⟨#[79,75]⟩
def q4l:YY:=⟨#[80,79,78,71]⟩
def zmw(k:Int):YY:=
 if k=0 then toB [110,111,110,101] else if k=1 then toB [115,116,114,105,110,103] else if k=2 then toB [108,105,115,116]
 else if k=3 then toB [115,101,116] else if k=4 then toB [104,97,115,104] else toB [122,115,101,116]
def fin(s:List Ent)(now:Int)(key:YY)(y:Itm)(til:Int)(chg nn:Bool)(e:Int)(r:Rep):List Ent×Rep:=
 if e=0 then
  if chg=true then (if z2r s now key y til=0 then (zb7 s now key y til,r) else (s,z8t (z2r s now key y til))) else (s,r)
 else if e=5∧nn=true then (s,zhv) else (s,z8t e)
def wd(l:YX)(i:Nat):YY:=l.getD i ⟨#[]⟩
def wn(l:YX)(i:Nat):Int:=(z5l (wd l i).data.toList).getD 0
def zbl(s:List Ent)(now:Int)(k:YY):Bool:=decide ((z00 s now k).item.kind≠0)
def zje(now:Int):YX→List Ent→Nat→List Ent×Nat
 | [],s,n=>(s,n)
 | k :: l,s,n=>zje now l (zb7 s now k (z2q 0) 0) (n+if zbl s now k=true then 1 else 0)
def z2o:YX→List (YY×YY)
 | a :: b :: l=>(a,b) :: z2o l
 | _=>[]
def z1l:YX→List (Int×YY)
 | a :: b :: l=>((z5l a.data.toList).getD 0,b) :: z1l l
 | _=>[]
def z09(s:List Ent)(now:Int)(l:YX):List Itm:=l.map fun k=>(z00 s now k).item
def doC(c:Cm)(s:List Ent)(now:Int)(l:YX):List Ent×Rep:=
 let key:=wd l 1
 let was:=z00 s now key
 let x:=was.item
 let til:=was.til
 match c with
 | .ping=>(s,z4b q4l)
 | .get=>if x.kind=0 then fin s now key x til false false (z02 1 x) zhv else fin s now key x til false false (z02 1 x) (z1s x.text)
 | .set_=>fin s now key (z50 (wd l 2)) 0 true false 0 (z4b tOK)
 | .append_=>fin s now key (apY x (wd l 2)) til true false (z4d x (wd l 2)) (z0s (apN x (wd l 2)))
 | .strlen=>fin s now key x til false false (z02 1 x) (z0s (lnN x))
 | .incrby=>fin s now key (adY x (wn l 2)) til true false (z4p x (wn l 2)) (z0s (adN x (wn l 2)))
 | .getrange=>fin s now key x til false false (z02 1 x) (z1s (rgS x (wn l 2) (wn l 3)))
 | .del=>((zje now (l.drop 1) s 0).1,z0s (zje now (l.drop 1) s 0).2)
 | .exists_=>(s,z0s (((l.drop 1).filter fun k=>zbl s now k).length:Nat))
 | .type_=>(s,z4b (zmw x.kind))
 | .keys_=>fin s now key x til false false (z0z key) (z2h (zea s now key))
 | .expire=>if x.kind=0 then (s,z0s 0) else if wn l 2 < 1 then fin s now key (z2q 0) (now+wn l 2) true false 0 (z0s 1) else fin s now key x (now+wn l 2) true false (if 1000000 < now+wn l 2 then 3 else 0) (z0s 1)
 | .ttl=>(s,z0s (if x.kind=0 then -2 else if til=0 then -1 else til - now))
 | .persist=>if x.kind=0∨til=0 then (s,z0s 0) else fin s now key x 0 true false 0 (z0s 1)
 | .lpush=>fin s now key (zc5 x true (l.drop 2)) til true false (z18 x (l.drop 2)) (z0s (zg1 x true (l.drop 2)))
 | .rpush=>fin s now key (zc5 x false (l.drop 2)) til true false (z18 x (l.drop 2)) (z0s (zg1 x false (l.drop 2)))
 | .lpop=>fin s now key (zg0 x true) til true true (z1q x) (z1s (zxi x true))
 | .rpop=>fin s now key (zg0 x false) til true true (z1q x) (z1s (zxi x false))
 | .lrange=>fin s now key x til false false (z02 2 x) (z2h (z28 x.list (wn l 2) (wn l 3)))
 | .ltrim=>fin s now key (ofL (z28 x.list (wn l 2) (wn l 3))) til true false (z02 2 x) (z4b tOK)
 | .lrem=>fin s now key (zxj x (wd l 2)) til true false (z02 2 x) (z0s (q51 x (wd l 2)))
 | .sadd=>fin s now key (zcx x (l.drop 2)) til true false (zgb x (l.drop 2)) (z0s (ziy x (l.drop 2)))
 | .srem=>fin s now key (z8y 3 x (l.drop 2)) til true false (z02 3 x) (z0s (zf7 3 x (l.drop 2)))
 | .sismember=>fin s now key x til false false (z02 3 x) (z0s (if z7m x.list (wd l 2)=true then 1 else 0))
 | .smembers=>fin s now key x til false false (z13 (z09 s now (l.drop 1))) (z2h (z2x zau (z09 s now (l.drop 1))))
 | .sunion=>fin s now key x til false false (z13 (z09 s now (l.drop 1))) (z2h (z2x zau (z09 s now (l.drop 1))))
 | .sinter=>fin s now key x til false false (z13 (z09 s now (l.drop 1))) (z2h (z2x (zc0 (z09 s now (l.drop 1)).length) (z09 s now (l.drop 1))))
 | .sdiff=>fin s now key x til false false (z13 (z09 s now (l.drop 1))) (z2h (z2x za3 (z09 s now (l.drop 1))))
 | .hset=>fin s now key (zsf x (z2o (l.drop 2))) til true false (z23 x (z2o (l.drop 2))) (z0s (q1t x (z2o (l.drop 2))))
 | .hget=>fin s now key x til false true (z5z x (wd l 2)) (z1s (zxf x (wd l 2)))
 | .hdel=>fin s now key (zd0 x (l.drop 2)) til true false (z02 4 x) (z0s (zjk x (l.drop 2)))
 | .hgetall=>fin s now key x til false false (z02 4 x) (z2h (x.pairs.flatMap fun p=>[p.1,p.2]))
 | .zadd=>fin s now key (zd2 x (z1l (l.drop 2))) til true false (zf1 x (z1l (l.drop 2))) (z0s (zl1 x (z1l (l.drop 2))))
 | .zrem=>fin s now key (z8s x (l.drop 2)) til true false (z02 5 x) (z0s (zdx x (l.drop 2)))
 | .zscore=>fin s now key x til false true (z16 x (wd l 2)) (z0s (zvo x (wd l 2)))
 | .zrank=>fin s now key x til false true (z16 x (wd l 2)) (z0s (zba x (wd l 2)))
 | .zrange=>fin s now key x til false false (z02 5 x) (z2h (z79 x (wn l 2) (wn l 3)))
 | .zrangebyscore=>fin s now key x til false false (z02 5 x) (z2h (z52 x (wn l 2) (wn l 3)))
def doR(s:List Ent)(now:Int)(l:YX):List Ent×Rep:=
 if z1x l≠0 then (s,z8t (z1x l))
 else match cmL l with
  | none=>(s,z8t 5)
  | some c=>doC c s now l
attribute [local go_sem] z1g
theorem z1f.go{w w':World}{v:Value}{l:List Ent}(h:z1f w w.heap.size v l)(hf:Fr [] w w'):z1f w' w'.heap.size v l:=(h.fr hf (Xb _) (by simp)).more hf.size
section
variable {w0 wr w1:World} {bl:List (Nat×List Value)} {its:List (Value×Itm)} {rs:List (Nat×Value×Nat×List Value)} {es:List (Value×List Ent)}
end
theorem zur{l:List Ent}{p q:Ent}{j:Nat}(h:q∈zk7 l p j):q=p∨q∈l:=by
 unfold zk7 at h;rcases Ys.1 h with h|h
 ·exact .inr (Ud h)
 ·rcases Yh.1 h with h|h
  ·exact .inl h
  ·exact .inr (Yp h)
theorem zi2{P:Ent→Prop}{l:List Ent}{now:Int}{s:YY}{x:Itm}{u:Int}(hl:∀e∈l,P e)(hn:P ⟨s,x,u⟩):∀e∈zrt l now s x u,P e:=by
 have b:∀e∈zr1 (z5q l s) ⟨s,x,u⟩,P e:=fun e a=>by
  rcases zur a with rfl|h
  ·exact hn
  ·exact hl _ (Yj.1 h).1
 intro e a;unfold zrt at a;split at a
 ·exact b e (Yj.1 a).1
 ·exact b e a
theorem zv0(l)(now:Int)(p):(zeb l now p).length≤l.length:=by
 unfold zeb zea;split
 ·rw[Xx];exact Xv _ _
 ·simp
end
end Go.Proofs.YtnmoajaelmimnaaGreatDoor
