/- Contracts; no condition but each theorem's own. -/
import Derived.Test.YtnmoajaelmimnaaGreatDoorSlY5
import Derived.Test.YtnmoajaelmimnaaGreatDoorSlY7
set_option linter.unusedVariables false
set_option linter.unusedSimpArgs false
set_option maxHeartbeats 8000000
set_option maxRecDepth 100000
namespace Go.Proofs.YtnmoajaelmimnaaGreatDoor
open Go.Proofs.Tryz
section
open Go.RowKit
theorem zs9(k:Nat):IntKind.u8.wrap (k:Int)=((z25 k).toNat:Int):=by
 rw[show(z25 k).toNat=k % 256 by simp[z25]];simp only[IntKind.wrap,IntKind.signed,IntKind.bits];simp
theorem z3x{n:Nat}:(z25 n).toNat=n % 256:=by simp[z25]
theorem Wrote.next{T g off base:Nat}{own own':Option Nat}{cs cs':List Value}{m:List UInt8}{w w1 w2:World}(hl:cs'.length=cs.length)(he:∀i,i≠off→i≠off+1→cs'[i]? = cs[i]?)
  (ho:own'=own∨∃k,own'=some k∧w.heap.size≤k) (hf:Fr (g :: own.toList) w w1) (k:Wrote T g off base own' cs' m w1 w2):Wrote T g off base own cs m w w2:=by
 obtain⟨j,c2,h,f,l,e,d⟩:=k;refine⟨j,c2,h,f.trans hl,fun i hi b=>(l i hi b).trans (he i hi b),?_,?_⟩
 ·rcases e with rfl|⟨k2,rfl,hk2⟩
  ·exact ho
  ·exact .inr ⟨k2,rfl,Xd hf.size hk2⟩
 ·refine hf.step d ?_;intro x a;rcases Yh.1 a with rfl|a
  ·exact .inl (by simp)
  ·rcases ho with rfl|⟨k1,rfl,hk1⟩
   ·exact .inl (by simp[a])
   ·simp at a;subst a;exact .inr hk1
theorem Wrote.drew{T g off base:Nat}{own:Option Nat}{cs:List Value}{m:List UInt8}{w w2:World}(h:Wrote T g off base own cs m w.drew w2):Wrote T g off base own cs m w w2:=by
 obtain⟨f,c2,e,d,j,b,a⟩:=h;exact⟨f,c2,e,d,j,b,⟨a.os,a.tape,a.output,a.size,a.block⟩⟩
theorem z5d.drew{T g off base:Nat}{own:Option Nat}{cs:List Value}{m:List UInt8}{w:World}(h:z5d T g off base own cs m w):z5d T g off base own cs m w.drew:=
 ⟨h.whole,h.addr,h.buf,h.base,h.ne,h.lies⟩
theorem z55{g base:Nat}{own:Option Nat}{cs:List Value}{l:List UInt8}(s:YY){w:World}(h:z5d 198 g 0 base own cs l w)(hs:s.size≤60)(hl:l.length≤100000)(hB:base≤w.heap.size):
  Calls prog 172 #[.pointer (some ⟨g,0,none⟩),.string s] w fun e w'=>e=.returned (.tuple #[])∧Wrote 198 g 0 base own cs (l++z2c s) w w':=by
 have j:=z5o (z25 s.size) h (by omega) hB;have f:((z25 s.size).toNat:Int)=s.size:=by rw[z3x];omega
 rw[f] at j;have x:=hid j;have z:=hid (fun W a d (hW:z5d 198 g 0 base a d (l++[z25 s.size]) W) (k:w.heap.size≤W.heap.size)=>z91 s hW (by simp;omega) (Xd hB k));clear j h f;go_enter func172,ntmps172;go_wp2_with fail;refine x.o.mono ?_;rintro e D ⟨rfl,a,d,n,u,f,r,p⟩;have y:=hid n;have B:=hid u;have C:=hid f;have A:=hid r;have k:=p.size;clear n u f r;go_wp2_with fail;refine(z.o _ _ _ y.o k).mono ?_;rintro e E ⟨rfl,b⟩;have m:=hid b;clear b;go_wp2
 go_end0
 have t:=m.o.next B.o C.o A.o p;rw[Yi] at t;exact⟨rfl,t⟩
theorem zd8{g base:Nat}{own:Option Nat}{cs:List Value}{l:List UInt8}(n:Nat){w:World}(h:z5d 198 g 0 base own cs l w)(hn:n < 4294967296)(hl:l.length≤100000)(hB:base≤w.heap.size):
  Calls prog 173 #[.pointer (some ⟨g,0,none⟩),.int .i64 n] w fun e w'=>e=.returned (.tuple #[])∧Wrote 198 g 0 base own cs (l++z4q n) w w':=by
 have HB:=hid h;have S:IntKind.i64.wrap 24=24:=by decide
 have R:IntKind.i64.wrap 16=16:=by decide
 have w8:IntKind.i64.wrap 8=8:=by decide
 have w0:IntKind.i64.wrap 0=0:=by decide
 clear h;have s:=hid (fun(W:World) own' cs' (l':List UInt8) (k:Nat) (v:Int) (hW:z5d 198 g 0 base own' cs' l' W) (hl':l'.length≤100003) (hz:base≤W.heap.size) (hv:v=((z25 k).toNat:Int))=>(show Calls prog 169 #[.pointer (some ⟨g,0,none⟩),.int .u8 v] W _ from hv ▸ z5o (z25 k) hW (by omega) hz));have E0:=hid (show IntKind.u8.wrap ((n:Int) / 16777216)=((z25 (n / 16777216)).toNat:Int) by have:=zs9 (n / 16777216);rw[Int.natCast_ediv] at this;exact this);have E1:=hid (show IntKind.u8.wrap ((n:Int) / 65536)=((z25 (n / 65536)).toNat:Int) by have:=zs9 (n / 65536);rw[Int.natCast_ediv] at this;exact this);have E2:=hid (show IntKind.u8.wrap ((n:Int) / 256)=((z25 (n / 256)).toNat:Int) by have:=zs9 (n / 256);rw[Int.natCast_ediv] at this;exact this);have E3:=hid (zs9 n);go_enter func173,ntmps173;go_wp2;refine wp_loop_rounds 5 ?_;rw[rounds_succ];go_wp2
 go_region_with (go_at_call 169;go_must (refine(s.o _ _ _ _ (n / 16777216) _ HB.o.drew (by first|omega|(simp;omega)) hB E0.o).mono ?_;rintro e t ⟨rfl,o1,s1,B,O,E,J,f⟩))
 have a:Fr (g :: own.toList) w t:=⟨f.os,f.tape,f.output,f.size,f.block⟩;have B1:=hid B;have L1:=hid O;have Q1:=hid E;have P1:=hid J;have G1:=hid a;have N:=hid (show w.heap.size≤t.heap.size from a.size);clear B O E J f a;go_wp2;rw[rounds_succ];go_wp2
 go_region_with (go_at_call 169;refine(s.o _ _ _ _ (n / 65536) _ B1.o.drew (by first|omega|(simp;omega)) (Xd hB N.o) E1.o).mono ?_;rintro e x ⟨rfl,o2,s2,L,P,Q,C,j⟩)
 have b:Fr (g :: o1.toList) t x:=⟨j.os,j.tape,j.output,j.size,j.block⟩;have B2:=hid L;have L2:=hid P;have Q2:=hid Q;have P2:=hid C;have G2:=hid b;have G:=hid (show w.heap.size≤x.heap.size from Xd N.o b.size);clear L P Q C j b;go_wp2;rw[rounds_succ];go_wp2
 go_region_with (go_at_call 169;refine(s.o _ _ _ _ (n / 256) _ B2.o.drew (by first|omega|(simp;omega)) (Xd hB G.o) E2.o).mono ?_;rintro e u ⟨rfl,o3,s3,D,H,F,y,p⟩)
 have d:Fr (g :: o2.toList) x u:=⟨p.os,p.tape,p.output,p.size,p.block⟩;have B3:=hid D;have Y:=hid H;have X:=hid F;have P3:=hid y;have G3:=hid d;have T:=hid (show w.heap.size≤u.heap.size from Xd G.o d.size);clear D H F y p d;go_wp2;rw[rounds_succ];go_wp2
 go_region_with (go_at_call 169;refine(s.o _ _ _ _ n _ B3.o.drew (by first|omega|(simp;omega)) (Xd hB T.o) E3.o).mono ?_;rintro e z ⟨rfl,o4,s4,M,I,K,A,m⟩)
 have r:Fr (g :: o3.toList) u z:=⟨m.os,m.tape,m.output,m.size,m.block⟩;have B4:=hid M;have Z:=hid I;have Q4:=hid K;have U:=hid A;have V:=hid r;clear M I K A m r;go_wp2;rw[rounds_succ];go_wp2
 go_end0
 have h4:Wrote 198 g 0 base own cs ((((l++[z25 (n / 16777216)])++[z25 (n / 65536)])++[z25 (n / 256)])++[z25 n]) w z:=
  Wrote.next L1.o Q1.o P1.o G1.o (Wrote.next L2.o Q2.o P2.o G2.o (Wrote.next Y.o X.o P3.o G3.o ⟨_,_,B4.o,Z.o,Q4.o,U.o,V.o⟩))
 refine⟨rfl,?_⟩;simpa[z4q] using h4
theorem z1j(s):(z2c s).length=s.size+1:=by simp[z2c]
theorem z5i(n:Nat):(z4q n).length=4:=rfl
theorem z7k{α:Type}(f:α→List UInt8)(b:Nat):∀(l:List α),(∀x∈l,(f x).length≤b)→(l.flatMap f).length≤l.length * b
 | [],_=>by simp
 | x :: l,h=>by
  have h1:=z7k f b l (fun y hy=>h y (by simp[hy]));have h2:=h x (by simp);rw[Ul,Xk,Xy,Vl];omega
theorem zfk{α:Type}(f:α→List UInt8){l:List α}{k:Nat}{x:α}(h:l[k]? = some x):(l.take (k+1)).flatMap f=(l.take k).flatMap f++f x:=by
 rw[Xz,h];simp
structure z8o(w:World)(cs:List Value)(l:List UInt8)(wr:World):Prop where
 box:Whole wr w.heap.size 68 cs
 bld:∃own ds,z5d 198 (w.heap.size+1) 0 (w.heap.size+1) own ds l wr
 fr:Fr [] w wr
theorem z8o.wrote{w wr w1:World}{cs:List Value}{own:Option Nat}{ds:List Value}{l m:List UInt8}(h:z8o w cs l wr)(hb:z5d 198 (w.heap.size+1) 0 (w.heap.size+1) own ds l wr)(hw:Wrote 198 (w.heap.size+1) 0 (w.heap.size+1) own ds m wr w1):z8o w cs m w1:=by
 obtain⟨d,e,b,_,_,_,f⟩:=hw;exact⟨hb.keep f h.box (by decide) (by decide),⟨d,e,b⟩,h.fr.step f (fun k a=>.inr (by have:=Wrote.of_base hb k a;omega))⟩
theorem z5d.fr0{T g off base:Nat}{own:Option Nat}{cs:List Value}{m:List UInt8}{w w1:World}(h:z5d T g off base own cs m w)(hf:Fr [] w w1):z5d T g off base own cs m w1:=by
 obtain⟨v,d,a,b⟩:=h.buf;exact⟨h.whole.fr hf (by simp),h.addr,⟨v,d,z08 a hf (fun k _=>by simp),b⟩,h.base,h.ne,h.lies⟩
theorem z8o.fr0{w wr w1:World}{cs:List Value}{l:List UInt8}(h:z8o w cs l wr)(hf:Fr [] wr w1):z8o w cs l w1:=by
 obtain⟨o,d,b⟩:=h.bld;exact⟨h.box.fr hf (by simp),⟨o,d,b.fr0 hf⟩,h.fr.trans hf⟩
theorem Wrote.keep{T g off base:Nat}{own:Option Nat}{cs:List Value}{l m:List UInt8}{w w1:World}(hb:z5d T g off base own cs l w)(hw:Wrote T g off base own cs m w w1){b T':Nat}{ds:List Value}(h:Whole w b T' ds)(h1:T'≠T)(h2:T'≠5):Whole w1 b T' ds:=by
 obtain⟨_,_,_,_,_,_,f⟩:=hw;exact hb.keep f h h1 h2
theorem z8o.start(w)(cs):z8o w cs [] ((w.alloc (.cells cs.toArray 68)).alloc (.cells #[.pointer none,.slice none 0 0] 198)):=by
 refine⟨(Whole.new w _ _).alloc _,⟨none,[.pointer none,.slice none 0 0],⟨?_,.inl rfl,⟨.slice none 0 0,rfl,⟨rfl,.inl ⟨rfl,rfl⟩⟩,rfl⟩,Xb _,by decide,by kernel_rfl⟩⟩,((Fr.refl [] w).alloc _).alloc _⟩;have:=Whole.new (w.alloc (.cells cs.toArray 68)) 198 [.pointer none,.slice none 0 0];simpa using this
theorem q0t{n:Int}(h:z0o n=true):n+999999999=(((n+999999999).toNat:Nat):Int)∧(n+999999999).toNat < 4294967296:=by
 simp only[z0o,Yf,decide_eq_true_eq] at h;omega
theorem q7e:(∀(x) (v) (w) (B:Nat) (hx:zdp x) (h:z0p w B v x) (hk:x.kind=1),Calls prog 123 #[v] w fun e w'=>e=.returned (.string ⟨(z1t x).toArray⟩)∧Fr [] w w')∧(∀(x:Itm) (v) (w:World) (B:Nat) (hs:x.Small) (hB:B≤w.heap.size) (hx:zdp x) (h:z0p w B v x) (hk:x.kind≠1),Calls prog 123 #[v] w fun e w'=>e=.returned (.string ⟨(z1t x).toArray⟩)∧Fr [] w w'):=by
 refine⟨?_,?_⟩;have C:=hid trivial
 rotate_left
 have aj:=hid trivial
 all_goals
  first
  | (guard_hyp C
     intro x v w B hx h hk)
  | (intro x v w B hs hB hx h hk)
  first
  | (guard_hyp C
     skip)
  | (have M:=hid (fun W (hf:Fr [] w W)=>zhr x v W B hs (h.fr hf hB (by simp))))
  obtain⟨K,c1,X,c2,U,O,rfl,h1,h2,h3⟩:=h
  first
  | (guard_hyp C
     have hE:z1t x=[z25 1]++x.text.data.toList:=by unfold z1t;rw[Xf hk,hk];rfl)
  | (have hE:z1t x=([z25 x.kind.toNat]++[z25 (many x)])++x.list.flatMap z2c++x.pairs.flatMap z2m++x.scores.flatMap z29:=by unfold z1t;rw[Xc hk];simp)
  have S0:=z8o.start w [.int .i64 x.kind,.string x.text,.slice K x.list.length c1,.slice X x.pairs.length c2,.slice U x.scores.length O]
  first
  | (guard_hyp C
     rw[hk] at S0 ⊢;have ht:=hx.text;have HE:=hid hE;clear h1 h2 h3 hE hk hx;generalize x.text=t at *;generalize z1t x=E at *;generalize x.list.length=n1 at *;generalize x.pairs.length=n2 at *;generalize x.scores.length=n3 at *)
  | (have hm:=hx.many
     have l1:x.list.length≤24:=by unfold many at hm;omega
     have l2:x.pairs.length≤24:=by unfold many at hm;omega
     have l3:x.scores.length≤24:=by unfold many at hm;omega
     obtain⟨ak,ai⟩:=hx.kind;have k1:(x.kind==1)=false:=by simpa using hk
     have EK:=hid (show IntKind.u8.wrap x.kind=((z25 x.kind.toNat).toNat:Int) by have:=zs9 x.kind.toNat;rw[show((x.kind.toNat:Nat):Int)=x.kind by omega] at this;exact this);have EM:=hid (zs9 (many x));have HE:=hid hE;have Y:=hid hx;have H1:=hid h1;have H2:=hid h2;have H3:=hid h3;clear h1 h2 h3 hE hk hx hs)
  obtain⟨p,u,n,r,z⟩:=five S0.box;obtain⟨own,ds,l⟩:=S0.bld
  first
  | (guard_hyp C
     have W1:=hid (fun W (hW:z5d 198 (w.heap.size+1) 0 (w.heap.size+1) own ds [] W) (hz:w.heap.size+1≤W.heap.size)=>z5o (z25 1) hW (by simp) hz);rw[show((z25 1).toNat:Int)=1 from rfl] at W1)
  | (have WB:=hid (fun W own' ds' (l':List UInt8) (k:Nat) (v:Int) (hW:z5d 198 (w.heap.size+1) 0 (w.heap.size+1) own' ds' l' W) (hl':l'.length≤100003) (hz:w.heap.size+1≤W.heap.size) (hv:v=((z25 k).toNat:Int))=>(show Calls prog 169 #[.pointer (some ⟨w.heap.size+1,0,none⟩),.int .u8 v] W _ from hv ▸ z5o (z25 k) hW (by omega) hz)))
  have B0:=hid l;have f:=hid S0;clear l S0;go_enter func123,ntmps123;go_wp2
  first
  | (guard_hyp C
     go_region_with (go_at_call 169;go_must (refine(W1.o _ B0.o.drew (by simp)).mono ?_;rintro e w1 ⟨rfl,Z⟩)))
  | (go_region_with (go_at_call 169;have V:=WB.o _ _ _ [] x.kind.toNat (IntKind.u8.wrap x.kind) B0.o.drew (by simp) (by simp) EK.o;refine V.mono ?_;clear V;rintro e w1 ⟨rfl,Z⟩))
  have S1:=f.o.wrote B0.o Z.drew;rw[Vq] at S1;clear p u n r z Z;obtain⟨p,u,n,r,z⟩:=five S1.box;obtain⟨ad,ag,b1⟩:=S1.bld
  first
  | (guard_hyp C
     have W2:=hid (fun W (hW:z5d 198 (w.heap.size+1) 0 (w.heap.size+1) ad ag [z25 1] W) (hz:w.heap.size+1≤W.heap.size)=>z91 t hW (by simp;omega) hz))
  | (skip)
  have B1:=hid b1;have L:=hid S1;have Z1:w.heap.size+1≤w1.heap.size:=by have:=b1.whole.lt;omega
  clear b1 S1;go_wp2
  first
  | (guard_hyp C
     go_region_with (go_at_call 170;go_must (refine(W2.o _ B1.o.drew Z1).mono ?_;rintro e w2 ⟨rfl,a6⟩))
     have S2:=L.o.wrote B1.o a6.drew;clear p u n r z a6;obtain⟨S,a8,I⟩:=S2.bld;have T:=hid (zgu I (by simp));have F2:=hid S2.fr;have a3:=hid (Wrote.of_base I);clear I S2;go_wp2_with fail;refine T.o.mono ?_;rintro e w3 ⟨rfl,f3⟩;go_wp2;go_ret;rw[HE.o];exact⟨rfl,F2.o.step f3 (fun k hk=>.inr (by have:=a3.o k (Vw _ hk);omega))⟩)
  | (go_region_with (first
      | (go_at_call 145;have V:=M.o _ L.o.fr.drew;refine V.mono ?_;clear V;rintro e w2 ⟨rfl,f2⟩;have P:Fr [] w1 w2:=⟨f2.os,f2.tape,f2.output,f2.size,f2.block⟩;have Z2:w.heap.size+1≤w2.heap.size:=Xd Z1 P.size;have B2:=hid (B1.o.fr0 P);have a9:=hid (L.o.fr0 P);clear f2 P)
      | (go_at_call 169;have V:=WB.o _ _ _ [z25 x.kind.toNat] (many x) (IntKind.u8.wrap ((many x:Nat):Int)) B2.o (by simp) Z2 EM.o;refine V.mono ?_;clear V;rintro e w3 ⟨rfl,ab⟩))
     have S3:=a9.o.wrote B2.o ab;clear p u n r z ab;obtain⟨p,u,n,r,z⟩:=five S3.box;have aa:=hid S3;clear S3;have P0:=hid (show([z25 x.kind.toNat]++[z25 (many x)]).length=2 from rfl);generalize [z25 x.kind.toNat]++[z25 (many x)]=p0 at *;clear B0 f B1 L B2 a9 Z1 Z2 EK EM WB M;go_wp2;clear p u n r z;go_loopg [42] x.list.length (fun g i wr=>∃(m:Nat),g=x.list.length - m∧i=.int .i64 m∧m≤x.list.length∧z8o w [.int .i64 x.kind,.string x.text,.slice K x.list.length c1,.slice X x.pairs.length c2,.slice U x.scores.length O] (p0++(x.list.take m).flatMap z2c) wr)
     case atStart=>exact⟨0,rfl,rfl,Xt _,by simpa using aa.o⟩
     clear aa
     case round=>
      obtain⟨m,rfl,rfl,Q,J⟩:=hrel;have f:=hid J;obtain⟨p,u,n,r,z⟩:=five J.box;clear J;by_cases hlt:m < x.list.length
      ·
       obtain⟨b,off,e,hb,hc,ac,a⟩:=H1.o.at_ (by omega);obtain⟨s,hs⟩:∃s,x.list[m]? = some s:=⟨_,Xa hlt⟩;have R:wr.cell? ⟨b,off+m,none⟩=some (.string s):=f.o.fr.cell (a m _ (z0x _ m s hs)) (by simp);have d:=Y.o.texts s (Xj hs)
       have D:(p0++(x.list.take m).flatMap z2c).length≤100000:=by
        have:=z7k z2c 61 (x.list.take m) (fun y N=>by rw[z1j];have:=Y.o.texts y (Ud N);omega);have h2:=Vz m x.list;rw[Xk,P0.o];have:(x.list.take m).length * 61≤24 * 61:=Yk _ (by omega);omega
       obtain⟨own,ds,l⟩:=f.o.bld;have TX:=hid (z55 s l d D (by have:=l.whole.lt;omega));have TK:=hid (zfk z2c hs);have BL:=hid l;have G:=e;subst G;clear a hs l D;go_wp2_with fail;refine TX.o.mono ?_;rintro e w4 ⟨rfl,j⟩;have F:=f.o.wrote BL.o j;rw[Yi,←TK.o] at F;have af:=hid F;clear F j p u n r z;go_wp2;go_roundg (x.list.length - (m+1))
       case measure=>omega
       case rel=>exact⟨m+1,rfl,by simp,by omega,af.o⟩
      have A:=hid (show z8o w [.int .i64 x.kind,.string x.text,.slice K x.list.length c1,.slice X x.pairs.length c2,.slice U x.scores.length O] (p0++x.list.flatMap z2c) wr by have:=f.o;rw[Xw (by omega)] at this;exact this);clear f;go_wp2;clear p u n r z hlt Q
      have HP:=hid (show(p0++x.list.flatMap z2c).length≤10000 by
       have:=z7k z2c 61 x.list (fun y N=>by rw[z1j];have:=Y.o.texts y N;omega);rw[Xk,P0.o];have:x.list.length * 61≤24 * 61:=Yk _ (by omega);omega)
      clear P0;generalize p0++x.list.flatMap z2c=p1 at *;go_loopg [53] x.pairs.length (fun g i wr=>∃(m:Nat),g=x.pairs.length - m∧i=.int .i64 m∧m≤x.pairs.length∧z8o w [.int .i64 x.kind,.string x.text,.slice K x.list.length c1,.slice X x.pairs.length c2,.slice U x.scores.length O] (p1++(x.pairs.take m).flatMap z2m) wr)
      case atStart=>exact⟨0,rfl,rfl,Xt _,by simpa using A.o⟩
      clear A
      case round=>
       obtain⟨m,rfl,rfl,Q,J⟩:=hrel;have f:=hid J;obtain⟨p,u,n,r,z⟩:=five J.box;clear J;by_cases hlt:m < x.pairs.length
       ·
        obtain⟨b,off,e,hb,hc,ac,a⟩:=H2.o.at_ (by omega);obtain⟨s,hs⟩:∃s,x.pairs[m]? = some s:=⟨_,Xa hlt⟩;have R:wr.cell? ⟨b,off+2 * m,none⟩=some (.string s.1):=f.o.fr.cell (a _ _ (z0f _ m s hs).1) (by simp);have a1:wr.cell? ⟨b,off+2 * m+1,none⟩=some (.string s.2):=f.o.fr.cell (a _ _ (z0f _ m s hs).2) (by simp);rw[Ya 2 m] at R a1;have d:=Y.o.fields s (Xj hs)
        have D:(p1++(x.pairs.take m).flatMap z2m).length≤90000:=by
         have:=z7k z2m 130 (x.pairs.take m) (fun y N=>by have:=Y.o.fields y (Ud N);simp only[z2m,Xk,z1j,z5i];omega);have h2:=Vz m x.pairs;rw[Xk];have:(x.pairs.take m).length * 130≤24 * 130:=Yk _ (by omega);have:=HP.o;omega
        obtain⟨own,ds,l⟩:=f.o.bld;have FA:Fr [] wr (wr.alloc (.cells #[.string s.1,.string s.2] 97)):=(Fr.refl [] wr).alloc _;have BA:=hid (l.fr0 FA);have SA:=hid (f.o.fr0 FA);have WA:=hid (show Whole (wr.alloc (.cells #[.string s.1,.string s.2] 97)) wr.heap.size 97 [.string s.1,.string s.2] from Whole.new wr _ _);have TK:=hid (zfk z2m hs);have HB:=hid (show w.heap.size+1≤wr.heap.size by have:=l.whole.lt;omega);have T1:=hid (z55 s.1 BA.o d.1 (by omega) (by have:=HB.o;simp;omega));have G:=e;subst G;clear a hs l FA;go_wp2_with fail;refine T1.o.mono ?_;rintro e w4 ⟨rfl,j⟩;have F:=hid (SA.o.wrote BA.o j);have W4:=hid (Wrote.keep BA.o j WA.o (by decide) (by decide));have pc:w4.cell? ⟨wr.heap.size,1,none⟩=some (.string s.2):=W4.o.cell 1;have a0:=hid (show w.heap.size+1≤w4.heap.size by obtain⟨_,_,q⟩:=F.o.bld;have:=q.whole.lt;omega);obtain⟨S,a8,I⟩:=F.o.bld;have T2:=hid (z55 s.2 I d.2 (by rw[Xk,z1j];omega) a0.o);have B2:=hid I;clear I j p u n r z;obtain⟨p,u,n,r,z⟩:=five F.o.box;go_wp2_with fail;refine T2.o.mono ?_;rintro e w5 ⟨rfl,H⟩;have S5:=F.o.wrote B2.o H;rw[Yi,Yi] at S5;have a2:=hid (show z8o w [.int .i64 x.kind,.string x.text,.slice K x.list.length c1,.slice (some ⟨b,off,none⟩) x.pairs.length c2,.slice U x.scores.length O] (p1++(x.pairs.take (m+1)).flatMap z2m) w5 by rw[TK.o];exact S5);clear S5 H p u n r z pc;go_wp2;go_roundg (x.pairs.length - (m+1))
        case measure=>omega
        case rel=>exact⟨m+1,rfl,by simp,by omega,a2.o⟩
       have A:=hid (show z8o w [.int .i64 x.kind,.string x.text,.slice K x.list.length c1,.slice X x.pairs.length c2,.slice U x.scores.length O] (p1++x.pairs.flatMap z2m) wr by have:=f.o;rw[Xw (by omega)] at this;exact this);clear f;go_wp2;clear p u n r z hlt Q
       have a7:=hid (show(p1++x.pairs.flatMap z2m).length≤20000 by
        have:=z7k z2m 130 x.pairs (fun y N=>by have:=Y.o.fields y N;simp only[z2m,Xk,z1j];omega);have h3:=HP.o;rw[Xk];have:x.pairs.length * 130≤24 * 130:=Yk _ (by omega);omega)
       clear HP;have HP:=a7;clear a7;have ae:=hid (show z1t x=(p1++x.pairs.flatMap z2m)++x.scores.flatMap z29 from HE.o);clear HE;generalize p1++x.pairs.flatMap z2m=p2 at *;go_loopg [69] x.scores.length (fun g i wr=>∃(m:Nat),g=x.scores.length - m∧i=.int .i64 m∧m≤x.scores.length∧z8o w [.int .i64 x.kind,.string x.text,.slice K x.list.length c1,.slice X x.pairs.length c2,.slice U x.scores.length O] (p2++(x.scores.take m).flatMap z29) wr)
       case atStart=>exact⟨0,rfl,rfl,Xt _,by simpa using A.o⟩
       clear A
       case round=>
        obtain⟨m,rfl,rfl,Q,J⟩:=hrel;have f:=hid J;obtain⟨p,u,n,r,z⟩:=five J.box;clear J;by_cases hlt:m < x.scores.length
        ·
         obtain⟨b,off,e,hb,hc,ac,a⟩:=H3.o.at_ (by omega);obtain⟨s,hs⟩:∃s,x.scores[m]? = some s:=⟨_,Xa hlt⟩;have R:wr.cell? ⟨b,off+2 * m,none⟩=some (.int .i64 s.1):=f.o.fr.cell (a _ _ (z0b _ m s hs).1) (by simp);have a1:wr.cell? ⟨b,off+2 * m+1,none⟩=some (.string s.2):=f.o.fr.cell (a _ _ (z0b _ m s hs).2) (by simp);rw[Ya 2 m] at R a1;have d:=Y.o.members s (Xj hs)
         have D:(p2++(x.scores.take m).flatMap z29).length≤90000:=by
          have:=z7k z29 130 (x.scores.take m) (fun y N=>by have:=Y.o.members y (Ud N);simp only[z29,Xk,z1j,z5i];omega);have h2:=Vz m x.scores;rw[Xk];have:(x.scores.take m).length * 130≤24 * 130:=Yk _ (by omega);have:=HP.o;omega
         obtain⟨own,ds,l⟩:=f.o.bld;have FA:Fr [] wr (wr.alloc (.cells #[.int .i64 s.1,.string s.2] 102)):=(Fr.refl [] wr).alloc _;have BA:=hid (l.fr0 FA);have SA:=hid (f.o.fr0 FA);have WA:=hid (show Whole (wr.alloc (.cells #[.int .i64 s.1,.string s.2] 102)) wr.heap.size 102 [.int .i64 s.1,.string s.2] from Whole.new wr _ _);have TK:=hid (zfk z29 hs);have HB:=hid (show w.heap.size+1≤wr.heap.size by have:=l.whole.lt;omega);obtain⟨a5,ah⟩:=q0t d.1;have N1:=zd8 (s.1+999999999).toNat BA.o ah (by omega) (by have:=HB.o;simp;omega);rw[←a5] at N1;have T1:=hid N1;have wn:IntKind.i64.wrap (s.1+999999999)=s.1+999999999:=IntWalk.i64_in _ (by omega);clear N1 a5;have G:=e;subst G;clear a hs l FA;go_wp2_with fail;refine T1.o.mono ?_;rintro e w4 ⟨rfl,j⟩;have F:=hid (SA.o.wrote BA.o j);have W4:=hid (Wrote.keep BA.o j WA.o (by decide) (by decide));have pc:w4.cell? ⟨wr.heap.size,1,none⟩=some (.string s.2):=W4.o.cell 1;have a0:=hid (show w.heap.size+1≤w4.heap.size by obtain⟨_,_,q⟩:=F.o.bld;have:=q.whole.lt;omega);obtain⟨S,a8,I⟩:=F.o.bld;have T2:=hid (z55 s.2 I d.2 (by rw[Xk,z5i];omega) a0.o);have B2:=hid I;clear I j p u n r z;obtain⟨p,u,n,r,z⟩:=five F.o.box;go_wp2_with fail;refine T2.o.mono ?_;rintro e w5 ⟨rfl,H⟩;have S5:=F.o.wrote B2.o H;rw[Yi,Yi] at S5;have a2:=hid (show z8o w [.int .i64 x.kind,.string x.text,.slice K x.list.length c1,.slice X x.pairs.length c2,.slice (some ⟨b,off,none⟩) x.scores.length O] (p2++(x.scores.take (m+1)).flatMap z29) w5 by rw[TK.o];exact S5);clear S5 H p u n r z pc;go_wp2;go_roundg (x.scores.length - (m+1))
         case measure=>omega
         case rel=>exact⟨m+1,rfl,by simp,by omega,a2.o⟩
        have A:=hid (show z8o w [.int .i64 x.kind,.string x.text,.slice K x.list.length c1,.slice X x.pairs.length c2,.slice U x.scores.length O] (p2++x.scores.flatMap z29) wr by have:=f.o;rw[Xw (by omega)] at this;exact this);clear f
        have a4:p2++x.scores.flatMap z29≠[]:=by
         rw[←ae.o];unfold z1t;simp
        obtain⟨own,ds,l⟩:=A.o.bld;have T:=hid (zgu l a4);have F2:=hid A.o.fr;have a3:=hid (Wrote.of_base l);clear l a4;go_wp2_with fail;refine T.o.mono ?_;rintro e w9 ⟨rfl,f9⟩;go_wp2;go_ret;rw[ae.o];exact⟨rfl,F2.o.step f9 (fun k hk=>.inr (by have:=a3.o k (Vw _ hk);omega))⟩)
abbrev zqa:=@And.left _ _ q7e
abbrev zq8:=@And.right _ _ q7e
theorem zqz(x:Itm)(v)(w:World)(B:Nat)(hs:x.Small)(hB:B≤w.heap.size)(hx:zdp x)(h:z0p w B v x):
  Calls prog 123 #[v] w fun e w'=>e=.returned (.string ⟨(z1t x).toArray⟩)∧Fr [] w w':=by
 by_cases hk:x.kind=1
 ·exact zqa x v w B hx h hk
 ·exact zq8 x v w B hs hB hx h hk
def zap(x:Itm):YY:=if z0a x=0 then ⟨(z1t x).toArray⟩ else ByteArray.empty
end
theorem zhh{s t:YY}(h:s.data.toList=t.data.toList):s=t:=by rw[←zpy s,←zpy t,h]
theorem z42(s:YY)(a b:Nat):(s.extract a b).data.toList=(s.data.toList.drop a).take (b - a):=by
 simp only[ByteArray.data_extract,Kc,Jk]
theorem q0z(l m:List UInt8):(toB (l++m)).extract 0 l.length=toB l:=by
 apply zhh;rw[z42,z9n,z9n];simp
theorem zhg(l m:List UInt8):(toB (l++m)).extract l.length (toB (l++m)).size=toB m:=by
 apply zhh;rw[z42,z9n,z9n,z6n];simp
theorem zx2(l m:List UInt8):zli l.length (toB (l++m))=some (toB l,toB m):=by
 unfold zli;rw[Xc (by rw[z6n];simp),q0z,zhg]
theorem zhz(c:UInt8)(l:List UInt8):zet (toB (c :: l))=some (c.toNat,toB l):=by
 unfold zet;rw[Xc (by rw[z6n];simp)];have:=zhg [c] l;rw[show([c]:List UInt8).length=1 from rfl] at this;rw[show c :: l=[c]++l from rfl,this];rfl
theorem zh5{n:Nat}(h:n < 256):(z25 n).toNat=n:=by rw[z3x];omega
theorem zbm(s:YY)(m:List UInt8)(hs:s.size < 256):z4l (toB (z2c s++m))=some (s,toB m):=by
 unfold z4l z2c;rw[List.cons_append,zhz,Yn,zh5 hs];have:=zx2 s.data.toList m;rw[zpy,show s.data.toList.length=s.size by simp] at this;exact this
theorem zvn(n:Nat)(m:List UInt8)(hn:n < 4294967296):zer (toB (z4q n++m))=some (n,toB m):=by
 unfold zer;rw[Xc (by rw[z6n];simp[z4q])];have a:=zhg (z4q n) m;rw[show(z4q n).length=4 from rfl] at a;rw[a];have d:z04 (toB (z4q n++m)) 0=n / 16777216 % 256:=by rw[toB,zai];simp[z4q,z3x]
 have b:z04 (toB (z4q n++m)) 1=n / 65536 % 256:=by rw[toB,zai];simp[z4q,z3x]
 have e:z04 (toB (z4q n++m)) 2=n / 256 % 256:=by rw[toB,zai];simp[z4q,z3x]
 have f:z04 (toB (z4q n++m)) 3=n % 256:=by rw[toB,zai];simp[z4q,z3x]
 rw[d,b,e,f];congr 2;omega
theorem zcq(k:Int)(e:YY)(ps:List (YY×YY))(sc:List (Int×YY))(k4:k≠4)(k5:k≠5)(rest:List UInt8):∀(l acc:YX),(∀s∈l,s.size < 256) →
  z35 l.length ⟨k,e,acc,ps,sc⟩ (toB (l.flatMap z2c++rest))=some (⟨k,e,acc++l,ps,sc⟩,toB rest)
 | [],acc,_=>by simp[z35]
 | s :: l,acc,h=>by
  rw[Xy,z35,Ul,Yi];unfold z5f;rw[Xc k4,Xc k5,zbm s _ (h s (by simp)),Ke,Yn,zcq k e ps sc k4 k5 rest l (acc++[s]) (fun t ht=>h t (by simp[ht]))];simp
theorem zbb(e:YY)(li:YX)(sc:List (Int×YY))(rest:List UInt8):∀(l acc:List (YY×YY)),(∀p∈l,p.1.size < 256∧p.2.size < 256) →
  z35 l.length ⟨4,e,li,acc,sc⟩ (toB (l.flatMap z2m++rest))=some (⟨4,e,li,acc++l,sc⟩,toB rest)
 | [],acc,_=>by simp[z35]
 | p :: l,acc,h=>by
  rw[Xy,z35,Ul,Yi];unfold z5f;rw[Xf rfl];unfold z2m;rw[Yi,zbm p.1 _ (h p (by simp)).1,Yn,zbm p.2 _ (h p (by simp)).2,Ke,Yn];have:=zbb e li sc rest l (acc++[p]) (fun t ht=>h t (by simp[ht]));unfold z2m at this;rw[this];simp
theorem z9t(e:YY)(li:YX)(ps:List (YY×YY))(rest:List UInt8):∀(l acc:List (Int×YY)),(∀p∈l,z0o p.1=true∧p.2.size < 256) →
  z35 l.length ⟨5,e,li,ps,acc⟩ (toB (l.flatMap z29++rest))=some (⟨5,e,li,ps,acc++l⟩,toB rest)
 | [],acc,_=>by simp[z35]
 | p :: l,acc,h=>by
  rw[Xy,z35,Ul,Yi];unfold z5f;rw[Xc (show ¬(5:Int)=4 by decide),Xf rfl];have hp:=h p (by simp);have hi:=hp.1;simp only[z0o,Yf,decide_eq_true_eq] at hi;unfold z29;rw[Yi,zvn _ _ (by omega),Yn,zbm p.2 _ hp.2,Ke,Yn];have:=z9t e li ps rest l (acc++[p]) (fun t ht=>h t (by simp[ht]));unfold z29 at this;have e2:(((p.1+999999999).toNat:Nat):Int) - 999999999=p.1:=by omega
  simp only[e2];rw[this];simp
theorem q2l{x:Itm}(h:zdp x):z41 (toB (z1t x))=some x:=by
 have j:=h.bare;have m:=h.kind;have l:=h.many;have k:(z25 x.kind.toNat).toNat=x.kind.toNat:=zh5 (by omega);simp only[z6q,Yf,Jp,beq_iff_eq] at j;unfold z41 z1t;rw[zhz,Yn,k];by_cases h1:x.kind=1
 ·rw[Xf h1,Xf (by omega)];have a:=Xo (show x.list.length=0 by omega);have b:=Xo (show x.pairs.length=0 by omega);have d:=Xo (show x.scores.length=0 by omega);cases x
  simp_all [z2q,zpy]
 ·rw[Xc h1,Xc (by omega),Xf (by omega),zhz,Yn,zh5 (by omega)];have n:x.text=ByteArray.empty:=q01 (by omega);have g:((x.kind.toNat:Nat):Int)=x.kind:=by omega
  rw[g];by_cases h4:x.kind=4
  ·have a:=Xo (show x.list.length=0 by omega);have d:=Xo (show x.scores.length=0 by omega);have e:many x=x.pairs.length:=by unfold many;rw[a,d];simp
   have:=zbb ByteArray.empty [] [] [] x.pairs [] (fun p f=>by have:=h.fields p f;omega);rw[e,a,d,h4];simp only[Jy,Vq,Ub] at this ⊢;rw[show z2q 4=⟨4,ByteArray.empty,[],[],[]⟩ from rfl,this,Yn,Xf (by rw[z6n];rfl)];cases x
   simp_all
  ·by_cases h5:x.kind=5
   ·have a:=Xo (show x.list.length=0 by omega);have b:=Xo (show x.pairs.length=0 by omega);have e:many x=x.scores.length:=by unfold many;rw[a,b];simp
    have:=z9t ByteArray.empty [] [] [] x.scores [] (fun p f=>by have:=h.members p f;exact⟨this.1,by omega⟩);rw[e,a,b,h5];simp only[Jy,Vq,Ub] at this ⊢;rw[show z2q 5=⟨5,ByteArray.empty,[],[],[]⟩ from rfl,this,Yn,Xf (by rw[z6n];rfl)];cases x
    simp_all
   ·have b:=Xo (show x.pairs.length=0 by omega);have d:=Xo (show x.scores.length=0 by omega);have e:many x=x.list.length:=by unfold many;rw[b,d];simp
    have:=zcq x.kind ByteArray.empty [] [] h4 h5 [] x.list [] (fun s hs=>by have:=h.texts s hs;omega);rw[e,b,d];simp only[Jy,Vq,Ub] at this ⊢;rw[show z2q x.kind=⟨x.kind,ByteArray.empty,[],[],[]⟩ from rfl,this,Yn,Xf (by rw[z6n];rfl)];cases x
    simp_all
theorem zof(c:UInt8):z25 c.toNat=c:=by simp[z25]
theorem zs5{n:Nat}{s t r:YY}(h:zli n s=some (t,r)):s.data.toList=t.data.toList++r.data.toList∧t.size=n:=by
 unfold zli at h;by_cases h1:s.size < n
 ·rw[Xf h1] at h;cases h
 ·rw[Xc h1] at h;cases h;refine⟨?_,by simp;omega⟩;rw[z42,z42];have a:s.data.toList.length=s.size:=by simp
  rw[Xw (l:=List.drop n s.data.toList) (by simp)];simp
theorem zeu{n:Nat}{s r:YY}(h:zet s=some (n,r)):s.data.toList=z25 n :: r.data.toList∧n < 256:=by
 unfold zet at h;by_cases h1:s.size < 1
 ·rw[Xf h1] at h;cases h
 ·rw[Xc h1] at h;cases h;refine⟨?_,z0t s 0⟩;have a:s.data.toList.length=s.size:=by simp
  rw[z42]
  match hs:s.data.toList with
  | []=>rw[hs] at a;simp at a;omega
  | c :: l=>
   have e:z04 s 0=c.toNat:=by unfold z04;rw[hs];rfl
   rw[e,zof];rw[hs] at a;simp at a;simp;rw[Xw (by omega)]
theorem z9o{s t r:YY}(h:z4l s=some (t,r)):s.data.toList=z2c t++r.data.toList:=by
 unfold z4l at h;obtain⟨p,e,d⟩:=Uu.1 h;obtain⟨n,q⟩:=p;have h3:=zeu e;obtain⟨a,b⟩:=zs5 d;simp only at a b;rw[h3.1,a,←b];rfl
theorem zrg{n:Nat}{s r:YY}(h:zer s=some (n,r)):s.data.toList=z4q n++r.data.toList∧n < 4294967296:=by
 unfold zer at h;by_cases h1:s.size < 4
 ·rw[Xf h1] at h;cases h
 ·rw[Xc h1] at h;cases h;have y:=z0t s 0;have w:=z0t s 1;have t:=z0t s 2;have A:=z0t s 3;refine⟨?_,by omega⟩;have e:s.data.toList.length=s.size:=by simp
  rw[z42]
  match hs:s.data.toList with
  | a :: b :: c :: d :: l=>
   have g:z04 s 0=a.toNat:=by unfold z04;rw[hs];rfl
   have j:z04 s 1=b.toNat:=by unfold z04;rw[hs];rfl
   have m:z04 s 2=c.toNat:=by unfold z04;rw[hs];rfl
   have k:z04 s 3=d.toNat:=by unfold z04;rw[hs];rfl
   rw[hs] at e;simp at e;rw[g,j,m,k];rw[g] at y;rw[j] at w;rw[m] at t;rw[k] at A
   have z:z25 ((((a.toNat * 256+b.toNat) * 256+c.toNat) * 256+d.toNat) / 16777216)=a:=by
    rw[show(((a.toNat * 256+b.toNat) * 256+c.toNat) * 256+d.toNat) / 16777216=a.toNat by omega,zof]
   have f:∀(n:Nat) (c:UInt8),n % 256=c.toNat→z25 n=c:=by
    intro n c h;apply UInt8.toNat.inj;rw[z3x,h]
   have p:z25 ((((a.toNat * 256+b.toNat) * 256+c.toNat) * 256+d.toNat) / 65536)=b:=f _ _ (by omega);have u:z25 ((((a.toNat * 256+b.toNat) * 256+c.toNat) * 256+d.toNat) / 256)=c:=f _ _ (by omega);have x:z25 (((a.toNat * 256+b.toNat) * 256+c.toNat) * 256+d.toNat)=d:=f _ _ (by omega);unfold z4q;rw[z,p,u,x];simp;rw[Xw (by omega)]
  | []=>rw[hs] at e;simp at e;omega
  | [a]=>rw[hs] at e;simp at e;omega
  | [a,b]=>rw[hs] at e;simp at e;omega
  | [a,b,c]=>rw[hs] at e;simp at e;omega
def zci(x:Itm):List UInt8:=x.list.flatMap z2c++(x.pairs.flatMap z2m++x.scores.flatMap z29)
def zsm(x:Itm):Prop:=x.text=ByteArray.empty∧(x.kind=4→x.list=[]∧x.scores=[])∧(x.kind=5→x.list=[]∧x.pairs=[])∧(x.kind≠4→x.kind≠5→x.pairs=[]∧x.scores=[])
theorem znj{x x':Itm}{s r:YY}(ho:zsm x)(h:z5f x s=some (x',r)):zsm x'∧x'.kind=x.kind∧many x'=many x+1∧zci x++s.data.toList=zci x'++r.data.toList:=by
 obtain⟨k,m,l,n⟩:=ho;unfold z5f at h;by_cases h4:x.kind=4
 ·rw[Xf h4] at h;obtain⟨p,a,j⟩:=Uu.1 h;obtain⟨q,g,h3⟩:=Yr.1 j;cases h3;have b:=z9o a;have f:=z9o g;obtain⟨d,e⟩:=m h4;refine⟨⟨k,m,(fun h=>absurd (h.symm.trans h4) (by decide)),fun h=>absurd h4 h⟩,rfl,by unfold many;simp;omega,?_⟩;rw[b,f];simp[zci,d,e,z2m]
 ·rw[Xc h4] at h;by_cases h5:x.kind=5
  ·rw[Xf h5] at h;obtain⟨p,a,j⟩:=Uu.1 h;obtain⟨q,g,h3⟩:=Yr.1 j;cases h3;have b:=zrg a;have f:=z9o g;obtain⟨d,e⟩:=l h5;refine⟨⟨k,fun h=>absurd h h4,l,fun _ h=>absurd h5 h⟩,rfl,by unfold many;simp;omega,?_⟩;have t:((p.1:Int) - 999999999+999999999).toNat=p.1:=by omega
   rw[b.1,f];simp only[zci,d,e,z29,List.flatMap_append,Ul,Jy,t];simp
  ·rw[Xc h5] at h;obtain⟨p,a,h3⟩:=Yr.1 h;cases h3;have b:=z9o a;obtain⟨d,e⟩:=n h4 h5;refine⟨⟨k,fun h=>absurd h h4,fun h=>absurd h h5,n⟩,rfl,by unfold many;simp;omega,?_⟩;rw[b];simp[zci,d,e]
theorem zf5:∀(n:Nat) {x x':Itm} {s r:YY},zsm x→z35 n x s=some (x',r)→zsm x'∧x'.kind=x.kind∧many x'=many x+n∧zci x++s.data.toList=zci x'++r.data.toList
 | 0,x,x',s,r,ho,h=>by
  rw[z35] at h;cases h;exact⟨ho,rfl,rfl,rfl⟩
 | n+1,x,x',s,r,ho,h=>by
  rw[z35] at h;obtain⟨p,hp,h2⟩:=Uu.1 h;obtain⟨y,q⟩:=p;obtain⟨a1,a2,a3,a4⟩:=znj ho hp;obtain⟨b1,b2,b3,b4⟩:=zf5 n a1 h2;exact⟨b1,b2.trans a2,by omega,a4.trans b4⟩
theorem q32{s:YY}{x:Itm}(h:z41 s=some x):toB (z1t x)=s:=by
 apply zhh;rw[z9n];unfold z41 at h;obtain⟨p,u,a⟩:=Uu.1 h;obtain⟨n,r⟩:=p;obtain⟨A,F⟩:=zeu u;rw[A];by_cases h1:n=1
 ·rw[Xf h1] at a;subst h1;cases a;rfl
 ·rw[Xc h1] at a;by_cases h3:2≤n∧n≤5
  ·rw[Xf h3] at a;obtain⟨q,k,h4⟩:=Uu.1 a;obtain⟨m,G⟩:=q;obtain⟨l,H⟩:=zeu k;obtain⟨z,t,e⟩:=Uu.1 h4;obtain⟨y,j⟩:=z;by_cases h6:j.size=0
   ·rw[Xf h6] at e;cases e;have d:zsm (z2q n):=⟨rfl,fun _=>⟨rfl,rfl⟩,fun _=>⟨rfl,rfl⟩,fun _ _=>⟨rfl,rfl⟩⟩;obtain⟨C,w,D,f⟩:=zf5 m d t
    have g:j.data.toList=[]:=by
     have:=q01 h6;rw[this]
    have E:y.kind=n:=w;have B:y.kind.toNat=n:=by omega
    unfold z1t;rw[Xc (show ¬y.kind=1 by omega),B,l];have hz0:many (z2q (n:Int))=0:=rfl;have b:many y=m:=by omega
    rw[b];rw[g] at f;have:zci (z2q n)=[]:=rfl;rw[this] at f;simp only[Vq,Ub] at f;rw[f];rfl
   ·rw[Xc h6] at e;cases e
  ·rw[Xc h3] at a;cases a
section
open Go.RowKit
attribute [local go_sem ↓] Go.wp_at_zero Go.wp_at_succ
theorem q1g{s:YY}(h:z1n s=0):z0a (z0m s)=0∧zap (z0m s)=s:=by
 cases hd:z41 s with
 | none=>unfold z1n at h;rw[hd] at h;cases h
 | some x=>
  have a:z0a x=0:=by unfold z1n at h;rw[hd] at h;exact h
  have b:=(zoq hd a).2;rw[b];refine⟨a,?_⟩;unfold zap;rw[Xf a];exact q32 hd
theorem q5z{x:Itm}(h:z0a x=0):z1n (zap x)=0∧z0m (zap x)=x:=by
 have e:zap x=toB (z1t x):=by unfold zap;rw[Xf h];rfl
 rw[e];exact zoq (q2l (z2t h)) h
theorem zyw{x:Itm}(h:zdp x):(⟨(z1t x).toArray⟩:YY).size≤281474976710656:=by
 have b:=h.many;unfold many at b;have hs:(⟨(z1t x).toArray⟩:YY).size=(z1t x).length:=z6n _;rw[hs];have f:=z7k z2c 61 x.list (fun y a=>by rw[z1j];have:=h.texts y a;omega);have e:=z7k z2m 130 x.pairs (fun y a=>by have:=h.fields y a;simp only[z2m,Xk,z1j];omega);have h3:=z7k z29 130 x.scores (fun y a=>by have:=h.members y a;simp only[z29,Xk,z1j,z5i];omega);have g:=h.text;have d:x.text.data.toList.length=x.text.size:=by simp
 unfold z1t;split <;> simp only[Xy,Xk] <;> omega
end
end Go.Proofs.YtnmoajaelmimnaaGreatDoor
