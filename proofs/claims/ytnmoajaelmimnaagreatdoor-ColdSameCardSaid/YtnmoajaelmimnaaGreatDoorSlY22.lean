/- Contracts; no condition but each theorem's own. -/
import Derived.Test.YtnmoajaelmimnaaGreatDoorSlY21
set_option linter.unusedVariables false
set_option linter.unusedSimpArgs false
set_option maxHeartbeats 8000000
set_option maxRecDepth 100000
namespace Go.Proofs.YtnmoajaelmimnaaGreatDoor
open Go.Proofs.Tryz
section
open Go.RowKit
theorem znu(s):z0q s=if zbd s≠0 then zbd s else zqx s.segs none s.slots:=by
 unfold z0q zbd;by_cases h:z8h s=true
 ·simp only[Xf h];rfl
 ·simp only[Xc h]
theorem z7h(s:Sto)(v)(w:World)(B:Nat)(hs:s.Small)(hB:B≤w.heap.size)(h:z5p w B v s):
  Calls prog 24 #[v] w fun e w'=>e=.returned (.int .i64 (z0q s))∧Fr [] w w':=by
 have RC:=hid (fun W (hW:Fr [] w W)=>znk s v W B hs (Xd hB hW.size) (h.fr hW hB (by simp)));obtain⟨a,b,rfl,m,h2⟩:=h;obtain⟨SA,sc,rfl⟩:=m.form;obtain⟨RA,Z,rfl⟩:=h2.form;have U:=hid ((Fr.refl [] w).alloc (.cells #[.slice SA s.slots.length sc,.slice RA s.segs.length Z] 42));have W1:=hid (Whole.new w 42 [.slice SA s.slots.length sc,.slice RA s.segs.length Z]);obtain⟨G,M⟩:=two W1.o;have P:=znu s;have a9:=hs.le;have F:=hs.sle;have y:=hid hs;have HV:=hid m;have HR:=hid h2;clear hs m h2;by_cases h0:zbd s=0
 ·rw[Xc (by simpa using h0)] at P;rw[h0] at RC;have E0:=hid (show z0q s=zqx s.segs (z9q s.slots 0) (s.slots.drop 0) from P)
  have a1:s.slots.length≤16:=by
   unfold zbd at h0;by_cases I:z8h s=true
   ·rw[Xf I] at h0;cases h0
   ·have I:z8h s=false:=by simpa using I
    unfold z8h at I;simp only[Vc,decide_eq_false_iff_not] at I;omega
  clear P h0;go_enter func24,ntmps24;go_wp2_with fail;refine(RC.o _ U.o).mono ?_;rintro e1 w1 ⟨rfl,J⟩;have F2:=hid (U.o.trans J);have W2:=hid (W1.o.fr J (by simp));clear J G M;obtain⟨G,M⟩:=two W2.o;go_wp2;clear G M;go_loopg [15] s.slots.length (fun g i wr=>∃(k:Nat),g=s.slots.length - k∧k≤s.slots.length∧i=.int .i64 k∧Hid (z0q s=zqx s.segs (z9q s.slots k) (s.slots.drop k))∧Fr [] w1 wr)
  case atStart=>exact⟨0,rfl,Xt _,rfl,E0,Fr.refl _ _⟩
  case round=>
   obtain⟨k,rfl,hk,rfl,HE,T⟩:=hrel;have u:=hid (F2.o.trans T);have D:=hid T;have WR:=hid (W2.o.fr T (by simp));clear T;by_cases hlt:k < s.slots.length
   ·obtain⟨b,off,rfl,hb,hc,a0,A⟩:=HV.o.at_ (by omega);obtain⟨e,he⟩:∃e,s.slots[k]? = some e:=⟨_,Xa hlt⟩;obtain⟨Q,X,R,c1,c2,V,H⟩:=A k e he;have Y:=Xj he;have N:=hid (H.fr u.o hb hB (by simp));obtain⟨G,M,x2,x3,x4,x5,x6,x7,x8,x9,-⟩:=N.o;have K:=y.o.slots e Y;have ad:=K.key;have n:=hid (HE.o.trans (zup he));have C:=hid (fun W (hW:Fr [] wr W)=>q0x s.segs (.slice (some ⟨b,off,none⟩) s.slots.length sc) RA Z e Q X R c1 c2 V W B K (fun l hl=>(y.o.segs l hl).1) F rfl (Xd hB (u.o.trans hW).size) (HR.o.fr (u.o.trans hW) hB (by simp)) (N.o.ent.fr hW (Xd hB u.o.size) (by simp)))
    have d:=hid (fun(j:Nat) (p:Slt) (hj:s.slots[j]? = some p)=>(show wr.cell? ⟨b,off+j * 10,none⟩=some (.string p.key) from by
     obtain⟨_,_,_,_,_,_,g7⟩:=A j p hj;exact(g7.fr u.o hb hB (by simp)).k0))
    have f:=hid (fun(j:Nat) (p:Slt) (hj:s.slots[j]? = some p)=>(y.o.slots p (Xj hj)).key);unfold maxLen at a0;clear A H HE;have V1:=hid (Whole.new wr 124 (ySl e Q c1 X c2 R V));have S:=hid ((Fr.refl [] wr).alloc (.cells (ySa e Q c1 X c2 R V) 124));have WA:=hid (WR.o.alloc (.cells (ySa e Q c1 X c2 R V) 124));obtain⟨r0,r1⟩:=two WA.o;by_cases m:z9r s.segs e=0
    ·rw[Xc (by simpa using m)] at n;rw[m] at C;clear m;go_wp2_with fail;refine(C.o _ S.o).mono ?_;rintro e2 w2 ⟨rfl,z⟩;have V2:=hid (V1.o.fr z (by simp));have WB:=hid (WA.o.fr z (by simp));have x:=hid (S.o.trans z);have L:=hid (u.o.trans x.o);clear z G M x2 x3 x4 x5 x6 x7 x8 x9 r0 r1;have y0:=V2.o.cell 0;obtain⟨r0,r1⟩:=two WB.o;rcases Yq k with hk0|hk0
     ·subst hk0;have NX:Hid (z0q s=zqx s.segs (z9q s.slots (0+1)) (s.slots.drop (0+1))):=hid (by rw[n.o,Xc (show ¬z2v (z9q s.slots 0) e.key=true by rw[zrs,zcg];decide)]);clear n C d f;go_wp2;go_quiet (fail);go_wp2;go_roundg (s.slots.length - (0+1))
      case measure=>omega
      case rel=>exact⟨0+1,rfl,by omega,by go_num,NX,by first|exact D.o.trans x.o|exact(D.o.trans x.o).drewN _|exact((D.o.trans x.o).drewN _).drewN _⟩
     ·obtain⟨j,rfl⟩:∃j,k=j+1:=⟨k - 1,by omega⟩;obtain⟨p,O⟩:∃p,s.slots[j]? = some p:=⟨_,Xa (show j < s.slots.length by omega)⟩;have t:z9q s.slots (j+1)=some p.key:=zrr O;have m1:=x.o.cell (d.o j p O) (by simp);have a8:=f.o j p O;have a7:IntKind.i64.wrap (((j+1:Nat):Int) - 1)=(j:Int):=by rw[IntKind.wrap_i64];omega
      have a3:IntKind.i64.wrap ((j:Int)+1 - 1)=(j:Int):=by rw[IntKind.wrap_i64];omega
      have ac:IntKind.i64.wrap (j:Int)=(j:Int):=by rw[IntKind.wrap_i64];omega
      have a6:(0:Int)≤(j:Int):=by omega
      have a4:(j:Int) < (s.slots.length:Int):=by omega
      have a5:(0:Int)≤(j:Int)+1:=by omega
      have aa:(j:Int)+1 < (s.slots.length:Int):=by omega
      have ab:((j:Int)+1).toNat=j+1:=by omega
      have a2:decide ((0:Int) < (j:Int)+1)=true:=Xi (by omega);rcases zgn p.key e.key with⟨ho,hlt3⟩|⟨ho,hlt3⟩|⟨ho,hlt3⟩
      ·have NX:Hid (z0q s=zqx s.segs (z9q s.slots (j+1+1)) (s.slots.drop (j+1+1))):=hid (by rw[n.o,Xc (show ¬z2v (z9q s.slots (j+1)) e.key=true by rw[t,z6i,hlt3];decide)]);obtain⟨z1,z2⟩:=zpi ho;clear n C d f O t ho hlt3;go_wp2;go_quiet (fail);go_wp2;go_roundg (s.slots.length - (j+1+1))
       case measure=>omega
       case rel=>exact⟨j+1+1,rfl,by omega,by go_num,NX,by first|exact D.o.trans x.o|exact(D.o.trans x.o).drewN _|exact((D.o.trans x.o).drewN _).drewN _⟩
      all_goals
       have E:=hid (show z0q s=4 from by rw[n.o,Xf (show z2v (z9q s.slots (j+1)) e.key=true by rw[t,z6i,hlt3];rfl)])
       first
        | (have z1:(e.key.toList==p.key.toList)=true:=by rw[ho];exact(zov e.key).1)
        | have z1:=q69 ho
       clear n C d f O t ho hlt3;go_wp2;go_quiet (fail);go_wp2;go_ret;rw[E.o];exact⟨rfl,by first|exact L.o|exact L.o.drewN _|exact(L.o.drewN _).drewN _⟩
    ·have E:=hid (show z0q s=z9r s.segs e from by rw[n.o,Xf (by simpa using m)]);have q2:(z9r s.segs e != 0)=true:=by simpa using m
     clear n d f m;generalize z9r s.segs e=r at *;go_wp2_with fail;refine(C.o _ S.o).mono ?_;rintro e2 w2 ⟨rfl,z⟩;have L:=hid (u.o.trans (S.o.trans z));clear z;go_wp2;go_ret;rw[E.o];exact⟨rfl,L.o⟩
   ·obtain rfl:k=s.slots.length:=by omega
    have E:=hid (show z0q s=0 from by rw[HE.o,Jc];rfl);go_wp2;go_ret;rw[E.o];exact⟨rfl,u.o⟩
 ·have E:=hid (show z0q s=zbd s from by rw[P,Xf h0]);have q:(zbd s != 0)=true:=by simpa using h0
  rw[E.o];clear E P h0;generalize zbd s=r at *;go_enter func24,ntmps24;go_wp2_with fail;refine(RC.o _ U.o).mono ?_;rintro e1 w1 ⟨rfl,J⟩;go_wp2;go_ret;exact⟨rfl,U.o.trans J⟩
def zc0(m:Nat)(n:Nat)(_:Bool):Bool:=decide (n=m)
def zau(_:Nat)(_:Bool):Bool:=true
def za3(n:Nat)(b:Bool):Bool:=b&&decide (n=1)
theorem zvk(l:List Itm)(A)(c g m:Nat)(n:Nat)(b:Bool)(w:World)(hm:m=l.length)(hl:l.length≤281474976710656)(hg:w.cell? ⟨g,0,none⟩=some (.slice A l.length c)):
  Calls prog 272 (#[.int .i64 n,.bool b]++#[.pointer (some ⟨g,0,none⟩)]) w fun e w'=>e=.returned (.bool (zc0 m n b))∧Fr [] w w':=by
 subst hm;by_cases h:n=l.length
 ·have E:zc0 l.length n b=true:=Xi h;have q:((n:Int)==(l.length:Int))=true:=by simp[h]
  rw[E];clear h E;go_enter func272,ntmps272;go_wp2;go_ret;exact⟨rfl,Fr.refl _ _⟩
 ·have E:zc0 l.length n b=false:=Xl h;have q:((n:Int)==(l.length:Int))=false:=beq_eq_false_iff_ne.2 (by omega);rw[E];clear h E;go_enter func272,ntmps272;go_wp2;go_ret;exact⟨rfl,Fr.refl _ _⟩
theorem zuv(n:Nat)(b:Bool)(w:World):
  Calls prog 271 (#[.int .i64 n,.bool b]++#[]) w fun e w'=>e=.returned (.bool (zau n b))∧Fr [] w w':=by
 go_enter func271,ntmps271;go_wp2;go_ret;exact⟨rfl,Fr.refl _ _⟩
theorem zv5(n:Nat)(b:Bool)(w:World):
  Calls prog 273 (#[.int .i64 n,.bool b]++#[]) w fun e w'=>e=.returned (.bool (za3 n b))∧Fr [] w w':=by
 cases b with
 | false=>
  rw[show za3 n false=false from rfl];go_enter func273,ntmps273;go_wp2;go_ret;exact⟨rfl,Fr.refl _ _⟩
 | true=>
  by_cases h:n=1
  ·subst h;rw[show za3 1 true=true from rfl];go_enter func273,ntmps273;go_wp2;go_ret;exact⟨rfl,Fr.refl _ _⟩
  ·have E:za3 n true=false:=by unfold za3;rw[Xl h];rfl
   have q:((n:Int)==1)=false:=beq_eq_false_iff_ne.2 (by omega);rw[E];clear h E;go_enter func273,ntmps273;go_wp2;go_ret;exact⟨rfl,Fr.refl _ _⟩
theorem zns(l:List Itm)(v)(w:World)(B:Nat)(hs:∀x∈l,x.Small)(hl:l.length≤1048576)(hB:B≤w.heap.size)(h:z58 w B v l):
  Calls prog 220 #[v] w (zdc (z2x (zc0 l.length) l) (z13 l) w):=by
 obtain⟨A,c,rfl⟩:=h.form;have a:=hid ((Fr.refl [] w).alloc (.cells #[.slice A l.length c] 93));have p:=hid (Whole.new w 93 [.slice A l.length c])
 have m:=hid (za8 272 #[.pointer (some ⟨w.heap.size,0,none⟩)] (z1b func272 (by kernel_rfl) rfl) (zc0 l.length) l (.slice A l.length c) (w.alloc (.cells #[.slice A l.length c] 93)) B
  (fun W n b g=>zvk l A c w.heap.size l.length n b W rfl (by omega) (by
    have:=g.whole p.o (by simp) (by simp);exact this.cell 0)) hs hl (Xd hB a.o.size) (h.fr a.o hB (by simp)))
 clear h hs;go_enter func220,ntmps220;go_wp2_with fail;refine m.o.mono ?_;rintro e r ⟨u,rfl,d,f⟩;have j:=hid d;have k:=hid (a.o.trans f);clear d f;go_wp2;go_ret2;exact⟨_,rfl,z0i j.o (by simp),k.o⟩
theorem znq(l:List Itm)(v)(w:World)(B:Nat)(hs:∀x∈l,x.Small)(hl:l.length≤1048576)(hB:B≤w.heap.size)(h:z58 w B v l):
  Calls prog 218 #[v] w (zdc (z2x zau l) (z13 l) w):=by
 have j:=hid (za8 271 #[] (z1b func271 (by kernel_rfl) rfl) zau l v w B (fun W n b m=>zuv n b W) hs hl hB h);obtain⟨A,c,rfl⟩:=h.form;clear h hs;go_enter func218,ntmps218;go_wp2_with fail;refine j.o.mono ?_;rintro e k ⟨u,rfl,a,d⟩;have f:=hid a;have g:=hid d;clear a d;go_wp2;go_ret2;exact⟨_,rfl,f.o,g.o⟩
theorem znr(l:List Itm)(v)(w:World)(B:Nat)(hs:∀x∈l,x.Small)(hl:l.length≤1048576)(hB:B≤w.heap.size)(h:z58 w B v l):
  Calls prog 221 #[v] w (zdc (z2x za3 l) (z13 l) w):=by
 have j:=hid (za8 273 #[] (z1b func273 (by kernel_rfl) rfl) za3 l v w B (fun W n b m=>zv5 n b W) hs hl hB h);obtain⟨A,c,rfl⟩:=h.form;clear h hs;go_enter func221,ntmps221;go_wp2_with fail;refine j.o.mono ?_;rintro e k ⟨u,rfl,a,d⟩;have f:=hid a;have g:=hid d;clear a d;go_wp2;go_ret2;exact⟨_,rfl,f.o,g.o⟩
attribute [local go_sem] z1g
theorem z1i.set4{w:World}{base o:Nat}{v:Value}{r:Rep}(h:z1i w base v r)(ho:o < base)(a b c d):z1i (set4 w o a b c d) base v r:=by
 obtain⟨f,u,rfl,e⟩:=h;exact⟨f,_,rfl,zpn e ho _ _ _ _⟩
theorem zm1(x)(l):(zcx x l).Small:=by
 unfold zcx;split
 ·rename_i h;obtain⟨a,b⟩:=zm2 h;unfold ofK;split
  ·exact z12 0 (by decide)
  ·exact zec (by decide) (by omega) (fun s hs=>by have:=zdq a s hs;omega)
 ·exact z12 0 (by decide)
theorem zl4(x)(l):(z8y 3 x l).Small:=by
 unfold z8y;split
 ·rename_i h;have a:=(zih h).2;have b:(za2 x.list l).length≤x.list.length:=Xv _ _;unfold ofK;split
  ·exact z12 0 (by decide)
  ·exact zec (by decide) (by omega) (fun s hs=>by have:=(z1m h).texts s (Yj.1 hs).1;omega)
 ·exact z12 0 (by decide)
theorem zfv(l:List (YY×YY))(p:YY×YY)(i:Nat):z15 (z0e l) [.string p.1,.string p.2] (i * 2)=z0e (l.take i++p :: l.drop i):=by
 have h:z0e l=z0e (l.take i)++z0e (l.drop i):=by rw[←z7x,Uk]
 have a:(z0e l).drop (i * 2)=z0e (l.drop i):=by
  have e:=Uk (i * 2) (z0e l);rw[z7z] at e;exact Js (e.trans h)
 unfold z15;rw[z7z,a,show p :: l.drop i=[p]++l.drop i from rfl,z7x,z7x];simp[z0e]
theorem zms(x:Itm)(v)(l:List (YY×YY))(Al)(cl:Nat)(w:World)(B:Nat)(hs:x.Small)(hB:B≤w.heap.size)(h:z0p w B v x)(hl:(24+l.length) * 32≤140737488355328)(hL:Sl w B 2 (.slice Al l.length cl) l.length (z0e l)):
  Calls prog 222 #[v,.slice Al l.length cl] w (z57 (q1t x l) (z23 x l) (zsf x l) w):=by
 have RD:=hid (fun W (hf:Fr [] w W)=>zc7 x v W B hs (Xd hB hf.size) (h.fr hf hB (by simp)));have CF:=hid (fun W (hf:Fr [] w W)=>ztf 275 #[] (z1b func275 (by kernel_rfl) rfl) z5e B l Al cl B W (zwa B W) (by omega) (Xd hB hf.size) (hL.fr hf hB (by simp)));have HL:=hid hL;obtain⟨A1,c1,A2,c2,A3,c3,rfl,h1,h2,h3⟩:=h;have H2:=hid h2;have D0:=hid (BO.new w (.int .i64 x.kind) (.string x.text) (.slice A1 x.list.length c1) (.slice A2 x.pairs.length c2) (.slice A3 x.scores.length c3));obtain⟨X,d1,U,Z,d4⟩:=five D0.o.b;have EC:=hid (show z23 x l=if z1y x l≠0 then z1y x l else if 24 < (zwb x l).length then 2 else 0 from rfl);have Y:=hid (show z1y x l=if z02 4 x≠0 then z02 4 x else if l.length=0 then 1 else if l.any z5e=true then 2 else 0 from rfl);have EY:=hid (show zsf x l=if z23 x l=0 then ofP (zwb x l) else z2q 0 from rfl);have EK:=hid (show q1t x l=if z23 x l=0 then ((zwb x l).length:Int) - x.pairs.length else 0 from rfl);clear h1 h2 h3 hs hL
 have aa:∀c:Int,c≠0→z23 x l=c→zsf x l=z2q 0∧q1t x l=0:=fun c L he=>by
  have h0:z23 x l≠0:=by rw[he];exact L
  exact⟨by rw[EY.o,Xc h0],by rw[EK.o,Xc h0]⟩
 have K:=hid aa;clear aa;by_cases ha:z02 4 x=0
 ·rw[ha] at RD;by_cases V:l.length=0
  ·have E:=hid (show z23 x l=1 from by
    have t:z1y x l=1:=by rw[Y.o,Xc (by simpa using ha),Xf V]
    rw[EC.o,t,Xf (by decide)])
   obtain⟨D,G⟩:=K.o 1 (by decide) E.o;rw[D,G,E.o];have q:((l.length:Int)==0)=true:=by simp[V]
   clear D G EC Y EY EK ha V K CF;go_enter func222,ntmps222;go_wp2_with fail;refine(RD.o _ D0.o.f).mono ?_;rintro e w1 ⟨rfl,f1⟩;have J:=hid (D0.o.go f1);clear X d1 U Z d4;obtain⟨P,N,Q,R,O⟩:=five J.o.o;obtain⟨b0,b2,b3,b4,b5⟩:=z11 J.o.o;go_wp2;refine Xg (v:=.tuple #[.agg yIza,.int .i64 0,.int .i64 1]) (by simp[results,results222,go_sem,P,N,Q,R,O]) rfl ?_;exact⟨_,rfl,z0k.nothing _ _,J.o.end5 _ _ _ _ _⟩
  ·have q:((l.length:Int)==0)=false:=beq_eq_false_iff_ne.2 (by omega);by_cases L:l.any z5e=true;have a5:=hid trivial
   all_goals
    first
    | (guard_hyp a5
       have E:=hid (show z23 x l=2 from by
        have t:z1y x l=2:=by rw[Y.o,Xc (by simpa using ha),Xc V,Xf L]
        rw[EC.o,t,Xf (by decide)])
       obtain⟨D,G⟩:=K.o 2 (by decide) E.o;rw[D,G,E.o];rw[L] at CF;clear D G EC Y EY EK ha V K L)
    | (have t:z1y x l=0:=by rw[Y.o,Xc (by simpa using ha),Xc V,Xc L]
       rw[show(l.any z5e)=false from by simpa using L] at CF;have NL:=hid (zhw L);have a8:=hid (zb1 ha);have HR:=hid (z9e ha);have an:=a8.o.1;have CL:=hid (fun W (hW:Fr [] w W)=>zbs x.pairs.length (z0e x.pairs) A2 c2 W B (by omega) (Xd hB hW.size) (H2.o.fr hW hB (by simp)) (zb4 _));have E0:=hid (show z23 x l=if 24 < (zwb x l).length then 2 else 0 from by rw[EC.o,Xc (by simpa using t)]);clear ha V L t EC Y)
    go_enter func222,ntmps222;go_wp2_with fail;refine(RD.o _ D0.o.f).mono ?_;rintro e w1 ⟨rfl,f1⟩;have J:=hid (D0.o.go f1);clear X d1 U Z d4;go_wp2_with fail;refine(CF.o _ J.o.f).mono ?_;rintro e w2 ⟨rfl,f2⟩;have D2:=hid (J.o.go f2)
    first
    | (guard_hyp a5
       obtain⟨P,N,Q,R,O⟩:=five D2.o.o;obtain⟨b0,b2,b3,b4,b5⟩:=z11 D2.o.o;go_wp2;refine Xg (v:=.tuple #[.agg yIza,.int .i64 0,.int .i64 2]) (by simp[results,results222,go_sem,P,N,Q,R,O]) rfl ?_;exact⟨_,rfl,z0k.nothing _ _,D2.o.end5 _ _ _ _ _⟩)
    | (have hz2:=D2.o.lt
       obtain⟨X,d1,U,Z,d4⟩:=five D2.o.b;go_wp2_with fail;refine(CL.o _ D2.o.f).mono ?_;rintro e w3 ⟨u,rfl,ho,f3⟩;have D3:=hid (D2.o.go f3);have al:=hid (z0i ho (show w.heap.size+2≤w2.heap.size by omega));clear X d1 U Z d4 ho CF RD CL;go_wp2;go_loopg [8,34] l.length (fun g o i wr=>∃(k:Nat) (a:List (YY×YY)),g=l.length - k∧k≤l.length∧i=.int .i64 k∧a=(l.take k).foldl (zd3 Prod.fst) x.pairs∧wr.ownsRow (w.heap.size+2) 97 2 o a.length (z0e a)∧BO w 1 [.int .i64 x.kind,.string x.text,.slice A1 x.list.length c1,.slice A2 x.pairs.length c2,.slice A3 x.scores.length c3] wr)
       case atStart=>exact⟨0,x.pairs,rfl,Xt _,rfl,rfl,al.o,D3.o⟩
       case round=>
        obtain⟨k,a,rfl,hk,rfl,d,hO,hD⟩:=hrel;have I:=hid hD;have n:=hid hO;have hr:rises (ltK Prod.fst) a=true:=by rw[d];exact zby _ _ HR.o
        have am:a.length≤24+k:=by
         have:=(zp1 Prod.fst (l.take k) x.pairs).1;rw[←d,Xp] at this;omega
        obtain⟨A,c,rfl,hA,ax,ac⟩:=z05 hO;have au:=I.o.lt;clear hO hD;by_cases hlt:k < l.length
        ·obtain⟨b,off,rfl,V,ar,ah,j⟩:=HL.o.at_ (by omega);obtain⟨p,t⟩:∃p,l[k]? = some p:=⟨_,Xa hlt⟩;have x1:wr.cell? ⟨b,off+2 * k,none⟩=some (.string p.1):=I.o.f.cell (j _ _ (z0f l k p t).1) (by simp);have x2:wr.cell? ⟨b,off+2 * k+1,none⟩=some (.string p.2):=I.o.f.cell (j _ _ (z0f l k p t).2) (by simp);rw[Ya 2 k] at x1 x2;have F1:=hid ((Fr.refl [] wr).alloc (.cells #[.string p.1,.string p.2] 97));have V1:=hid (Whole.new wr 97 [.string p.1,.string p.2]);have v0:(wr.alloc (.cells #[.string p.1,.string p.2] 97)).cell? ⟨wr.heap.size,0,none⟩=some (.string p.1):=V1.o.cell 0;have FD:=hid (fun W (hW:Fr [] wr W)=>zjv a p.1 A c wr.heap.size W hr (by omega) hW.size ((z0l n.o).fr hW (Xb _) (by simp)))
         have a6:(l.take (k+1)).foldl (zd3 Prod.fst) x.pairs=zd3 Prod.fst a p:=by
          rw[Xz,t,Uo,List.foldl_append,←d];rfl
         have ad:=hid a6.symm;have a9:=z63 Prod.fst a p.1;unfold maxLen at ac ah;by_cases hh:z4o Prod.fst a p.1=true;have z:=hid trivial
         all_goals
          first
          | (guard_hyp z
             obtain⟨s',a7,-⟩:=(z2s Prod.fst).1 hh;have m:zd3 Prod.fst a p=a.set (z1e Prod.fst a p.1) p:=by unfold zd3;rw[Xf hh]
             have HP:=hid m;have HS:=hid a7;have av:=(Xe.1 a7).1
             obtain⟨C,rfl⟩:∃C,A=some ⟨C,0,none⟩:=by
              rcases hA with rfl|⟨C,rfl⟩
              ·exfalso;rcases n.o.2 with⟨_,h0⟩|⟨g',cap',cur',h',_⟩
               ·omega
               ·cases h'
              ·exact⟨C,rfl⟩
             have aw:=n.o.lt C rfl;rw[hh] at FD;clear hh hr j t a6 m a7 d hA)
          | (have m:zd3 Prod.fst a p=a.take (z1e Prod.fst a p.1)++p :: a.drop (z1e Prod.fst a p.1):=by unfold zd3;rw[Xc hh]
             have HP:=hid m;rw[show z4o Prod.fst a p.1=false from by simpa using hh] at FD;clear hh hr j t a6 m d)
          generalize z1e Prod.fst a p.1=i at *;go_wp2_with fail;refine(FD.o _ F1.o).mono ?_;rintro e T ⟨rfl,f5⟩;have F5:=hid (F1.o.trans f5)
          first
          | (guard_hyp z
             have F:=hid (z08 n.o F5.o (by simp)))
          | (skip)
          have V5:=V1.o.fr f5 (by simp);have v1:T.cell? ⟨wr.heap.size,0,none⟩=some (.string p.1):=V5.cell 0;have v2:T.cell? ⟨wr.heap.size,1,none⟩=some (.string p.2):=V5.cell 1
          first
          | (guard_hyp z
             have y1:T.cell? ⟨C,i * 2,none⟩=some (.string s'.1):=(F.o.cellAt (i * 2) (by omega)).trans (by rw[Ya];exact(z0f a i s' HS.o).1);have y2:T.cell? ⟨C,i * 2+1,none⟩=some (.string s'.2):=(F.o.cellAt (i * 2+1) (by omega)).trans (by rw[Ya];exact(z0f a i s' HS.o).2);have z1:T.frozen? ⟨C,i * 2,none⟩=false:=F.o.frozenAt _;have z2:T.frozen? ⟨C,i * 2+1,none⟩=false:=F.o.frozenAt _;clear V5 f5 x1 x2 v0)
          | (have F6:=hid (F5.o.alloc (.cells #[.string p.1,.string p.2] 97))
             have V6:=hid (Whole.new T 97 [.string p.1,.string p.2]);have af:=hid (z08 n.o F6.o (by simp));have D6:=hid (I.o.go F6.o);have aq:=D6.o.lt
             have IN:=hid (zzg a.length i (z0e a) [.string p.1,.string p.2] (w.heap.size+2) T.heap.size (.slice A a.length c) _ (by omega) a9 af.o (zb4 _) (by intro u hu;simp at hu;rcases hu with rfl|rfl <;> rfl) rfl V6.o (by
              intro e;have h1:=(n.o.lt _ e).2;have h2:=F5.o.size;omega) (by omega))
             clear V5 f5 x1 x2 v0;go_wp2_with fail;refine IN.o.mono ?_;rintro e w7 ⟨u7,rfl,M,ae,-⟩;have D7:=hid (D6.o.step (z1u ae) (fun g hg=>by have:=z19 af.o hg;omega));rw[zfv,←HP.o] at M
             have ak:(zd3 Prod.fst a p).length=a.length+1:=by
              rw[HP.o,Xk,Xy,Xp,Xr];omega
             rw[←ak] at M;have ai:=hid M;clear M ae)
          go_wp2;go_roundg (l.length - (k+1))
          case measure=>omega
          first
          | (guard_hyp z
             case rel=>
              have o1:=F.o.stored (i * 2) (.string p.1);have o2:=o1.1.stored (i * 2+1) (.string p.2);refine⟨k+1,a.set i p,rfl,by omega,by go_num,by rw[←HP.o,ad.o],by rw[zc4,Ug];exact o2.1,?_⟩;exact I.o.step (S:=[C]) ((F5.o.up.setCell (p:=⟨C,i * 2,none⟩) (.inl (by simp)) _).setCell (p:=⟨C,i * 2+1,none⟩) (.inl (by simp)) _) (fun g hg=>by simp at hg;omega))
          | (case rel=>exact⟨k+1,zd3 Prod.fst a p,rfl,by omega,by go_num,ad.o,ai.o,D7.o⟩)
        ·obtain rfl:k=l.length:=by omega
         rw[Ym] at d;have H:zwb x l=a:=d.symm
         have ab:∀s∈a,s.1.size≤281474976710656∧s.2.size≤281474976710656:=fun s hs=>by
          rw[d] at hs;rcases zdf _ _ hs with h|h
          ·have:=NL.o s h;omega
          ·have:=a8.o.2 s h;omega
         have aj:=hid ab;rw[H] at E0 EY EK;clear d H ab;unfold maxLen at ac;by_cases h24:24 < a.length
         ·have E:=hid (show z23 x l=2 from by rw[E0.o,Xf h24]);obtain⟨D,G⟩:=K.o 2 (by decide) E.o;have ag:(a.length:Int) > 24:=by omega
          have E1:=hid D;have E2:=hid G;clear D G E0 EY EK K h24 hlt hr;obtain⟨P,N,Q,R,O⟩:=five I.o.o;obtain⟨b0,b2,b3,b4,b5⟩:=z11 I.o.o;go_wp2;refine Xg (v:=.tuple #[.agg yIza,.int .i64 0,.int .i64 2]) (by simp[results,results222,go_sem,P,N,Q,R,O]) rfl ?_;rw[E1.o,E2.o,E.o];exact⟨_,rfl,z0k.nothing _ _,I.o.end5 _ _ _ _ _⟩
         ·have E:=hid (show z23 x l=0 from by rw[E0.o,Xc h24]);have E1:=hid (EY.o.trans (Xf E.o));have E2:=hid (EK.o.trans (Xf E.o));have ag:¬(a.length:Int) > 24:=by omega
          have OF:=hid (fun W base u hu=>zgh a base u W (by omega) aj.o hu);have HW:=hid (show IntKind.i64.wrap ((a.length:Int) - (x.pairs.length:Int))=(a.length:Int) - x.pairs.length from IntWalk.i64_in _ (by omega));clear E0 EY EK K hlt hr NL a8 HR am;obtain⟨X,d1,U,Z,d4⟩:=five I.o.b;generalize ofP a=y at *;generalize zsf x l=y0 at *;generalize q1t x l=n0 at *;generalize z23 x l=c0 at *;have ap:¬w.heap.size=w.heap.size+1:=by omega
          have ao:¬w.heap.size+1=w.heap.size:=by omega
          go_wp2;go_region_held3 (fun wx=>wx.cell? ⟨w.heap.size,3,none⟩=some (.slice A2 x.pairs.length c2)) (go_keep) (first|(go_at_call 278;(refine(OF.o _ _ _ (show wr.drew.ownsRow _ _ _ _ _ _ from n.o)).mono ?_);rintro e T ⟨u5,rfl,hi,f5⟩;have D5:=hid (I.o.go (z01 f5));clear X d1 U Z d4 f5;obtain⟨X,d1,U,Z,d4⟩:=five D5.o.b;have HI:=hid hi;obtain⟨P1,p1,P2,p2,P3,p3,rfl⟩:=hi.form;clear hi;obtain⟨P,N,Q,R,O⟩:=five D5.o.o;obtain⟨b0,b2,b3,b4,b5⟩:=z11 D5.o.o))
          go_wp2;refine Xg (v:=.tuple #[.agg (yIa y P1 p1 P2 p2 P3 p3),.int .i64 (IntKind.i64.wrap ((a.length:Int) - (x.pairs.length:Int))),.int .i64 0]) (by simp[results,results222,go_sem,P,N,Q,R,O]) rfl ?_;rw[E1.o,E2.o,E.o];exact⟨_,by rw[HW.o],(z1v HI.o (by omega) _ _ _ _ _).less (by omega),D5.o.end5 _ _ _ _ _⟩)
 ·have t:z1y x l=z02 4 x:=by rw[Y.o,Xf ha]
  have E:=hid (show z23 x l=z02 4 x from by rw[EC.o,t,Xf ha]);obtain⟨D,G⟩:=K.o _ ha E.o;rw[D,G,E.o];have q:(z02 4 x != 0)=true:=by simpa using ha
  clear D G EC Y EY EK t E ha K CF;generalize z02 4 x=r at *;go_enter func222,ntmps222;go_wp2_with fail;refine(RD.o _ D0.o.f).mono ?_;rintro e w1 ⟨rfl,f1⟩;have J:=hid (D0.o.go f1);clear X d1 U Z d4;obtain⟨P,N,Q,R,O⟩:=five J.o.o;obtain⟨b0,b2,b3,b4,b5⟩:=z11 J.o.o;go_wp2;refine Xg (v:=.tuple #[.agg yIza,.int .i64 0,.int .i64 r]) (by simp[results,results222,go_sem,P,N,Q,R,O]) rfl ?_;exact⟨_,rfl,z0k.nothing _ _,J.o.end5 _ _ _ _ _⟩
end
end Go.Proofs.YtnmoajaelmimnaaGreatDoor
