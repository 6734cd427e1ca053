/- Contracts; no condition but each theorem's own. -/
import Derived.Test.YtnmoajaelmimnaaGreatDoorSlY23
import Derived.Laws.IdiomStrings
set_option linter.unusedVariables false
set_option linter.unusedSimpArgs false
set_option maxHeartbeats 8000000
set_option maxRecDepth 100000
namespace Go.Proofs.YtnmoajaelmimnaaGreatDoor
open Go.Proofs.Tryz
section
open Go.RowKit
theorem zom{s:Sto}{k:YY}{e:Int}(h:z4j s k false=(none,e)):z5x s k=(noS,e):=by unfold z5x;rw[h]
theorem zgd{s:Sto}{k:YY}{p:Nat×Slt}{e:Int}(h:z4j s k false=(some p,e))(hr:zi4 s.segs=false):z5x s k=(noS,2):=by unfold z5x;rw[h];simp only;rw[Xc (by rw[hr];decide)]
theorem zjb{s:Sto}{k:YY}{i:Nat}{x:Slt}{e:Int}(h:z4j s k false=(some (i,x),e))(hr:zi4 s.segs=true):z5x s k=(q2k s i x,0):=by unfold z5x;rw[h];simp only;rw[Xf hr]
theorem z8f{w:World}{base e k g n c:Nat}{xs:List Value}(h:w.ownsRow base e k (.slice (some ⟨g,0,none⟩) n c) n xs):(∀j u,xs[j]? = some u→w.cell? ⟨g,j,none⟩=some u)∧(∀j,w.frozen? ⟨g,j,none⟩=false)∧base≤g∧n≤c∧c≤maxLen:=by
 obtain⟨d,b,p,f,h3,h4,l,m⟩:=z3j h;refine⟨fun j u a=>?_,fun j=>b.frozen j,h3,h4,l⟩;rw[b.cell];rw[←f] at a;rw[Un] at a;split at a
 ·exact a
 ·cases a
theorem zpm{v:Value}{k:Nat}(hk:v.ownBlock=some k):k∈z1w v:=by
 unfold Value.ownBlock at hk;unfold z1w;split at hk
 ·cases hk;simp
 ·cases hk
theorem z9c{w:World}{base e k n:Nat}{v:Value}{xs:List Value}(h:w.ownsRow base e k v n xs)(hn:0 < n):∃g c,v=.slice (some ⟨g,0,none⟩) n c:=by
 obtain⟨A,c,rfl,a,-,-⟩:=z05 h;rcases a with rfl|⟨g,rfl⟩
 ·exfalso;rcases h.2 with⟨_,h0⟩|⟨g',cap',cur,h',_⟩
  ·omega
  ·cases h'
 ·exact⟨g,c,rfl⟩
theorem zux(s)(base mid kb:Nat)(a b)(key:YY)(w:World)(ok:z6e s)(hsm:s.Small)(hb:base≤w.heap.size)(h:KpM w base mid kb a b s):
  Calls prog 76 #[.pointer (some ⟨kb,0,none⟩),.string key] w (KpP base kb (z5x s key).2 (z5x s key).1 w):=by
 have SL:=hid (zkd s base mid kb a b key false w ok.rise (by have:=ok.le;omega) h);have RM:=hid (fun W (hW:Fr [] w W)=>zv2 s base mid kb a b W ok.sle ok.rle (Xd hb hW.size) (h.go hW));rcases hsl:z4j s key false with⟨_|⟨i,x⟩,e⟩
 ·rw[zom hsl];have he:=z88 hsl;have en:zg4 s key false=0:=by unfold zg4;rw[hsl]
  rw[hsl,en] at SL;have q:(e != 0)=true:=by simpa using he
  clear hsl RM en h;go_enter func76,ntmps76;go_wp2_with fail;refine SL.o.mono ?_;rintro e1 w1 ⟨rfl,T⟩;go_wp2;go_ret;exact⟨rfl,T.toB base,T.size,fun h0=>absurd h0 he⟩
 obtain⟨hx,bi,rfl,c0,-,-⟩:=z89 hsl;have en:zg4 s key false=i:=by unfold zg4;rw[hsl]
 rw[hsl,en] at SL;cases hrm:zi4 s.segs with
 | false=>
  rw[zgd hsl hrm];rw[hrm] at RM;clear hsl en h hx;go_enter func76,ntmps76;go_wp2_with fail;refine SL.o.mono ?_;rintro e1 w1 ⟨rfl,T⟩;go_wp2_with fail;refine(RM.o _ T).mono ?_;rintro e2 w2 ⟨rfl,f2,hz2,-⟩;go_wp2;go_ret;exact⟨rfl,(T.toB base).trans f2,Xd T.size hz2,fun h0=>absurd h0 (by decide)⟩
 | true=>
  rw[zjb hsl hrm];rw[hrm] at RM;obtain⟨af,bb,av⟩:=zl7 hrm ok.sle;have ET:q2k s i x=⟨s.slots.set i (zm5 x ((z32 s.segs).length - 1) (z73 (z32 s.segs))),zal (z32 s.segs) ⟨(z1t x.item).toArray⟩⟩:=rfl;have ci:=(Xe.1 hx).1;have ae:=Xj hx;have RI:=hid (z2t ((ok.slot x ae).hot bi).1);have SM:=hid (hsm.slots x ae).item;have bl:=ok.le;obtain⟨l,hl⟩:=zvc af;have el:=zpd hl;have HL:=hid hl;rw[el] at av ET;have EA:zal (z32 s.segs) ⟨(z1t x.item).toArray⟩=(z32 s.segs).set ((z32 s.segs).length - 1) (l++[⟨(z1t x.item).toArray⟩]):=by unfold zal;rw[z6t hl]
  rw[EA] at ET;have HX:=hid hx;clear hsl en h hrm el EA ok hsm hl ae;generalize z32 s.segs=ss at *;go_enter func76,ntmps76;go_wp2_with fail;refine SL.o.mono ?_;rintro e1 w1 ⟨rfl,T⟩;go_wp2_with fail;refine(RM.o _ T).mono ?_;rintro e2 w2 ⟨rfl,f2,hz2,A⟩;obtain⟨md,a2,b2,K2⟩:=A rfl;have F2:=hid ((T.toB base).trans f2);have hz:=Xd T.size hz2;clear T f2 A SL RM;obtain⟨sg,sc,rfl⟩:=z9c K2.sl.choose_spec.2 (show 0 < s.slots.length by omega);obtain⟨rs,a5,ac⟩:=K2.sl;obtain⟨vs,ab,au,a3⟩:=K2.sg;obtain⟨B,rc,rfl⟩:=z9c a3 af;obtain⟨cs,ad,ba⟩:=a5.at_ i x hx;obtain⟨⟨X1,x1,X2,x2,X3,x3,rfl,t1,t2,t3⟩,aw⟩:=ba;obtain⟨u,hu,hT⟩:=ab.at_ _ l HL.o;obtain⟨LA,lc,rfl,-,-,-⟩:=z05 hT;have K:=hid K2;have be:=hid ab;have bc:=hid au;have b0:=hid a3;have HU:=hid hu;have HT:=hid hT;have bd:=hid ac;obtain⟨g0,g1⟩:=two K2.k;obtain⟨pa,pf,pb,pc,pd⟩:=z8f ac;obtain⟨qa,qf,qb,qc,qd⟩:=z8f a3;have ai:=zfh a5;have r:∀j v,j < 10→(z3d x X1 x1 X2 x2 X3 x3)[j]? = some v→w2.cell? ⟨sg,i * 10+j,none⟩=some v:=fun j v hj hv=>pa _ v (by rw[z3q 10 rs i j _ ai ad hj];exact hv);have r0:=r 0 _ (by decide) rfl;have r1:=r 1 _ (by decide) rfl;have r2:=r 2 _ (by decide) rfl;have r3:=r 3 _ (by decide) rfl;have r4:=r 4 _ (by decide) rfl;have r5:=r 5 _ (by decide) rfl;have r6:=r 6 _ (by decide) rfl;have r7:=r 7 _ (by decide) rfl;have r8:=r 8 _ (by decide) rfl;have m1:=qa _ _ hu;obtain⟨i0,hi,hz0,hz1,an⟩:=info_parts z2y;obtain⟨m,Q⟩:∃m,ss.length=m+1:=⟨ss.length - 1,by omega⟩;obtain⟨z,ag⟩:∃z,z=l.length:=⟨_,rfl⟩;have U:ss.length - 1=m:=by omega
  have e1:w2.cell? ⟨kb,1,none⟩=some (.slice (some ⟨B,0,none⟩) (m+1) rc):=by rw[←Q];exact g1
  have e2:w2.cell? ⟨B,m,none⟩=some (.slice LA z lc):=by rw[←U,ag];exact m1
  clear g1 m1;have HM:=hid Q;have a4:=hid ag;have X:=hid U;have ck:m+1≤8:=by omega
  have bj:z < 4:=by omega
  have IB:=hid (fun W (hW:Fr [] w2 W)=>zqz x.item (.agg (yIa x.item X1 x1 X2 x2 X3 x3)) W W.heap.size SM.o (Xb _) RI.o (by
   have h1:=(z4a.c ⟨X1,x1,X2,x2,X3,x3,rfl,t1,t2,t3⟩).item;exact(h1.fr hW (Xb _) (by simp)).more hW.size))
  generalize (⟨(z1t x.item).toArray⟩:YY)=bs at *;have c4:IntKind.i64.wrap (((m+1:Nat):Int) - 1)=(m:Int):=by rw[IntKind.wrap_i64];omega
  have bq:IntKind.i64.wrap ((m:Int)+1 - 1)=(m:Int):=by rw[IntKind.wrap_i64];omega
  have ce:IntKind.i64.wrap (m:Int)=(m:Int):=by rw[IntKind.wrap_i64];omega
  have bw:(0:Int)≤(m:Int):=by omega
  have bt:(m:Int) < (m:Int)+1:=by omega
  have bu:(0:Int)≤(i:Int):=by omega
  have cd:(i:Int) < (s.slots.length:Int):=by omega
  have cf:=hid pf;have cb:=hid qf;have bp:=hid r;have c6:=hid a5;have cg:=hid ad;have ch:=hid t1;have c8:=hid t2;have ca:=hid t3;have c9:=hid aw;have az:=hid ET;unfold maxLen at pd qd;clear hx hu hT ab au a3 a5 ac ad t1 t2 t3 aw pa qa pf qf r ai Q U ag af bb av ET K2;go_upto_region 8 with fail;refine zae (n:=22) (fun t=>t.cell? ⟨kb,1,none⟩=some (.slice (some ⟨B,0,none⟩) (m+1) rc)∧t.cell? ⟨B,m,none⟩=some (.slice LA z lc)∧t.cell? ⟨sg,i * 10+2,none⟩=some (.int .i64 x.item.kind)∧t.cell? ⟨sg,i * 10+3,none⟩=some (.string x.item.text)∧t.cell? ⟨sg,i * 10+4,none⟩=some (.slice X1 x.item.list.length x1)∧t.cell? ⟨sg,i * 10+5,none⟩=some (.slice X2 x.item.pairs.length x2)∧t.cell? ⟨sg,i * 10+6,none⟩=some (.slice X3 x.item.scores.length x3)) (by rfl) ?_;have D:(fun t=>t.cell? ⟨kb,1,none⟩=some (.slice (some ⟨B,0,none⟩) (m+1) rc)∧t.cell? ⟨B,m,none⟩=some (.slice LA z lc)∧t.cell? ⟨sg,i * 10+2,none⟩=some (.int .i64 x.item.kind)∧t.cell? ⟨sg,i * 10+3,none⟩=some (.string x.item.text)∧t.cell? ⟨sg,i * 10+4,none⟩=some (.slice X1 x.item.list.length x1)∧t.cell? ⟨sg,i * 10+5,none⟩=some (.slice X2 x.item.pairs.length x2)∧t.cell? ⟨sg,i * 10+6,none⟩=some (.slice X3 x.item.scores.length x3)) w2.drew:=⟨e1,e2,r2,r3,r4,r5,r6⟩;have bx:=hid D;refine z07 (i:=0) (v:=?v0) rfl (by kernel_rfl) (by kernel_rfl) (by kernel_rfl) (by kernel_rfl) (by decide) (fun _ _ _ h=>h) D (Or.inl ⟨by rfl,?hy0⟩) ?rest0
  case hy0=>
   intro M d;obtain⟨G,I,N,J,H,L,F⟩:=d
   go_simp
   all_goals with_reducible rfl
  try simp only[Act.put,Xh,Xn,Xm]
  refine z07 (i:=1) (v:=?v1) rfl (by kernel_rfl) (by kernel_rfl) (by kernel_rfl) (by kernel_rfl) (by decide) (fun _ _ _ h=>h) D (Or.inl ⟨by rfl,?hy1⟩) ?rest1
  case hy1=>
   intro M d;obtain⟨G,I,N,J,H,L,F⟩:=d
   go_simp
   all_goals with_reducible rfl
  try simp only[Act.put,Xh,Xn,Xm]
  refine z07 (i:=2) (v:=?v2) rfl (by kernel_rfl) (by kernel_rfl) (by kernel_rfl) (by kernel_rfl) (by decide) (fun _ _ _ h=>h) D (Or.inl ⟨by rfl,?hy2⟩) ?rest2
  case hy2=>
   intro M d;obtain⟨G,I,N,J,H,L,F⟩:=d
   go_simp
   all_goals with_reducible rfl
  try simp only[Act.put,Xh,Xn,Xm]
  refine z07 (i:=3) (v:=?v3) rfl (by kernel_rfl) (by kernel_rfl) (by kernel_rfl) (by kernel_rfl) (by decide) (fun _ _ _ h=>h) D (Or.inl ⟨by rfl,?hy3⟩) ?rest3
  case hy3=>
   intro M d;obtain⟨G,I,N,J,H,L,F⟩:=d
   go_simp
   all_goals with_reducible rfl
  try simp only[Act.put,Xh,Xn,Xm]
  refine z07 (i:=4) (v:=?v4) rfl (by kernel_rfl) (by kernel_rfl) (by kernel_rfl) (by kernel_rfl) (by decide) (fun _ _ _ h=>h) D (Or.inl ⟨by rfl,?hy4⟩) ?rest4
  case hy4=>
   intro M d;obtain⟨G,I,N,J,H,L,F⟩:=d
   go_simp
   all_goals with_reducible rfl
  try simp only[Act.put,Xh,Xn,Xm]
  refine z07 (i:=5) (v:=?v5) rfl (by kernel_rfl) (by kernel_rfl) (by kernel_rfl) (by kernel_rfl) (by decide) (fun _ _ _ h=>h) D (Or.inl ⟨by rfl,?hy5⟩) ?rest5
  case hy5=>
   intro M d;obtain⟨G,I,N,J,H,L,F⟩:=d
   go_simp
   all_goals with_reducible rfl
  try simp only[Act.put,Xh,Xn,Xm]
  refine z07 (i:=6) (v:=?v6) rfl (by kernel_rfl) (by kernel_rfl) (by kernel_rfl) (by kernel_rfl) (by decide) (fun _ _ _ h=>h) D (Or.inl ⟨by rfl,?hy6⟩) ?rest6
  case hy6=>
   intro M d;obtain⟨G,I,N,J,H,L,F⟩:=d
   go_simp
   all_goals with_reducible rfl
  try simp only[Act.put,Xh,Xn,Xm]
  refine z07 (i:=7) (v:=?v7) rfl (by kernel_rfl) (by kernel_rfl) (by kernel_rfl) (by kernel_rfl) (by decide) (fun _ _ _ h=>h) D (Or.inl ⟨by rfl,?hy7⟩) ?rest7
  case hy7=>
   intro M d;obtain⟨G,I,N,J,H,L,F⟩:=d
   go_simp
   all_goals with_reducible rfl
  try simp only[Act.put,Xh,Xn,Xm]
  refine z07 (i:=8) (v:=?v8) rfl (by kernel_rfl) (by kernel_rfl) (by kernel_rfl) (by kernel_rfl) (by decide) (fun _ _ _ h=>h) D (Or.inl ⟨by rfl,?hy8⟩) ?rest8
  case hy8=>
   intro M d;obtain⟨G,I,N,J,H,L,F⟩:=d
   go_simp
   all_goals with_reducible rfl
  try simp only[Act.put,Xh,Xn,Xm]
  refine z07 (i:=9) (v:=?v9) rfl (by kernel_rfl) (by kernel_rfl) (by kernel_rfl) (by kernel_rfl) (by decide) (fun _ _ _ h=>h) D (Or.inl ⟨by rfl,?hy9⟩) ?rest9
  case hy9=>
   intro M d;obtain⟨G,I,N,J,H,L,F⟩:=d
   go_simp
   all_goals with_reducible rfl
  try simp only[Act.put,Xh,Xn,Xm]
  refine z07 (i:=10) (v:=?v10) rfl (by kernel_rfl) (by kernel_rfl) (by kernel_rfl) (by kernel_rfl) (by decide) (fun _ _ _ h=>h) D (Or.inl ⟨by rfl,?hy10⟩) ?rest10
  case hy10=>
   intro M d;obtain⟨G,I,N,J,H,L,F⟩:=d
   go_simp
   all_goals with_reducible rfl
  try simp only[Act.put,Xh,Xn,Xm]
  refine z07 (i:=11) (v:=?v11) rfl (by kernel_rfl) (by kernel_rfl) (by kernel_rfl) (by kernel_rfl) (by decide) (fun _ _ _ h=>h) D (Or.inl ⟨by rfl,?hy11⟩) ?rest11
  case hy11=>
   intro M d;obtain⟨G,I,N,J,H,L,F⟩:=d
   go_simp
   all_goals with_reducible rfl
  try simp only[Act.put,Xh,Xn,Xm]
  refine z07 (i:=12) (v:=?v12) rfl (by kernel_rfl) (by kernel_rfl) (by kernel_rfl) (by kernel_rfl) (by decide) (fun _ _ _ h=>h) D (Or.inl ⟨by rfl,?hy12⟩) ?rest12
  case hy12=>
   intro M d;obtain⟨G,I,N,J,H,L,F⟩:=d
   go_simp
   all_goals with_reducible rfl
  try simp only[Act.put,Xh,Xn,Xm]
  refine z07 (i:=13) (v:=?v13) rfl (by kernel_rfl) (by kernel_rfl) (by kernel_rfl) (by kernel_rfl) (by decide) (fun _ _ _ h=>h) D (Or.inl ⟨by rfl,?hy13⟩) ?rest13
  case hy13=>
   intro M d;obtain⟨G,I,N,J,H,L,F⟩:=d
   go_simp
   all_goals with_reducible rfl
  try simp only[Act.put,Xh,Xn,Xm]
  refine z07 (i:=14) (v:=?v14) rfl (by kernel_rfl) (by kernel_rfl) (by kernel_rfl) (by kernel_rfl) (by decide) (fun _ _ _ h=>h) D (Or.inl ⟨by rfl,?hy14⟩) ?rest14
  case hy14=>
   intro M d;obtain⟨G,I,N,J,H,L,F⟩:=d
   go_simp
   all_goals with_reducible rfl
  try simp only[Act.put,Xh,Xn,Xm]
  refine z07 (i:=15) (v:=?v15) rfl (by kernel_rfl) (by kernel_rfl) (by kernel_rfl) (by kernel_rfl) (by decide) (fun _ _ _ h=>h) D (Or.inl ⟨by rfl,?hy15⟩) ?rest15
  case hy15=>
   intro M d;obtain⟨G,I,N,J,H,L,F⟩:=d
   go_simp
   all_goals with_reducible rfl
  try simp only[Act.put,Xh,Xn,Xm]
  refine z07 (i:=16) (v:=?v16) rfl (by kernel_rfl) (by kernel_rfl) (by kernel_rfl) (by kernel_rfl) (by decide) (fun _ _ _ h=>h) D (Or.inl ⟨by rfl,?hy16⟩) ?rest16
  case hy16=>
   intro M d;obtain⟨G,I,N,J,H,L,F⟩:=d
   go_simp
   all_goals with_reducible rfl
  try simp only[Act.put,Xh,Xn,Xm]
  refine z07 (i:=17) (v:=?v17) rfl (by kernel_rfl) (by kernel_rfl) (by kernel_rfl) (by kernel_rfl) (by decide) (fun _ _ _ h=>h) D (Or.inl ⟨by rfl,?hy17⟩) ?rest17
  case hy17=>
   intro M d;obtain⟨G,I,N,J,H,L,F⟩:=d
   go_simp
   all_goals with_reducible rfl
  try simp only[Act.put,Xh,Xn,Xm]
  have ah:=hid (fun W (hW:Fr [] w2 W)=>(show(fun t=>t.cell? ⟨kb,1,none⟩=some (.slice (some ⟨B,0,none⟩) (m+1) rc)∧t.cell? ⟨B,m,none⟩=some (.slice LA z lc)∧t.cell? ⟨sg,i * 10+2,none⟩=some (.int .i64 x.item.kind)∧t.cell? ⟨sg,i * 10+3,none⟩=some (.string x.item.text)∧t.cell? ⟨sg,i * 10+4,none⟩=some (.slice X1 x.item.list.length x1)∧t.cell? ⟨sg,i * 10+5,none⟩=some (.slice X2 x.item.pairs.length x2)∧t.cell? ⟨sg,i * 10+6,none⟩=some (.slice X3 x.item.scores.length x3)) W from⟨hW.cell e1 (by simp),hW.cell e2 (by simp),hW.cell r2 (by simp),hW.cell r3 (by simp),hW.cell r4 (by simp),hW.cell r5 (by simp),hW.cell r6 (by simp)⟩));have b3:=True.intro;refine z27 (k:=18) (by kernel_rfl) rfl (fun K1 ak=>?_)
  go_simp
  go_at_call 123;refine(IB.o _ (Fr.refl [] w2).drew).mono ?_;rintro e3 w3 ⟨rfl,f3⟩;have F3:=hid (z01 f3);have c7:=F3.o.size;refine ak.out _ _ (fun _=>ah.o _ F3.o) ?_;clear ak D f3
  try simp only[Act.put,Xh,Xn,Xm]
  refine z27 (k:=19) (by kernel_rfl) rfl (fun K2 ay=>?_)
  go_simp
  have E:=hid (F3.o.trans ((Fr.refl [] w3).alloc (.cells #[.string bs] 9)));refine ay.out _ _ (fun _=>ah.o _ E.o) ?_;clear ay
  try simp only[Act.put,Xh,Xn,Xm]
  have R:=hid (show(w3.alloc (.cells #[.string bs] 9)).ownsRow md 9 1 (.slice LA z lc) z (z03 l) from by rw[a4.o];exact z08 HT.o E.o (by simp));have b9:=hid (z0l (World.ownsRow_lit (base:=w3.heap.size) (e:=9) (size:=1) w3 #[.string bs] 1 (Xb _) (by decide) rfl));have nk:=fun Q=>z5s R.o (K.o.k.fr E.o (by simp)) (by decide) Q;have aa:=hid (z08 b0.o E.o (by simp));have ao:=hid (z08 bd.o E.o (by simp));have nr:=z0w aa.o R.o (by decide) B rfl;have ns:=z0w ao.o R.o (by decide) sg rfl;have bh:=K.o.mz;refine z27 (k:=20) (by kernel_rfl) rfl (fun K3 ar=>?_);refine z3u _ (by rfl) _ _ 24 (by rfl) md 9 i0 _ 1 16 underlying24 hi hz0 hz1 an rfl (by decide) _ _ _ (by rfl) R.o _ _ 1 _ (by rfl) b9.o (by simp[Value.oneCell']) ?c1 ?c2 ?c3 ?_
  case c1=>unfold maxLen;omega
  case c2=>omega
  case c3=>first|omega|(simp;omega)
  intro v5 w5 V O a8;obtain⟨A5,c5,rfl,-⟩:=z05 V;have b4:=hid V;have bn:=hid O;have P:=hid (z1u O);have S5:=hid (show(fun t=>t.cell? ⟨kb,1,none⟩=some (.slice (some ⟨B,0,none⟩) (m+1) rc)∧t.cell? ⟨B,m,none⟩=some (.slice LA z lc)∧t.cell? ⟨sg,i * 10+2,none⟩=some (.int .i64 x.item.kind)∧t.cell? ⟨sg,i * 10+3,none⟩=some (.string x.item.text)∧t.cell? ⟨sg,i * 10+4,none⟩=some (.slice X1 x.item.list.length x1)∧t.cell? ⟨sg,i * 10+5,none⟩=some (.slice X2 x.item.pairs.length x2)∧t.cell? ⟨sg,i * 10+6,none⟩=some (.slice X3 x.item.scores.length x3)) w5 from⟨P.o.cell (E.o.cell e1 (by simp)) nk,P.o.cell (E.o.cell e2 (by simp)) nr,P.o.cell (E.o.cell r2 (by simp)) ns,P.o.cell (E.o.cell r3 (by simp)) ns,P.o.cell (E.o.cell r4 (by simp)) ns,P.o.cell (E.o.cell r5 (by simp)) ns,P.o.cell (E.o.cell r6 (by simp)) ns⟩);refine ar.out _ _ (fun _=>S5.o) ?_;clear ar V O
  try simp only[Act.put,Xh,Xn,Xm]
  refine z27 (k:=21) (by kernel_rfl) rfl (fun K4 aj=>?_)
  go_simp
  refine aj.out _ _ (fun _=>S5.o) ?_;clear aj
  try simp only[Act.put,Xh,Xn,Xm]
  have HB:=hid a8;have Y:=hid (z08 aa.o P.o (fun k A Q=>by cases A;exact nr Q));have R5:=hid (z08 ao.o P.o (fun k A Q=>by cases A;exact ns Q));have K5:=hid (show Whole w5 kb 115 _ from(K.o.k.fr E.o (by simp)).fr P.o nk);have zr:=(z8f Y.o).2.1 m;have yr:=S5.o.2.1;refine z27 (k:=22) (by kernel_rfl) rfl (fun cj am=>?_)
  go_simp
  refine am.out _ _ (fun h=>absurd rfl h) ?_;clear am
  try simp only[Act.put,Xh,Xn,Xm]
  refine zad (by kernel_rfl) ?_;have b1:kb≠B:=fun e=>z0u Y.o K5.o (by decide) (by rw[e];rfl);have bg:kb≠sg:=fun e=>z0u R5.o K5.o (by decide) (by rw[e];rfl);have a0:=hid (show Fr [B] w5 (w5.setCell ⟨B,m,none⟩ (.slice A5 (z+1) c5)) from(Fr.refl [B] w5).setCell (.inl (by simp)) _);have K6:=hid (K5.o.fr a0.o (by simpa using b1));have R6:=hid (z08 R5.o a0.o (fun k A Q=>by cases A;exact z0w R5.o Y.o (by decide) sg rfl (by rw[show sg=B from by simpa using Q];simp[z1w])))
  have S6:=hid (show z2b (w5.setCell ⟨B,m,none⟩ (.slice A5 (z+1) c5)) base md (.slice (some ⟨sg,0,none⟩) s.slots.length sc) s.slots from
   (((K.o.sl.go E.o).fr P.o (fun k A=>z19 R.o A) (fun k A Q=>by cases A;exact ns Q)).row Y.o ⟨z7b,by decide⟩ a0.o))
  have m6:(w5.setCell ⟨B,m,none⟩ (.slice A5 (z+1) c5)).cell? ⟨B,m,none⟩=some (.slice A5 (z+1) c5):=by
   obtain⟨bv,hw,q1,q2,-⟩:=z3j Y.o;have:=(hw.set_ m (.slice A5 (z+1) c5)).cell m;rw[this,Yy,Xf rfl,Xf (by have:=HM.o;omega)]
  have G6:=hid (z71.put (n:=m) (x:=.slice A5 (z+1) c5) (l:=l++[bs]) (be.o.imp fun _ _ h=>z08 h E.o (by simp)) bc.o (by have:=HU.o;rw[X.o,←a4.o] at this;exact this) aa.o P.o (by
   have:=b4.o;rw[a4.o] at this ⊢;unfold TxO;rw[Xk,z36];exact this) (fun k A=>by
   rcases HB.o with h1|h1
   ·rw[h1] at A;exact .inl (zpm A)
   ·rw[h1] at A;cases A;exact .inr (Xb _)))
  have bm:=hid S6.o;obtain⟨b6,S,a6⟩:=S6.o;obtain⟨br,a7,⟨⟨Y1,y1,Y2,y2,Y3,y3,rfl,-⟩,-⟩⟩:=S.at_ i x HX.o;obtain⟨ax,C,-⟩:=z8f a6;have a9:=zfh S;have f:∀j v,j < 10→(z3d x Y1 y1 Y2 y2 Y3 y3)[j]? = some v→(w5.setCell ⟨B,m,none⟩ (.slice A5 (z+1) c5)).cell? ⟨sg,i * 10+j,none⟩=some v:=fun j v hj hv=>ax _ v (by rw[z3q 10 b6 i j _ a9 a7 hj];exact hv);obtain⟨w6,Z⟩:∃w6,w6=w5.setCell ⟨B,m,none⟩ (.slice A5 (z+1) c5):=⟨_,rfl⟩;have b5:w2.heap.size≤w6.heap.size:=by rw[Z];exact Xd E.o.size (Xd P.o.size a0.o.size)
  have b8:=hid (show FrB [] base w w6 from by
   rw[Z];exact((F2.o.trans (E.o.toB base)).trans ((P.o.toB base).more (fun k A=>.inr (Xd K.o.m (z19 R.o A))))).setCell (p:=⟨B,m,none⟩) (.inr (Xd K.o.m qb)) _)
  have b7:=hid K.o.m;rw[←Z] at K6 R6 S6 m6 G6 f C ⊢;have k0:=f 0 _ (by decide) rfl;have k1:=f 1 _ (by decide) rfl;have k2:=f 2 _ (by decide) rfl;have k3:=f 3 _ (by decide) rfl;have k4:=f 4 _ (by decide) rfl;have k5:=f 5 _ (by decide) rfl;have k6:=f 6 _ (by decide) rfl;have k7:=f 7 _ (by decide) rfl;have k8:=f 8 _ (by decide) rfl;have z1:=C (i * 10+1);have z2:=C (i * 10+2);have z3:=C (i * 10+3);have z4:=C (i * 10+4);have z5:=C (i * 10+5);have z6:=C (i * 10+6);have z7:=C (i * 10+7);have z8:=C (i * 10+8);obtain⟨bf,ap⟩:=two K6.o;have bk:w6.cell? ⟨kb,1,none⟩=some (.slice (some ⟨B,0,none⟩) (m+1) rc):=by rw[←HM.o];exact ap
  have bo:IntKind.i64.wrap (((z+1:Nat):Int) - 1)=(z:Int):=by rw[IntKind.wrap_i64];omega
  have cc:IntKind.i64.wrap ((z:Int)+1 - 1)=(z:Int):=by rw[IntKind.wrap_i64];omega
  clear bf ap e1 e2 r0 r2 r3 r4 r5 r6 f C ax yr zr g0 Z S a6 a7 a9 a8;go_wp2;go_ret;rw[az.o];show KpP base kb 0 _ w _ (zcc w6 sg (i * 10) [(1,.bool true),(2,.int .i64 0),(3,.string ⟨#[]⟩),(4,.slice none 0 0),(5,.slice none 0 0),(6,.slice none 0 0),(7,.int .i64 (m:Int)),(8,.int .i64 (z:Int))]);have EY:zm5 x (ss.length - 1) l.length={ x with cold:=true,item:=z2q 0,seg:=(m:Int),rcd:=(z:Int) }:=by rw[X.o,←a4.o];rfl
  rw[EY,X.o]
  have al:=z2b.put (y:={ x with cold:=true,item:=z2q 0,seg:=(m:Int),rcd:=(z:Int) }) S6.o HX.o [(1,.bool true),(2,.int .i64 0),(3,.string ⟨#[]⟩),(4,.slice none 0 0),(5,.slice none 0 0),(6,.slice none 0 0),(7,.int .i64 (m:Int)),(8,.int .i64 (z:Int))] (fun p hp=>by
   simp at hp;rcases hp with rfl|rfl|rfl|rfl|rfl|rfl|rfl|rfl <;> simp) (fun w' cs hf hI=>by
   obtain⟨⟨B1,d1,B2,d2,B3,d3,rfl,-⟩,hb⟩:=hI;refine⟨⟨none,0,none,0,none,0,rfl,World.ownsRow_nil _ _ _ _,World.ownsRow_nil _ _ _ _,World.ownsRow_nil _ _ _ _⟩,fun u hu k A=>?_⟩;simp[zd6,z3d] at hu;rcases hu with rfl|rfl|rfl|rfl|rfl|rfl|rfl|rfl|rfl|rfl <;> cases A)
  have a1:=z87 (g:=sg) (o:=i * 10) [(1,.bool true),(2,.int .i64 0),(3,.string ⟨#[]⟩),(4,.slice none 0 0),(5,.slice none 0 0),(6,.slice none 0 0),(7,.int .i64 (m:Int)),(8,.int .i64 (z:Int))] w6;have hG:=G6.o.row R6.o ⟨by decide,by decide⟩ a1;rw[Ug] at al hG;have aq:=Xd b5 a1.size;exact⟨rfl,b8.o.trans ((a1.toB base).more (fun k A=>.inr (by simp at A;subst A;exact pb))),Xd hz aq,fun _=>⟨md,_,_,K6.o.fr a1 (by simpa using bg),b7.o,K.o.kb,al,hG,Xd bh aq⟩⟩
def zhx(n:Nat):YY:=match n with
 | 0=>⟨#[]⟩
 | 1=>⟨#[49]⟩
 | 2=>⟨#[49,50]⟩
 | _=>⟨#[112]⟩
def zre(m:Option Nat):Int:=match m with
 | some m=>(m:Int)
 | none=>-1
def shpV(s:Shp):Value:=.agg #[.int .i64 (s.least:Int),.int .i64 (zre s.most),.bool s.pairs,.string (zhx s.nums)]
theorem of_k0(t)(ht:t=⟨#[112,105,110,103]⟩)(w):Calls prog 67 #[.string t] w fun e w'=>e=.returned (.tuple #[.agg #[.int .i64 0,.int .i64 0,.bool false,.string ⟨#[]⟩],.bool true])∧Fr [] w w':=by
 subst ht
 all_goals
  go_enter func67,ntmps67;go_wp2;refine Xg (v:=.tuple #[.agg #[.int .i64 0,.int .i64 0,.bool false,.string ⟨#[]⟩],.bool true]) (by simp[results,results67,go_sem]) rfl ?_;exact⟨rfl,((((Fr.refl [] w).alloc _))) ⟩
theorem zfz(t)(ht:t=⟨#[103,101,116]⟩∨t=⟨#[115,116,114,108,101,110]⟩∨t=⟨#[116,121,112,101]⟩∨t=⟨#[107,101,121,115]⟩∨t=⟨#[116,116,108]⟩∨t=⟨#[112,101,114,115,105,115,116]⟩∨t=⟨#[108,112,111,112]⟩∨t=⟨#[114,112,111,112]⟩∨t=⟨#[115,109,101,109,98,101,114,115]⟩∨t=⟨#[104,103,101,116,97,108,108]⟩)(w):Calls prog 67 #[.string t] w fun e w'=>e=.returned (.tuple #[.agg #[.int .i64 1,.int .i64 1,.bool false,.string ⟨#[]⟩],.bool true])∧Fr [] w w':=by
 rcases ht with rfl|rfl|rfl|rfl|rfl|rfl|rfl|rfl|rfl|rfl
 all_goals
  go_enter func67,ntmps67;go_wp2;refine Xg (v:=.tuple #[.agg #[.int .i64 1,.int .i64 1,.bool false,.string ⟨#[]⟩],.bool true]) (by simp[results,results67,go_sem]) rfl ?_;exact⟨rfl,((((Fr.refl [] w).alloc _))) ⟩
theorem zn5(t)(ht:t=⟨#[115,101,116]⟩∨t=⟨#[97,112,112,101,110,100]⟩∨t=⟨#[108,114,101,109]⟩∨t=⟨#[115,105,115,109,101,109,98,101,114]⟩∨t=⟨#[104,103,101,116]⟩∨t=⟨#[122,115,99,111,114,101]⟩∨t=⟨#[122,114,97,110,107]⟩)(w):Calls prog 67 #[.string t] w fun e w'=>e=.returned (.tuple #[.agg #[.int .i64 2,.int .i64 2,.bool false,.string ⟨#[]⟩],.bool true])∧Fr [] w w':=by
 rcases ht with rfl|rfl|rfl|rfl|rfl|rfl|rfl
 all_goals
  go_enter func67,ntmps67;go_wp2;refine Xg (v:=.tuple #[.agg #[.int .i64 2,.int .i64 2,.bool false,.string ⟨#[]⟩],.bool true]) (by simp[results,results67,go_sem]) rfl ?_;exact⟨rfl,((((Fr.refl [] w).alloc _))) ⟩
theorem q6e(t)(ht:t=⟨#[105,110,99,114,98,121]⟩∨t=⟨#[101,120,112,105,114,101]⟩)(w):Calls prog 67 #[.string t] w fun e w'=>e=.returned (.tuple #[.agg #[.int .i64 2,.int .i64 2,.bool false,.string ⟨#[49]⟩],.bool true])∧Fr [] w w':=by
 rcases ht with rfl|rfl
 all_goals
  go_enter func67,ntmps67;go_wp2;refine Xg (v:=.tuple #[.agg #[.int .i64 2,.int .i64 2,.bool false,.string ⟨#[49]⟩],.bool true]) (by simp[results,results67,go_sem]) rfl ?_;exact⟨rfl,((((Fr.refl [] w).alloc _))) ⟩
theorem zvp(t)(ht:t=⟨#[103,101,116,114,97,110,103,101]⟩∨t=⟨#[108,114,97,110,103,101]⟩∨t=⟨#[108,116,114,105,109]⟩∨t=⟨#[122,114,97,110,103,101]⟩∨t=⟨#[122,114,97,110,103,101,98,121,115,99,111,114,101]⟩)(w):Calls prog 67 #[.string t] w fun e w'=>e=.returned (.tuple #[.agg #[.int .i64 3,.int .i64 3,.bool false,.string ⟨#[49,50]⟩],.bool true])∧Fr [] w w':=by
 rcases ht with rfl|rfl|rfl|rfl|rfl
 all_goals
  go_enter func67,ntmps67;go_wp2;refine Xg (v:=.tuple #[.agg #[.int .i64 3,.int .i64 3,.bool false,.string ⟨#[49,50]⟩],.bool true]) (by simp[results,results67,go_sem]) rfl ?_;exact⟨rfl,((((Fr.refl [] w).alloc _))) ⟩
theorem zvq(t)(ht:t=⟨#[100,101,108]⟩∨t=⟨#[101,120,105,115,116,115]⟩∨t=⟨#[115,105,110,116,101,114]⟩∨t=⟨#[115,117,110,105,111,110]⟩∨t=⟨#[115,100,105,102,102]⟩)(w):Calls prog 67 #[.string t] w fun e w'=>e=.returned (.tuple #[.agg #[.int .i64 1,.int .i64 (-1),.bool false,.string ⟨#[]⟩],.bool true])∧Fr [] w w':=by
 rcases ht with rfl|rfl|rfl|rfl|rfl
 all_goals
  go_enter func67,ntmps67;go_wp2;refine Xg (v:=.tuple #[.agg #[.int .i64 1,.int .i64 (-1),.bool false,.string ⟨#[]⟩],.bool true]) (by simp[results,results67,go_sem]) rfl ?_;exact⟨rfl,((((Fr.refl [] w).alloc _))) ⟩
theorem zrh(t)(ht:t=⟨#[108,112,117,115,104]⟩∨t=⟨#[114,112,117,115,104]⟩∨t=⟨#[115,97,100,100]⟩∨t=⟨#[115,114,101,109]⟩∨t=⟨#[104,100,101,108]⟩∨t=⟨#[122,114,101,109]⟩)(w):Calls prog 67 #[.string t] w fun e w'=>e=.returned (.tuple #[.agg #[.int .i64 2,.int .i64 (-1),.bool false,.string ⟨#[]⟩],.bool true])∧Fr [] w w':=by
 rcases ht with rfl|rfl|rfl|rfl|rfl|rfl
 all_goals
  go_enter func67,ntmps67;go_wp2;refine Xg (v:=.tuple #[.agg #[.int .i64 2,.int .i64 (-1),.bool false,.string ⟨#[]⟩],.bool true]) (by simp[results,results67,go_sem]) rfl ?_;exact⟨rfl,((((Fr.refl [] w).alloc _))) ⟩
theorem of_k7(t)(ht:t=⟨#[104,115,101,116]⟩)(w):Calls prog 67 #[.string t] w fun e w'=>e=.returned (.tuple #[.agg #[.int .i64 3,.int .i64 (-1),.bool true,.string ⟨#[]⟩],.bool true])∧Fr [] w w':=by
 subst ht
 all_goals
  go_enter func67,ntmps67;go_wp2;refine Xg (v:=.tuple #[.agg #[.int .i64 3,.int .i64 (-1),.bool true,.string ⟨#[]⟩],.bool true]) (by simp[results,results67,go_sem]) rfl ?_;exact⟨rfl,((((Fr.refl [] w).alloc _))) ⟩
theorem of_k8(t)(ht:t=⟨#[122,97,100,100]⟩)(w):Calls prog 67 #[.string t] w fun e w'=>e=.returned (.tuple #[.agg #[.int .i64 3,.int .i64 (-1),.bool true,.string ⟨#[112]⟩],.bool true])∧Fr [] w w':=by
 subst ht
 all_goals
  go_enter func67,ntmps67;go_wp2;refine Xg (v:=.tuple #[.agg #[.int .i64 3,.int .i64 (-1),.bool true,.string ⟨#[112]⟩],.bool true]) (by simp[results,results67,go_sem]) rfl ?_;exact⟨rfl,((((Fr.refl [] w).alloc _))) ⟩
theorem z7t{s:YY}{l:List UInt8}(h:s.data.toList≠l):(s.toList==l)=false:=by
 rw[beq_eq_false_iff_ne];intro e;apply h;rw[←e];exact(Lib.toList_data s).symm
theorem q41(s:YY)(w)(h:∀c:Cm,s.data.toList≠c.bs):Calls prog 67 #[.string s] w fun e w'=>e=.returned (.tuple #[.agg #[.int .i64 0,.int .i64 0,.bool false,.string ⟨#[]⟩],.bool false])∧Fr [] w w':=by
 have R:=z7t (show s.data.toList≠[112,105,110,103] from h .ping);have T:=z7t (show s.data.toList≠[103,101,116] from h .get);have O:=z7t (show s.data.toList≠[115,101,116] from h .set_);have g:=z7t (show s.data.toList≠[97,112,112,101,110,100] from h .append_);have m:=z7t (show s.data.toList≠[115,116,114,108,101,110] from h .strlen);have u:=z7t (show s.data.toList≠[105,110,99,114,98,121] from h .incrby);have f:=z7t (show s.data.toList≠[103,101,116,114,97,110,103,101] from h .getrange);have U:=z7t (show s.data.toList≠[100,101,108] from h .del);have l:=z7t (show s.data.toList≠[101,120,105,115,116,115] from h .exists_);have E:=z7t (show s.data.toList≠[116,121,112,101] from h .type_);have C:=z7t (show s.data.toList≠[107,101,121,115] from h .keys_);have p:=z7t (show s.data.toList≠[101,120,112,105,114,101] from h .expire);have S:=z7t (show s.data.toList≠[116,116,108] from h .ttl);have j:=z7t (show s.data.toList≠[112,101,114,115,105,115,116] from h .persist);have A:=z7t (show s.data.toList≠[108,112,117,115,104] from h .lpush);have z:=z7t (show s.data.toList≠[114,112,117,115,104] from h .rpush);have G:=z7t (show s.data.toList≠[108,112,111,112] from h .lpop);have K:=z7t (show s.data.toList≠[114,112,111,112] from h .rpop);have r:=z7t (show s.data.toList≠[108,114,97,110,103,101] from h .lrange);have F:=z7t (show s.data.toList≠[108,116,114,105,109] from h .ltrim);have L:=z7t (show s.data.toList≠[108,114,101,109] from h .lrem);have P:=z7t (show s.data.toList≠[115,97,100,100] from h .sadd);have H:=z7t (show s.data.toList≠[115,114,101,109] from h .srem);have b:=z7t (show s.data.toList≠[115,105,115,109,101,109,98,101,114] from h .sismember);have d:=z7t (show s.data.toList≠[115,109,101,109,98,101,114,115] from h .smembers);have y:=z7t (show s.data.toList≠[115,105,110,116,101,114] from h .sinter);have n:=z7t (show s.data.toList≠[115,117,110,105,111,110] from h .sunion);have B:=z7t (show s.data.toList≠[115,100,105,102,102] from h .sdiff);have M:=z7t (show s.data.toList≠[104,115,101,116] from h .hset);have I:=z7t (show s.data.toList≠[104,103,101,116] from h .hget);have Q:=z7t (show s.data.toList≠[104,100,101,108] from h .hdel);have k:=z7t (show s.data.toList≠[104,103,101,116,97,108,108] from h .hgetall);have J:=z7t (show s.data.toList≠[122,97,100,100] from h .zadd);have N:=z7t (show s.data.toList≠[122,114,101,109] from h .zrem);have t:=z7t (show s.data.toList≠[122,115,99,111,114,101] from h .zscore);have D:=z7t (show s.data.toList≠[122,114,97,110,107] from h .zrank);have x:=z7t (show s.data.toList≠[122,114,97,110,103,101] from h .zrange);have a:=z7t (show s.data.toList≠[122,114,97,110,103,101,98,121,115,99,111,114,101] from h .zrangebyscore);clear h;go_enter func67,ntmps67;go_wp2;refine Xg (v:=.tuple #[.agg #[.int .i64 0,.int .i64 0,.bool false,.string ⟨#[]⟩],.bool false]) (by simp[results,results67,go_sem]) rfl ?_;exact⟨rfl,((((Fr.refl [] w).alloc _))) ⟩
theorem q42(c:Cm)(w):Calls prog 67 #[.string (toB c.bs)] w fun e w'=>e=.returned (.tuple #[shpV c.shp,.bool true])∧Fr [] w w':=by
 cases c
 case ping=>exact of_k0 _ (rfl) w
 case get=>exact zfz _ (.inl rfl) w
 case set_=>exact zn5 _ (.inl rfl) w
 case append_=>exact zn5 _ (.inr (.inl rfl)) w
 case strlen=>exact zfz _ (.inr (.inl rfl)) w
 case incrby=>exact q6e _ (.inl rfl) w
 case getrange=>exact zvp _ (.inl rfl) w
 case del=>exact zvq _ (.inl rfl) w
 case exists_=>exact zvq _ (.inr (.inl rfl)) w
 case type_=>exact zfz _ (.inr (.inr (.inl rfl))) w
 case keys_=>exact zfz _ (.inr (.inr (.inr (.inl rfl)))) w
 case expire=>exact q6e _ (.inr (rfl)) w
 case ttl=>exact zfz _ (.inr (.inr (.inr (.inr (.inl rfl))))) w
 case persist=>exact zfz _ (.inr (.inr (.inr (.inr (.inr (.inl rfl)))))) w
 case lpush=>exact zrh _ (.inl rfl) w
 case rpush=>exact zrh _ (.inr (.inl rfl)) w
 case lpop=>exact zfz _ (.inr (.inr (.inr (.inr (.inr (.inr (.inl rfl))))))) w
 case rpop=>exact zfz _ (.inr (.inr (.inr (.inr (.inr (.inr (.inr (.inl rfl)))))))) w
 case lrange=>exact zvp _ (.inr (.inl rfl)) w
 case ltrim=>exact zvp _ (.inr (.inr (.inl rfl))) w
 case lrem=>exact zn5 _ (.inr (.inr (.inl rfl))) w
 case sadd=>exact zrh _ (.inr (.inr (.inl rfl))) w
 case srem=>exact zrh _ (.inr (.inr (.inr (.inl rfl)))) w
 case sismember=>exact zn5 _ (.inr (.inr (.inr (.inl rfl)))) w
 case smembers=>exact zfz _ (.inr (.inr (.inr (.inr (.inr (.inr (.inr (.inr (.inl rfl))))))))) w
 case sinter=>exact zvq _ (.inr (.inr (.inl rfl))) w
 case sunion=>exact zvq _ (.inr (.inr (.inr (.inl rfl)))) w
 case sdiff=>exact zvq _ (.inr (.inr (.inr (.inr (rfl))))) w
 case hset=>exact of_k7 _ (rfl) w
 case hget=>exact zn5 _ (.inr (.inr (.inr (.inr (.inl rfl))))) w
 case hdel=>exact zrh _ (.inr (.inr (.inr (.inr (.inl rfl))))) w
 case hgetall=>exact zfz _ (.inr (.inr (.inr (.inr (.inr (.inr (.inr (.inr (.inr (rfl)))))))))) w
 case zadd=>exact of_k8 _ (rfl) w
 case zrem=>exact zrh _ (.inr (.inr (.inr (.inr (.inr (rfl)))))) w
 case zscore=>exact zn5 _ (.inr (.inr (.inr (.inr (.inr (.inl rfl)))))) w
 case zrank=>exact zn5 _ (.inr (.inr (.inr (.inr (.inr (.inr (rfl))))))) w
 case zrange=>exact zvp _ (.inr (.inr (.inr (.inl rfl)))) w
 case zrangebyscore=>exact zvp _ (.inr (.inr (.inr (.inr (rfl))))) w
def zxd(w:World)(g:Nat)(l:List UInt8):Prop:=∃cur:Array Value,w.heap[g]? = some (.cells cur 5 (cur.size,cur.size+1))∧l.length≤cur.size∧∀j (hj:j < l.length),cur[j]? = some (.int .u8 (l[j].toNat:Int))
theorem zxd.cell{w:World}{g:Nat}{l:List UInt8}(h:zxd w g l)(j:Nat)(hj:j < l.length):w.cell? ⟨g,j,none⟩=some (.int .u8 (l[j].toNat:Int)):=by
 obtain⟨a,b,d,h3⟩:=h;simp[World.cell?,b,h3 j hj]
theorem zxd.frozen{w:World}{g:Nat}{l:List UInt8}(h:zxd w g l)(j:Nat)(hj:j < l.length):w.frozen? ⟨g,j,none⟩=false:=by
 obtain⟨a,b,d,h3⟩:=h;simp[World.frozen?,b];omega
theorem zxd.set_{w:World}{g:Nat}{l:List UInt8}(h:zxd w g l)(j:Nat)(hj:j < l.length)(u:UInt8):zxd (w.setCell ⟨g,j,none⟩ (.int .u8 (u.toNat:Int))) g (l.set j u):=by
 obtain⟨a,e,d,h3⟩:=h;refine⟨a.setIfInBounds j (.int .u8 (u.toNat:Int)),?_,by simpa using d,fun i hi=>?_⟩
 ·simp[World.setCell,Jg,e]
 ·have b:i < l.length:=by simpa using hi
  have:=h3 i b;by_cases hji:j=i
  ·subst hji;rw[Array.getElem?_setIfInBounds_self_of_lt (by omega)];simp
  ·rw[Array.getElem?_setIfInBounds_ne hji,this];simp[List.getElem_set_ne hji]
theorem zsy(w)(s:YY)(hs:s.size≤281474976710656):∃cap wb,(convert 9 142 (.string s)).run prog w=.ok (.slice (some ⟨w.heap.size,0,none⟩) s.size cap) wb∧Fr [] w wb∧zxd wb w.heap.size s.data.toList:=by
 refine⟨_,_,Lib.run_convert_string_bytes w 9 142 5 s underlying9 underlying142 underlying5,zp2 _ _ _,_,Lib.bytesWorld_at_new _ _ _,?_,fun j d=>?_⟩
 ·simp[Lib.bytesCells]
 ·have a:j < s.data.size:=by simpa using d
  have b:j < s.size:=a;simp[Lib.bytesCells,Array.getElem?_append,a,b]
theorem zsx(w)(g cap n:Nat)(l:List UInt8)(h:zxd w g l)(hn:l.length=n):(convert 142 9 (.slice (some ⟨g,0,none⟩) n cap)).run prog w=.ok (.string (toB l)) w:=by
 subst hn
 exact run_convert_bytes_back (P:=prog) w 142 9 5 ⟨g,0,none⟩ cap l underlying142 underlying5 underlying9 (fun j a=>by
  have:=h.cell j a
  have b:(⟨g,0,none⟩:Addr).add j=⟨g,j,none⟩:=by
   unfold Addr.add;split
   ·rename_i h0;rw[h0]
   ·simp
  rw[b,this])
def z8l(l:List UInt8)(k:Nat):List UInt8:=(l.take k).map zej++l.drop k
theorem zkj(l:List UInt8)(k:Nat):(z8l l k).length=l.length:=by simp[z8l];omega
theorem zrc(l:List UInt8):z8l l 0=l:=by simp[z8l]
theorem zvb(l:List UInt8):z8l l l.length=l.map zej:=by simp[z8l]
theorem zzu(l:List UInt8)(k:Nat)(hk:k < l.length):(z8l l k)[k]? = some l[k]:=by
 unfold z8l;rw[Xq (by simp;omega)];simp[Up (Kj hk),hk]
theorem zrb(l:List UInt8)(k:Nat)(hk:k < l.length):z8l l (k+1)=(z8l l k).set k (zej l[k]):=by
 unfold z8l;have b:=Yu hk;have a:((l.take k).map zej).length=k:=by simp;omega
 rw[Jx _ _ (by rw[a];exact Xb _),a,Ux,b,Xn,Xz,Xa hk];simp only[Uo,Vu,Yv,Vr,Yi,List.cons_append,Vq]
theorem zzt{c:UInt8}(h:65≤c.toNat∧c.toNat≤90):((zej c).toNat:Int)=c.toNat+32:=by
 unfold zej;rw[Xf h];have:(c+32).toNat=(c.toNat+32) % 256:=by rw[UInt8.toNat_add];rfl
 omega
theorem zzs{c:UInt8}(h:¬(65≤c.toNat∧c.toNat≤90)):zej c=c:=Xc h
theorem zkk(s:YY)(w:World)(hs:s.size≤281474976710656):
  Calls prog 68 #[.string s] w fun e w'=>e=.returned (.string (toB (q3m s)))∧Fr [] w w':=by
 obtain⟨r,P,g,G,a⟩:=zsy w s hs;have I:=hid G;have L:=hid a;have C:s.data.toList.length=s.size:=by simp
 have x:=hid C;have E:=hid (show q3m s=z8l s.data.toList s.data.toList.length from(zvb _).symm);clear G a;generalize s.data.toList=l at *;go_enter func68,ntmps68;go_wp2;clear g;go_loopg [10] s.size (fun y i wr=>∃k:Nat,y=s.size - k∧k≤s.size∧i=.int .i64 k∧zxd wr w.heap.size (z8l l k)∧Fr [] w wr)
 case atStart=>exact⟨0,rfl,Xt _,rfl,by rw[zrc];exact L.o,I.o⟩
 case round=>
  obtain⟨k,rfl,O,rfl,a,D⟩:=hrel;have R:=hid a;have F:=hid D;clear a D;by_cases hlt:k < s.size
  ·have d:k < l.length:=by rw[x.o];exact hlt
   have b:k < (z8l l k).length:=by rw[zkj];exact d
   have j:=R.o.cell k b;have J:=R.o.frozen k b
   have f:(z8l l k)[k]=l[k]:=by
    have:=zzu l k d;rw[Xa b] at this;exact Option.some.inj this
   rw[f] at j;have m:=hid (zrb l k d);have t:(l[k].toNat:Int) < 256:=by have:=l[k].toNat_lt;omega
   have M:=hid (fun u=>R.o.set_ k b u);have B:=hid (show zej l[k]=l[k]→(z8l l k).set k (zej l[k])=z8l l k from fun e=>by rw[e,←f,List.set_getElem_self]);have H:=hid (@zzt l[k]);have A:=hid (@zzs l[k]);clear f C;generalize l[k]=c at *;generalize hcn:c.toNat=n at *;by_cases h1:65≤n
   ·by_cases h2:n≤90
    ·have K:=hid (H.o ⟨by omega,by omega⟩);go_wp2;go_roundg (s.size - (k+1))
     case measure=>omega
     case rel=>
      refine⟨k+1,rfl,by omega,by go_num,?_,F.o.setCell (p:=⟨w.heap.size,k,none⟩) (.inr (Xb _)) _⟩;rw[m.o];have:=M.o (zej c);rw[K.o] at this;exact this
    ·have z:=hid (B.o (A.o (fun h=>h2 (by omega))));go_wp2;go_roundg (s.size - (k+1))
     case measure=>omega
     case rel=>exact⟨k+1,rfl,by omega,by go_num,by rw[m.o,z.o];exact R.o,F.o⟩
   ·have z:=hid (B.o (A.o (fun h=>h1 (by omega))));go_wp2;go_roundg (s.size - (k+1))
    case measure=>omega
    case rel=>exact⟨k+1,rfl,by omega,by go_num,by rw[m.o,z.o];exact R.o,F.o⟩
  ·obtain rfl:k=s.size:=by omega
   have N:=zsx wr w.heap.size r s.size (z8l l s.size) R.o (by rw[zkj,x.o]);go_wp2;go_ret;exact⟨by rw[E.o,x.o];rfl,F.o⟩
theorem z8e(w:World)(o:Obj)(t:TypeId)(cs:List Value):Whole ((w.alloc o).alloc (.cells cs.toArray t)) (w.heap.size+1) t cs:=by
 have:=Whole.new (w.alloc o) t cs;rwa[show(w.alloc o).heap.size=w.heap.size+1 from by simp] at this
theorem zwq(k n:Int)(t:YY)(A A':YV)(c c':Nat)(w:World):
  Calls prog 13 #[.agg #[.int .i64 k,.string t,.int .i64 n,.slice A 0 c],.agg #[.int .i64 k,.string t,.int .i64 n,.slice A' 0 c']] w fun e w'=>e=.returned (.bool true)∧Fr [] w w':=by
 have a:=hid (((Fr.refl [] w).alloc (.cells #[.int .i64 k,.string t,.int .i64 n,.slice A 0 c] 27)).alloc (.cells #[.int .i64 k,.string t,.int .i64 n,.slice A' 0 c'] 27));go_enter func13,ntmps13;go_wp2;go_loopg [5] 0 (fun x i wr=>x=0∧i=.int .i64 0∧wr=(w.alloc (.cells #[.int .i64 k,.string t,.int .i64 n,.slice A 0 c] 27)).alloc (.cells #[.int .i64 k,.string t,.int .i64 n,.slice A' 0 c'] 27))
 case atStart=>exact⟨rfl,rfl,rfl⟩
 case round=>
  obtain⟨rfl,rfl,rfl⟩:=hrel;go_wp2;go_ret;exact⟨rfl,a.o⟩
theorem q0s(r:Rep)(v u)(w:World)(B:Nat)(hl:r.list.length≤281474976710656)(h0:∀x∈r.list,x.sub=0)(hB:B≤w.heap.size)(h:zg9 w B v r)(k:zg9 w B u r):
  Calls prog 13 #[v,u] w fun e w'=>e=.returned (.bool true)∧Fr [] w w':=by
 obtain⟨A,c,rfl⟩:=h.form;obtain⟨z,j,rfl⟩:=k.form;have J:=hid (((Fr.refl [] w).alloc (.cells (yRa r A c) 27)).alloc (.cells (yRa r z j) 27));have V1:=hid (show Whole ((w.alloc (.cells (yRa r A c) 27)).alloc (.cells (yRa r z j) 27)) w.heap.size 27 (yRl r A c) from Whole.alloc (Whole.new w _ _) _);have V2:=hid (z8e w (.cells (yRa r A c) 27) 27 (yRl r z j));have HV:=hid h;have KV:=hid k;have H0:=hid h0;clear h k h0;go_enter func13,ntmps13;go_wp2;go_loopg [5] r.list.length (fun x i wr=>∃(k:Nat),x=r.list.length - k∧k≤r.list.length∧i=.int .i64 k∧Fr [] ((w.alloc (.cells #[.int .i64 r.kind,.string r.text,.int .i64 r.n,.slice A r.list.length c] 27)).alloc (.cells #[.int .i64 r.kind,.string r.text,.int .i64 r.n,.slice z r.list.length j] 27)) wr)
 case atStart=>exact⟨0,rfl,Xt _,rfl,Fr.refl _ _⟩
 case round=>
  obtain⟨k,rfl,hk,rfl,C⟩:=hrel;have y:=hid C;have M:=hid (V1.o.fr C (by simp));have V4:=hid (V2.o.fr C (by simp));clear C;obtain⟨c0,c1,c2,Z⟩:=four M.o;obtain⟨Y,W,O,P⟩:=four V4.o;by_cases hlt:k < r.list.length
  ·obtain⟨b,off,rfl,hb,hc,a0,m⟩:=HV.o.at_ (by omega);obtain⟨t,a,rfl,a2,a1,X,f⟩:=KV.o.at_ (by omega);obtain⟨e,D⟩:∃e,r.list[k]? = some e:=⟨_,Xa hlt⟩;obtain⟨U,l,h4⟩:=m k e D;obtain⟨A2,p,k4⟩:=f k e D;have S:=hid (h4.fr (J.o.trans y.o) (by simp));have T:=hid (k4.fr (J.o.trans y.o) (by simp));have g:e.sub=0:=H0.o e (Xj D);clear m f h4 k4 D;obtain⟨G,I,K,es⟩:=e;have g:es=0:=g;subst g;have SI:=hid (zwq G K I U A2 l p wr.drew);obtain⟨N,x1,x2,R⟩:=S.o;obtain⟨y0,Q,y2,V⟩:=T.o;go_wp2;go_region_held3 (fun d=>d.cell? ⟨b,off+k * 4,none⟩=some (.int .i64 G)∧d.cell? ⟨b,off+k * 4+1,none⟩=some (.string I)∧d.cell? ⟨b,off+k * 4+2,none⟩=some (.int .i64 K)∧d.cell? ⟨b,off+k * 4+3,none⟩=some (.slice U 0 l)∧d.cell? ⟨t,a+k * 4,none⟩=some (.int .i64 G)∧d.cell? ⟨t,a+k * 4+1,none⟩=some (.string I)∧d.cell? ⟨t,a+k * 4+2,none⟩=some (.int .i64 K)∧d.cell? ⟨t,a+k * 4+3,none⟩=some (.slice A2 0 p)∧d.cell? ⟨w.heap.size,3,none⟩=some (.slice (some ⟨b,off,none⟩) r.list.length c)∧d.cell? ⟨w.heap.size+1,3,none⟩=some (.slice (some ⟨t,a,none⟩) r.list.length j)) (go_keep) ((go_at_call 13;refine SI.o.mono ?_;rintro e9 w2 ⟨rfl,f2⟩;have s:=hid (z01 f2);have E:=hid (S.o.fr s.o (by simp));have H:=hid (T.o.fr s.o (by simp));have F:=hid (M.o.fr s.o (by simp));have L:=hid (V4.o.fr s.o (by simp));clear f2 N x1 x2 R y0 Q y2 V c0 c1 c2 Z Y W O P;obtain⟨N,x1,x2,R⟩:=E.o;obtain⟨y0,Q,y2,V⟩:=H.o;obtain⟨c0,c1,c2,Z⟩:=four F.o;obtain⟨Y,W,O,P⟩:=four L.o));go_wp2;go_roundg (r.list.length - (k+1))
   case measure=>omega
   case rel=>exact⟨k+1,rfl,by omega,by go_num,y.o.trans s.o⟩
  ·obtain rfl:k=r.list.length:=by omega
   go_wp2;go_ret;exact⟨rfl,J.o.trans y.o⟩
structure LC(w0:World)(bl:List (Nat×Nat×List Value))(es:List (Value×List Ent))(rs:List (Value×YX))(st:List (Value×Sto))(wr:World):Prop where
 f:Fr [] w0 wr
 v:Vars wr
 bl:∀p∈bl,Whole wr p.1 p.2.1 p.2.2
 es:∀p∈es,z1f wr wr.heap.size p.1 p.2
 rs:∀p∈rs,Sl wr wr.heap.size 1 p.1 p.2.length (z03 p.2)
 st:∀p∈st,z5p wr wr.heap.size p.1 p.2
section
variable {w0 wr w1:World} {bl:List (Nat×Nat×List Value)} {es:List (Value×List Ent)} {rs:List (Value×YX)} {st:List (Value×Sto)}
theorem zhu{α:Type}{P:α→Prop}{a:α}{l:List α}(ha:P a)(h:∀p∈l,P p):∀p∈a :: l,P p:=fun p hp=>by
 rcases Yh.1 hp with rfl|hp
 ·exact ha
 ·exact h p hp
theorem LC.start{w:World}(hv:Vars w):LC w [] [] [] [] w:=
 ⟨Fr.refl _ _,hv,fun p hp=>by (cases hp),fun p hp=>by (cases hp),fun p hp=>by (cases hp),fun p hp=>by (cases hp)⟩
theorem LC.go(h:LC w0 bl es rs st wr)(k:Fr [] wr w1):LC w0 bl es rs st w1:=
 ⟨h.f.trans k,h.v.fr k,fun p hp=>(h.bl p hp).fr k (by simp),fun p hp=>(h.es p hp).go k,fun p hp=>((h.rs p hp).fr k (Xb _) (by simp)).more k.size,fun p hp=>(h.st p hp).go k⟩
theorem LC.alloc(h:LC w0 bl es rs st wr)(o:Obj):LC w0 bl es rs st (wr.alloc o):=h.go ((Fr.refl [] wr).alloc o)
theorem LC.ents{v:Value}{l:List Ent}(h:LC w0 bl es rs st wr)(hv:z1f wr wr.heap.size v l):LC w0 bl ((v,l) :: es) rs st wr:=⟨h.f,h.v,h.bl,zhu hv h.es,h.rs,h.st⟩
theorem LC.row{v:Value}{l:YX}(h:LC w0 bl es rs st wr)(hv:Sl wr wr.heap.size 1 v l.length (z03 l)):LC w0 bl es ((v,l) :: rs) st wr:=⟨h.f,h.v,h.bl,h.es,zhu hv h.rs,h.st⟩
theorem LC.sto{v:Value}{s:Sto}(h:LC w0 bl es rs st wr)(hv:z5p wr wr.heap.size v s):LC w0 bl es rs ((v,s) :: st) wr:=⟨h.f,h.v,h.bl,h.es,h.rs,zhu hv h.st⟩
theorem LC.box(h:LC w0 bl es rs st wr)(cs)(t:Nat):LC w0 ((wr.heap.size,t,cs) :: bl) es rs st (wr.alloc (.cells cs.toArray t)):=
 have k:=h.alloc (.cells cs.toArray t)
 ⟨k.f,k.v,zhu (Whole.new wr t cs) k.bl,k.es,k.rs,k.st⟩
theorem LC.lit3(h:LC w0 bl es rs st wr)(a b c):LC w0 bl es ((.slice (some ⟨wr.heap.size,0,none⟩) 3 3,[a,b,c]) :: rs) st (wr.alloc (.cells #[.string a,.string b,.string c] 9)):=
 (h.alloc _).row (z0l (World.ownsRow_lit (base:=wr.heap.size) (e:=9) (size:=1) wr #[.string a,.string b,.string c] 3 (Xb _) (by decide) rfl))
theorem z6a{o t:Nat}{a b:Value}(h:Whole wr o t [a,b]):wr.cell? ⟨o,0,none⟩=some a∧wr.cell? ⟨o,1,none⟩=some b:=⟨h.cell 0,h.cell 1⟩
end
end
end Go.Proofs.YtnmoajaelmimnaaGreatDoor
