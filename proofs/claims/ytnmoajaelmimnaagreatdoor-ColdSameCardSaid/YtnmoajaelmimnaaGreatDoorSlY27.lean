/- Contracts; no condition but each theorem's own. -/
import Derived.Test.YtnmoajaelmimnaaGreatDoorSlY26
set_option linter.unusedVariables false
set_option linter.unusedSimpArgs false
set_option maxHeartbeats 8000000
set_option maxRecDepth 100000
namespace Go.Proofs.YtnmoajaelmimnaaGreatDoor
open Go.Proofs.Tryz
section
open Go.RowKit
theorem zlk{l:YX}{j:Nat}:z03 (l.eraseIdx j)=(z03 l).take (j * 1)++(z03 l).drop ((j+1) * 1):=by
 rw[Vo,Vo,List.eraseIdx_eq_take_drop_succ,z36];unfold z03;rw[Kn,Km]
def q53(nn N:Nat)(T:Sto)(k:Nat)(st:Sto):Prop:=z6e st∧zuf nn k st=T∧st.segs.length=N∧∃m,st.segs[nn]? = some m∧k≤m.length
theorem q53.step{nn N j:Nat}{T st:Sto}(h:q53 nn N T (j+1) st):q53 nn N T j (zmm nn j st):=by
 obtain⟨b,e,g,m,a,l⟩:=h;obtain⟨k,f,d,h3⟩:=zud (i:=j) a;refine⟨(zue b a).1,e,d.trans g,k,f,?_⟩;rcases h3 with⟨-,rfl,-⟩|⟨-,rfl⟩
 ·omega
 ·rw[Vv];split <;> omega
theorem q3v{n i:Int}{x:Slt}(h:x.cold=false):mvR n i x=x:=Xc (fun hc=>by rw[h] at hc;exact absurd hc.1 (by decide))
theorem q3x{n:Int}{x:Slt}(h:x.cold=false):mvS n x=x:=Xc (fun hc=>by rw[h] at hc;exact absurd hc.1 (by decide))
theorem q3u(n i:Int)(x):∀p∈q3t n i x,p.1 < 10:=fun p hp=>by
 unfold q3t at hp;split at hp
 ·simp at hp;subst hp;simp
 ·cases hp
theorem q3s(n:Int)(x):∀p∈q3r n x,p.1 < 10:=fun p hp=>by
 unfold q3r at hp;split at hp
 ·simp at hp;subst hp;simp
 ·cases hp
theorem zzy{n i:Int}{x:Slt}(hc:x.cold=true){base mid:Nat}(w)(cs)(h:zcw w base mid cs x):zcw w base mid (zd6 cs (q3t n i x)) (mvR n i x):=by
 unfold q3t mvR;by_cases q:x.seg=n∧i < x.rcd
 ·rw[Xf q,Xf ⟨hc,q⟩];obtain⟨⟨d,c1,f,c2,e,l,rfl,m,g,h3⟩,p⟩:=h;refine⟨⟨d,c1,f,c2,e,l,rfl,m,g,h3⟩,fun u b k a=>?_⟩;simp[zd6,z3d] at b;rcases b with rfl|rfl|rfl|rfl|rfl|rfl|rfl|rfl|rfl|rfl
  all_goals first|(cases a;done)|exact p _ (by simp[z3d]) k a
 ·rw[Xc q,Xc (fun j=>q j.2)];exact h
theorem zzx{n:Int}{x:Slt}(hc:x.cold=true){base mid:Nat}(w)(cs)(h:zcw w base mid cs x):zcw w base mid (zd6 cs (q3r n x)) (mvS n x):=by
 unfold q3r mvS;by_cases q:n < x.seg
 ·rw[Xf q,Xf ⟨hc,q⟩];obtain⟨⟨d,c1,f,c2,e,l,rfl,m,g,h3⟩,p⟩:=h;refine⟨⟨d,c1,f,c2,e,l,rfl,m,g,h3⟩,fun u b k a=>?_⟩;simp[zd6,z3d] at b;rcases b with rfl|rfl|rfl|rfl|rfl|rfl|rfl|rfl|rfl|rfl
  all_goals first|(cases a;done)|exact p _ (by simp[z3d]) k a
 ·rw[Xc q,Xc (fun j=>q j.2)];exact h
theorem KpM.slA{w:World}{base mid kb:Nat}{a b:Value}{s:Sto}(h:KpM w base mid kb a b s){T g:Nat}{cs:List Value}(hw:Whole w g T cs)(hT:T≠124):g∉z1w a:=fun hm=>by
 obtain⟨rs,-,ho⟩:=h.sl;exact z5s ho hw hT hm
theorem q6c(st)(nn j base mid kb:Nat)(a b)(nb ib:Nat)(w)(ok:z6e st)(sm:∀x∈st.slots,x.Small)(ss:List YX)(h:KpM w base mid kb a b ⟨st.slots,ss⟩)(hn:Whole w nb 3 [.int .i64 nn])(hi:Whole w ib 3 [.int .i64 j]):
  Calls prog 126 #[.pointer (some ⟨kb,0,none⟩),.func (Fn.func 127) #[] #[.pointer (some ⟨nb,0,none⟩),.pointer (some ⟨ib,0,none⟩)]] w (MvP base mid kb a b ⟨st.slots.map (mvR nn j),ss⟩ w):=by
 refine zkm 127 _ (fun _ _=>rfl) (mvR nn j) (q3t nn j) ⟨st.slots,ss⟩ base mid kb a b w (by have:=ok.le;show st.slots.length≤_;omega) h (fun l c e=>?_) (fun x m d=>q3v d) (fun x _=>q3u _ _ x) (fun x m d g k f=>zzy d g k f);subst e;exact zmn nn j st.slots nb ib l w sm (by omega) (hn.cell 0) (hi.cell 0) (fun e=>h.slA hn (by decide) (by rw[e];simp[z1w])) (fun e=>h.slA hi (by decide) (by rw[e];simp[z1w]))
theorem q6d(st)(nn base mid kb:Nat)(a b)(nb:Nat)(w)(ok:z6e st)(sm:∀x∈st.slots,x.Small)(ss:List YX)(h:KpM w base mid kb a b ⟨st.slots,ss⟩)(hn:Whole w nb 3 [.int .i64 nn]):
  Calls prog 126 #[.pointer (some ⟨kb,0,none⟩),.func (Fn.func 129) #[] #[.pointer (some ⟨nb,0,none⟩)]] w (MvP base mid kb a b ⟨st.slots.map (mvS nn),ss⟩ w):=by
 refine zkm 129 _ (fun _ _=>rfl) (mvS nn) (q3r nn) ⟨st.slots,ss⟩ base mid kb a b w (by have:=ok.le;show st.slots.length≤_;omega) h (fun k c e=>?_) (fun x l d=>q3x d) (fun x _=>q3s _ x) (fun x l d g j f=>zzx d g j f);subst e;exact zmo nn st.slots nb k w sm (by omega) (hn.cell 0) (fun e=>h.slA hn (by decide) (by rw[e];simp[z1w]))
theorem zbn.erase{α:Type}{P:Value→α→Prop}{vs:List Value}{l:List α}(h:zbn P vs l)(n:Nat):zbn P (vs.eraseIdx n) (l.eraseIdx n):=⟨by rw[Vv,Vv,h.len],fun j y hy=>by
 rw[Ve] at hy;split at hy
 ·rename_i hj;obtain⟨u,h1,h2⟩:=h.at_ j y hy;exact⟨u,by rw[Ve,Xf hj];exact h1,h2⟩
 ·rename_i hj;obtain⟨u,h1,h2⟩:=h.at_ (j+1) y hy;exact⟨u,by rw[Ve,Xc hj];exact h1,h2⟩⟩
theorem Apart.erase{vs:List Value}(h:Apart vs)(n:Nat):Apart (vs.eraseIdx n):=by
 intro i j u v d b a;rw[Ve] at b a;split at b <;> split at a
 ·exact h i j u v d b a
 ·exact h i (j+1) u v (by omega) b a
 ·exact h (i+1) j u v (by omega) b a
 ·exact h (i+1) (j+1) u v (by omega) b a
theorem zsb{w:World}{g t t':Nat}{cs cs':List Value}(h:Whole w g t cs)(h':Whole w g t' cs'):t=t':=by
 have:=h.symm.trans h';simp at this;exact this.2
structure GW(w wr:World)(base mid kb:Nat)(a b:Value)(nb ib nn:Nat)(i:Int)(st:Sto):Prop where
 f:FrB [] base w wr
 kp:KpM wr base mid kb a b st
 n:Whole wr nb 3 [.int .i64 nn]
 i:Whole wr ib 3 [.int .i64 i]
theorem GW.go{w wr w1:World}{base mid kb nb ib nn:Nat}{a b:Value}{i:Int}{st:Sto}(h:GW w wr base mid kb a b nb ib nn i st)(k:Fr [] wr w1):GW w w1 base mid kb a b nb ib nn i st:=⟨h.f.trans (k.toB base),h.kp.go k,h.n.fr k (by simp),h.i.fr k (by simp)⟩
theorem GW.next{w wr:World}{base mid kb nb ib nn:Nat}{a b:Value}{i:Int}{st:Sto}(h:GW w wr base mid kb a b nb ib nn i st)(i':Int){ib':Nat}(hb:wr.heap.size=ib'):
  GW w (wr.alloc (.cells #[.int .i64 i'] 3)) base mid kb a b nb ib' nn i' st:=by
 subst hb;have f:=(Fr.refl [] wr).alloc (.cells #[.int .i64 i'] 3);exact⟨h.f.trans (f.toB base),h.kp.go f,h.n.fr f (by simp),Whole.new wr 3 [.int .i64 i']⟩
def GaP(base kb:Nat)(r:Sto×Int×Int)(w:World)(e:Ending)(w':World):Prop:=
 e=.returned (.tuple #[.int .i64 r.2.1,.int .i64 r.2.2])∧FrB [] base w w'∧(r.2.2=0→Kp w' base kb r.1)
theorem zmv(s)(base mid kb:Nat)(a b)(n:Int)(w:World)(ok:z6e s)(hb:base≤w.heap.size)(h:KpM w base mid kb a b s):
  Calls prog 80 #[.pointer (some ⟨kb,0,none⟩),.int .i64 n] w (GaP base kb (z4f s n) w):=by
 have F1:=hid ((Fr.refl [] w).alloc (.cells #[.int .i64 n] 3));have N1:=hid (Whole.new w 3 [.int .i64 n]);obtain⟨RA,S,rfl⟩:=h.sg.form;have K1:=hid (h.go F1.o);obtain⟨k0,k1⟩:=two K1.o.k;have bm:=ok.sle;by_cases hbad:0≤n∧n < s.segs.length
 ·obtain⟨d,rfl⟩:∃d:Nat,n=d:=⟨n.toNat,by omega⟩;have be:d < s.segs.length:=by omega
  obtain⟨l,hl⟩:∃l,s.segs[d]? = some l:=⟨_,Xa be⟩;have br:=ok.rle l (Xj hl)
  have EG:z4f s d=(zxe d (zuf d l.length s),((l.length:Nat):Int) - ((((zuf d l.length s).segs.getD d []).length:Nat):Int),0):=by
   unfold z4f zyz;rw[Xf hbad,Ur,z6t hl]
  rw[EG];clear EG;obtain⟨T,hT⟩:∃T,T=zuf d l.length s:=⟨_,rfl⟩;rw[←hT];obtain⟨t,bu,e⟩:=z9c h.sg.choose_spec.2.2 (by omega);cases e;have GI:=hid (show q53 d s.segs.length T l.length s from⟨ok,hT.symm,rfl,l,hl,Xb _⟩);obtain⟨vs,D,U,B⟩:=K1.o.sg;obtain⟨u,hu,hU⟩:=D.at_ d l hl;obtain⟨LA,lc,rfl,-⟩:=z05 hU;obtain⟨qa,qf,qb,qc,qd⟩:=z8f B;have m1:=qa _ _ hu;have g0:(w.alloc (.cells #[.int .i64 d] 3)).cell? ⟨w.heap.size,0,none⟩=some (.int .i64 d):=N1.o.cell 0;have q1:decide ((d:Int) < 0)=false:=by simp
  have q2:¬(d:Int) < 0:=by omega
  have q3:decide ((d:Int) ≥ (s.segs.length:Int))=false:=by simp;omega
  have q4:¬(d:Int) ≥ (s.segs.length:Int):=by omega
  have bj:(0:Int)≤(d:Int):=by omega
  have bh:(d:Int) < (s.segs.length:Int):=by omega
  have bd:=hid (show GW w (w.alloc (.cells #[.int .i64 d] 3)) base mid kb a (.slice (some ⟨t,0,none⟩) s.segs.length S) w.heap.size w.heap.size d d s from⟨F1.o.toB base,K1.o,N1.o,N1.o⟩);generalize hN:s.segs.length=N at *;generalize hL:l.length=L at *;have q5:¬N≤d:=by omega
  have q6:decide (N≤d)=false:=Xl q5;unfold maxLen at qd;clear h D U B hu hU qa qf qb K1 hT ok hN hl F1;go_enter func80,ntmps80;go_wp2;go_quiet (fail);go_wp2;go_quiet (fail);go_wp2;go_loopg [7] L (fun r p wr=>∃(k ib:Nat) (z:Sto),r=k∧k≤L∧p=.pointer (some ⟨ib,0,none⟩)∧q53 d N T k z∧GW w wr base mid kb a (.slice (some ⟨t,0,none⟩) N S) w.heap.size ib d ((k:Int) - 1) z)
  case atStart=>exact⟨L,_,s,rfl,Xb _,rfl,GI.o,(bd.o.go ((Fr.refl [] _).drewN _)).next _ (by simp)⟩
  case round=>
   obtain⟨k,ib,z,rfl,J,rfl,gi,gw⟩:=hrel;have bc:=hid gi;have A:=hid gw;clear k0 k1 g0 m1;cases gk with
   | zero=>
    obtain⟨ok,hT,hN,m,G,-⟩:=gi;obtain rfl:z=T:=hT;rw[show(((0:Nat):Int) - 1)=-1 from rfl] at gw A;have ah:=ok.rle m (Xj G);have ci:wr.cell? ⟨ib,0,none⟩=some (.int .i64 (-1)):=gw.i.cell 0;have cn:wr.cell? ⟨w.heap.size,0,none⟩=some (.int .i64 d):=gw.n.cell 0;have X:wr.cell? ⟨kb,1,none⟩=some (.slice (some ⟨t,0,none⟩) N S):=gw.kp.k.cell 1;obtain⟨vs,D,U,B⟩:=gw.kp.sg;obtain⟨u,hu,hU⟩:=D.at_ d m G;rw[hN] at B;obtain⟨LA,lc,rfl,-⟩:=z05 hU;obtain⟨qa,qf,qb,-⟩:=z8f B;have m1:=qa _ _ hu;have GD:=hid (show(z.segs.getD d []).length=m.length from by rw[z6t G]);have EE:zxe d z=if m.length=0∧d+1 < N then ⟨z.slots.map (mvS d),z.segs.eraseIdx d⟩ else z:=by unfold zxe;rw[z6t G,hN]
    obtain⟨y,Q⟩:∃y,y=m.length:=⟨_,rfl⟩;have e2:wr.cell? ⟨t,d,none⟩=some (.slice LA y lc):=by rw[Q];exact m1
    rw[←Q] at EE ah GD;have bn:IntKind.i64.wrap ((L:Int) - (y:Int))=(L:Int) - (y:Int):=by rw[IntKind.wrap_i64];omega
    have bg:IntKind.i64.wrap ((N:Int) - 1)=(N:Int) - 1:=by rw[IntKind.wrap_i64];omega
    by_cases h0:y=0
    ·by_cases h1:d+1 < N
     ·rw[Xf ⟨h0,h1⟩] at EE;have HE:=hid EE;have ao:=hid D;have al:=hid U;have a3:=hid B;have HN:=hid hN;have OK:=hid ok;have SM:=hid (z1k ok).slots;have p1:(y:Int)=0:=by omega
      have p2:((y:Int)==0)=true:=by simpa using p1
      have p3:(d:Int) < (N:Int) - 1:=by omega
      have p4:decide ((d:Int) < (N:Int) - 1)=true:=Xi p3
      have DL:=hid (fun W (hW:Fr [] wr W)=>(show Calls prog 128 #[.slice (some ⟨t,0,none⟩) N S,.int .i64 d,.int .i64 ((d:Int)+1)] W (ziw (d+(N - (d+1))) (vs.take (d * 1)++vs.drop ((d+1) * 1)) mid (.slice (some ⟨t,0,none⟩) N S) W) from
       ztr N d (d+1) vs mid (.slice (some ⟨t,0,none⟩) N S) W (by omega) (by omega) (by omega) (z08 B hW (by simp)) (q0r D)))
      have bv:IntKind.i64.wrap ((d:Int)+1)=(d:Int)+1:=by rw[IntKind.wrap_i64];omega
      clear gw D U B hu hU qa qf ok hN G Q m1 EE;subst h0;go_wp2;go_quiet (fail);have FQ:=hid ((Fr.refl [] wr).drewN nq);have bf:=FQ.o.cell X (by simp);have b1:=FQ.o.cell e2 (by simp);have bb:=FQ.o.cell cn (by simp);clear X e2 cn;generalize wr.drewN nq=wq at *;go_wp2;go_quiet (fail);have a4:=hid (FQ.o.trans ((Fr.refl [] wq).drewN nq));have X:=a4.o.cell (A.o.kp.k.cell 1) (by simp);have cn:(wq.drewN nq).cell? ⟨w.heap.size,0,none⟩=some (.int .i64 d):=a4.o.cell (A.o.n.cell 0) (by simp);have X:(wq.drewN nq).cell? ⟨kb,1,none⟩=some (.slice (some ⟨t,0,none⟩) N S):=X;clear bf b1 bb;generalize wq.drewN nq=wt at *;have E:=hid (A.o.go a4.o);go_upto_region 14 with fail;refine zae (n:=13) (fun K=>K.cell? ⟨kb,1,none⟩=some (.slice (some ⟨t,0,none⟩) N S)∧K.cell? ⟨w.heap.size,0,none⟩=some (.int .i64 d)) (by rfl) ?_;have C:(fun K=>K.cell? ⟨kb,1,none⟩=some (.slice (some ⟨t,0,none⟩) N S)∧K.cell? ⟨w.heap.size,0,none⟩=some (.int .i64 d)) wt.drew:=⟨X,cn⟩;refine z07 (i:=0) (v:=?vb0) rfl (by kernel_rfl) (by kernel_rfl) (by kernel_rfl) (by kernel_rfl) (by decide) (fun _ _ _ h=>h) C (Or.inl ⟨by rfl,?hyb0⟩) ?restb0
      case hyb0=>
       intro I g;obtain⟨F,H⟩:=g
       go_simp
       all_goals with_reducible rfl
      try simp only[Act.put,Xh,Xn,Xm]
      refine z07 (i:=1) (v:=?vb1) rfl (by kernel_rfl) (by kernel_rfl) (by kernel_rfl) (by kernel_rfl) (by decide) (fun _ _ _ h=>h) C (Or.inl ⟨by rfl,?hyb1⟩) ?restb1
      case hyb1=>
       intro I g;obtain⟨F,H⟩:=g
       go_simp
       all_goals with_reducible rfl
      try simp only[Act.put,Xh,Xn,Xm]
      refine z07 (i:=2) (v:=?vb2) rfl (by kernel_rfl) (by kernel_rfl) (by kernel_rfl) (by kernel_rfl) (by decide) (fun _ _ _ h=>h) C (Or.inl ⟨by rfl,?hyb2⟩) ?restb2
      case hyb2=>
       intro I g;obtain⟨F,H⟩:=g
       go_simp
       all_goals with_reducible rfl
      try simp only[Act.put,Xh,Xn,Xm]
      refine z07 (i:=3) (v:=?vb3) rfl (by kernel_rfl) (by kernel_rfl) (by kernel_rfl) (by kernel_rfl) (by decide) (fun _ _ _ h=>h) C (Or.inl ⟨by rfl,?hyb3⟩) ?restb3
      case hyb3=>
       intro I g;obtain⟨F,H⟩:=g
       go_simp
       all_goals with_reducible rfl
      try simp only[Act.put,Xh,Xn,Xm]
      refine z07 (i:=4) (v:=?vb4) rfl (by kernel_rfl) (by kernel_rfl) (by kernel_rfl) (by kernel_rfl) (by decide) (fun _ _ _ h=>h) C (Or.inl ⟨by rfl,?hyb4⟩) ?restb4
      case hyb4=>
       intro I g;obtain⟨F,H⟩:=g
       go_simp
       all_goals with_reducible rfl
      try simp only[Act.put,Xh,Xn,Xm]
      refine z07 (i:=5) (v:=?vb5) rfl (by kernel_rfl) (by kernel_rfl) (by kernel_rfl) (by kernel_rfl) (by decide) (fun _ _ _ h=>h) C (Or.inl ⟨by rfl,?hyb5⟩) ?restb5
      case hyb5=>
       intro I g;obtain⟨F,H⟩:=g
       go_simp
       all_goals with_reducible rfl
      try simp only[Act.put,Xh,Xn,Xm]
      refine z07 (i:=6) (v:=?vb6) rfl (by kernel_rfl) (by kernel_rfl) (by kernel_rfl) (by kernel_rfl) (by decide) (fun _ _ _ h=>h) C (Or.inl ⟨by rfl,?hyb6⟩) ?restb6
      case hyb6=>
       intro I g;obtain⟨F,H⟩:=g
       go_simp
       all_goals with_reducible rfl
      try simp only[Act.put,Xh,Xn,Xm]
      refine z07 (i:=7) (v:=?vb7) rfl (by kernel_rfl) (by kernel_rfl) (by kernel_rfl) (by kernel_rfl) (by decide) (fun _ _ _ h=>h) C (Or.inl ⟨by rfl,?hyb7⟩) ?restb7
      case hyb7=>
       intro I g;obtain⟨F,H⟩:=g
       go_simp
       all_goals with_reducible rfl
      try simp only[Act.put,Xh,Xn,Xm]
      refine z07 (i:=8) (v:=?vb8) rfl (by kernel_rfl) (by kernel_rfl) (by kernel_rfl) (by kernel_rfl) (by decide) (fun _ _ _ h=>h) C (Or.inl ⟨by rfl,?hyb8⟩) ?restb8
      case hyb8=>
       intro I g;obtain⟨F,H⟩:=g
       go_simp
       all_goals with_reducible rfl
      try simp only[Act.put,Xh,Xn,Xm]
      refine z27 (k:=9) (by kernel_rfl) rfl (fun K9 aw=>?_)
      go_simp
      go_at_call 128;refine(DL.o _ a4.o.drew).mono ?_;rintro e3 M ⟨v3,rfl,a2,a8,a9⟩;obtain⟨O,P,rfl,-⟩:=z05 a2;have R:=hid (show Fr [t] wt M from z01 (z1u a8));have ap:=hid a2;have ay:=hid a9;have an:=hid (z08 a3.o a4.o (by simp));have aa:kb≠t:=fun e=>z0u an.o E.o.kp.k (by decide) (by rw[e];rfl);have ab:w.heap.size≠t:=fun e=>z0u an.o E.o.n (by decide) (by rw[e];rfl);have S3:=hid (show(fun K=>K.cell? ⟨kb,1,none⟩=some (.slice (some ⟨t,0,none⟩) N S)∧K.cell? ⟨w.heap.size,0,none⟩=some (.int .i64 d)) M from⟨R.o.cell X (by simpa using aa),R.o.cell cn (by simpa using ab)⟩);have V:=hid (E.o.kp.k.fr R.o (by simpa using aa));have N3:=hid (E.o.n.fr R.o (by simpa using ab));refine aw.out _ _ (fun _=>S3.o) ?_;clear aw C a2 a8 a9
      try simp only[Act.put,Xh,Xn,Xm]
      refine z27 (k:=10) (by kernel_rfl) rfl (fun bq ad=>?_)
      go_simp
      refine ad.out _ _ (fun _=>S3.o) ?_;clear ad
      try simp only[Act.put,Xh,Xn,Xm]
      refine z27 (k:=11) (by kernel_rfl) rfl (fun bo ag=>?_)
      go_simp
      refine ag.out _ _ (fun _=>S3.o) ?_;clear ag
      try simp only[Act.put,Xh,Xn,Xm]
      refine z27 (k:=12) (by kernel_rfl) rfl (fun bp af=>?_)
      go_simp
      refine af.out _ _ (fun _=>S3.o) ?_;clear af
      try simp only[Act.put,Xh,Xn,Xm]
      have yk:=S3.o.1;have zk:M.frozen? ⟨kb,1,none⟩=false:=V.o.frozen 1;refine z27 (k:=13) (by kernel_rfl) rfl (fun bl ae=>?_)
      go_simp
      refine ae.out _ _ (fun h=>absurd rfl h) ?_;clear ae
      try simp only[Act.put,Xh,Xn,Xm]
      refine zad (by kernel_rfl) ?_;have K6:=hid (show Whole (M.setCell ⟨kb,1,none⟩ (.slice O (d+(N - (d+1))) P)) kb _ [a,.slice O (d+(N - (d+1))) P] from V.o.set_ 1 _)
      have N6:=hid (N3.o.far (p:=⟨kb,1,none⟩) (fun e=>by
       have h1:=N3.o;have e:w.heap.size=kb:=e;rw[e] at h1;exact absurd (zsb h1 V.o) (by decide)) (.slice O (d+(N - (d+1))) P))
      have S6:=hid (((E.o.kp.sl.row an.o ⟨z7b,by decide⟩ (show Fr (z1w (.slice (some ⟨t,0,none⟩) N S)) wt M from R.o)).far (i:=1) V.o ⟨by decide,by decide⟩ (.slice O (d+(N - (d+1))) P)));have EL:(z.segs.eraseIdx d).length=d+(N - (d+1)):=by have:=HN.o;rw[Vv,Xf (by omega)];omega
      have G3:=hid (show z71 M mid (.slice O (d+(N - (d+1))) P) (z.segs.eraseIdx d) from⟨vs.eraseIdx d,(ao.o.imp fun u x h=>z08 (z08 h a4.o (by simp)) R.o (fun k J G=>z0w h a3.o (by decide) k J G)).erase d,al.o.erase d,by
       have:=ap.o;rw[Vo,Vo,←List.eraseIdx_eq_take_drop_succ] at this;rw[EL];exact this⟩)
      have G6:=hid (G3.o.far (i:=1) V.o ⟨by decide,by decide⟩ (.slice O (d+(N - (d+1))) P));have f6:=hid ((FrB.refl [] base M).setCell (p:=⟨kb,1,none⟩) (.inr A.o.kp.kb) (.slice O (d+(N - (d+1))) P));have a0:=hid (show KpM (M.setCell ⟨kb,1,none⟩ (.slice O (d+(N - (d+1))) P)) base mid kb a (.slice O (d+(N - (d+1))) P) ⟨z.slots,z.segs.eraseIdx d⟩ from⟨K6.o,A.o.kp.m,A.o.kp.kb,S6.o,G6.o,Xd E.o.kp.mz (Xd R.o.size f6.o.size)⟩)
      have ai:=hid (show FrB [] base w (M.setCell ⟨kb,1,none⟩ (.slice O (d+(N - (d+1))) P)) from
       (E.o.f.trans ((R.o.toB base).more (fun k J=>.inr (by simp at J;subst J;exact Xd A.o.kp.m qb)))).trans f6.o)
      have MV:=hid (q6d z d base mid kb a (.slice O (d+(N - (d+1))) P) w.heap.size (M.setCell ⟨kb,1,none⟩ (.slice O (d+(N - (d+1))) P)) OK.o SM.o _ a0.o N6.o)
      have aj:=hid (fun k (J:k∈z1w a)=>(show base≤k from by
       obtain⟨rs,-,a7⟩:=a0.o.sl;exact z19 a7 J))
      clear X cn yk zk qb;generalize M.setCell ⟨kb,1,none⟩ (.slice O (d+(N - (d+1))) P)=w6 at *;go_wp2_with fail;refine MV.o.mono ?_;rintro e7 w7 ⟨rfl,a5,f7⟩;have b8:=hid (ai.o.trans ((f7.toB base).more (fun k J=>.inr (aj.o k J))));have K7:=hid a5;clear a5 f7;go_wp2;go_ret2;show GaP base kb (zxe d z,(L:Int) - ((z.segs.getD d []).length:Nat),0) w _ _;rw[HE.o,GD.o];exact⟨rfl,b8.o,fun _=>⟨_,_,_,K7.o⟩⟩
     ·rw[Xc (fun h=>h1 h.2)] at EE;have HE:=hid EE;have p1:(y:Int)=0:=by omega
      have p2:((y:Int)==0)=true:=by simpa using p1
      have p3:¬(d:Int) < (N:Int) - 1:=by omega
      have p4:decide ((d:Int) < (N:Int) - 1)=false:=Xl p3;clear gw D U B hu hU qa qf ok hN G Q m1 EE;subst h0;go_wp2;go_quiet (fail);go_wp2;go_quiet (fail);go_wp2;go_ret2;show GaP base kb (zxe d z,(L:Int) - ((z.segs.getD d []).length:Nat),0) w _ _;rw[HE.o,GD.o];exact⟨rfl,A.o.f.trans ((((Fr.refl [] wr).drewN _).drewN _).toB base),fun _=>⟨_,_,_,A.o.kp.go (((Fr.refl [] wr).drewN _).drewN _)⟩⟩
    ·rw[Xc (fun h=>h0 h.1)] at EE;have HE:=hid EE;have p1:¬(y:Int)=0:=by omega
     have p2:((y:Int)==0)=false:=by simpa using p1
     clear gw D U B hu hU qa qf ok hN G Q m1 EE;go_wp2;go_quiet (fail);go_wp2;go_quiet (fail);go_wp2;go_ret2;show GaP base kb (zxe d z,(L:Int) - ((z.segs.getD d []).length:Nat),0) w _ _;rw[HE.o,GD.o];exact⟨rfl,A.o.f.trans ((((Fr.refl [] wr).drewN _).drewN _).toB base),fun _=>⟨_,_,_,A.o.kp.go (((Fr.refl [] wr).drewN _).drewN _)⟩⟩
   | succ j=>
    rw[show(((j+1:Nat):Int) - 1)=j from by omega] at gw A;obtain⟨ok,hT,hN,m,G,b3⟩:=gi;have ah:=ok.rle m (Xj G);have aq:=ok.le
    have ci:wr.cell? ⟨ib,0,none⟩=some (.int .i64 j):=by
     exact gw.i.cell 0
    have cn:wr.cell? ⟨w.heap.size,0,none⟩=some (.int .i64 d):=gw.n.cell 0;have bt:j < 4:=by omega
    have ME:=hid (zvj z base mid kb a (.slice (some ⟨t,0,none⟩) N S) d j wr (by omega) gw.kp);have GS:=hid bc.o.step;cases hM:z8d z.slots d j with
    | true=>
     rw[show zmm d j z=z from Xf hM] at GS;rw[hM] at ME;clear gw hT G hM ok hN;go_wp2_with fail;refine ME.o.mono ?_;rintro X w1 ⟨rfl,f1⟩;have E:=hid (A.o.go f1);have ac:=f1.cell ci (by simp);clear f1 ci cn;go_wp2;go_roundg j
     case measure=>omega
     case rel=>exact⟨j,_,z,rfl,by omega,rfl,GS.o,E.o.next _ rfl⟩
    | false=>
     have EA:zmm d j z=⟨z.slots.map (mvR d j),z.segs.set d (m.eraseIdx j)⟩:=by
      unfold zmm;rw[Xc (by rw[hM];decide),z6t G]
     rw[EA] at GS;rw[hM] at ME;have SM:=hid (z1k ok).slots;have OK:=hid ok;have HN:=hid hN;have HM:=hid G;clear gw hT hM ok hN G EA;go_wp2_with fail;refine ME.o.mono ?_;rintro X w1 ⟨rfl,f1⟩;have E:=hid (A.o.go f1);have ac:=f1.cell ci (by simp);have am:=f1.cell cn (by simp);clear f1 ci cn;obtain⟨vs,D,U,B⟩:=E.o.kp.sg;obtain⟨u,hu,hU⟩:=D.at_ d m HM.o;rw[HN.o] at B;obtain⟨LA,lc,rfl,-⟩:=z05 hU;obtain⟨qa,qf,qb,b5,ba⟩:=z8f B;have m1:=qa _ _ hu;have X:=E.o.kp.k.cell 1;have ao:=hid D;have al:=hid U;have a3:=hid B;have HU:=hid hu;have HT:=hid hU;have zr:=qf d;obtain⟨y,Q⟩:∃y,y=m.length:=⟨_,rfl⟩;have ak:=hid Q;have X:w1.cell? ⟨kb,1,none⟩=some (.slice (some ⟨t,0,none⟩) N S):=X;have e2:w1.cell? ⟨t,d,none⟩=some (.slice LA y lc):=by rw[Q];exact m1
     have b3:j < y:=by omega
     have ah:y≤4:=by omega
     have DL:=hid (fun W (hW:Fr [] w1 W)=>(show Calls prog 125 #[.slice LA y lc,.int .i64 j,.int .i64 ((j:Int)+1)] W (zo7 (j+(y - (j+1))) ((z03 m).take (j * 1)++(z03 m).drop ((j+1) * 1)) mid (.slice LA y lc) W) from
      zos y j (j+1) (z03 m) mid (.slice LA y lc) W (by omega) (by omega) (by omega) (by have:=z08 hU hW (by simp);rw[←Q] at this;exact this) (z2z m)))
     have bk:IntKind.i64.wrap ((j:Int)+1)=(j:Int)+1:=by rw[IntKind.wrap_i64];omega
     clear D U B hu hU qa qf Q m1 b5 ba aq;go_upto_region 8 with fail;refine zae (n:=19) (fun K=>K.cell? ⟨kb,1,none⟩=some (.slice (some ⟨t,0,none⟩) N S)∧K.cell? ⟨t,d,none⟩=some (.slice LA y lc)∧K.cell? ⟨w.heap.size,0,none⟩=some (.int .i64 d)∧K.cell? ⟨ib,0,none⟩=some (.int .i64 j)) (by rfl) ?_;have C:(fun K=>K.cell? ⟨kb,1,none⟩=some (.slice (some ⟨t,0,none⟩) N S)∧K.cell? ⟨t,d,none⟩=some (.slice LA y lc)∧K.cell? ⟨w.heap.size,0,none⟩=some (.int .i64 d)∧K.cell? ⟨ib,0,none⟩=some (.int .i64 j)) w1.drew:=⟨X,e2,am,ac⟩;refine z07 (i:=0) (v:=?va0) rfl (by kernel_rfl) (by kernel_rfl) (by kernel_rfl) (by kernel_rfl) (by decide) (fun _ _ _ h=>h) C (Or.inl ⟨by rfl,?hya0⟩) ?resta0
     case hya0=>
      intro I g;obtain⟨F,H,Z,Y⟩:=g
      go_simp
      all_goals with_reducible rfl
     try simp only[Act.put,Xh,Xn,Xm]
     refine z07 (i:=1) (v:=?va1) rfl (by kernel_rfl) (by kernel_rfl) (by kernel_rfl) (by kernel_rfl) (by decide) (fun _ _ _ h=>h) C (Or.inl ⟨by rfl,?hya1⟩) ?resta1
     case hya1=>
      intro I g;obtain⟨F,H,Z,Y⟩:=g
      go_simp
      all_goals with_reducible rfl
     try simp only[Act.put,Xh,Xn,Xm]
     refine z07 (i:=2) (v:=?va2) rfl (by kernel_rfl) (by kernel_rfl) (by kernel_rfl) (by kernel_rfl) (by decide) (fun _ _ _ h=>h) C (Or.inl ⟨by rfl,?hya2⟩) ?resta2
     case hya2=>
      intro I g;obtain⟨F,H,Z,Y⟩:=g
      go_simp
      all_goals with_reducible rfl
     try simp only[Act.put,Xh,Xn,Xm]
     refine z07 (i:=3) (v:=?va3) rfl (by kernel_rfl) (by kernel_rfl) (by kernel_rfl) (by kernel_rfl) (by decide) (fun _ _ _ h=>h) C (Or.inl ⟨by rfl,?hya3⟩) ?resta3
     case hya3=>
      intro I g;obtain⟨F,H,Z,Y⟩:=g
      go_simp
      all_goals with_reducible rfl
     try simp only[Act.put,Xh,Xn,Xm]
     refine z07 (i:=4) (v:=?va4) rfl (by kernel_rfl) (by kernel_rfl) (by kernel_rfl) (by kernel_rfl) (by decide) (fun _ _ _ h=>h) C (Or.inl ⟨by rfl,?hya4⟩) ?resta4
     case hya4=>
      intro I g;obtain⟨F,H,Z,Y⟩:=g
      go_simp
      all_goals with_reducible rfl
     try simp only[Act.put,Xh,Xn,Xm]
     refine z07 (i:=5) (v:=?va5) rfl (by kernel_rfl) (by kernel_rfl) (by kernel_rfl) (by kernel_rfl) (by decide) (fun _ _ _ h=>h) C (Or.inl ⟨by rfl,?hya5⟩) ?resta5
     case hya5=>
      intro I g;obtain⟨F,H,Z,Y⟩:=g
      go_simp
      all_goals with_reducible rfl
     try simp only[Act.put,Xh,Xn,Xm]
     refine z07 (i:=6) (v:=?va6) rfl (by kernel_rfl) (by kernel_rfl) (by kernel_rfl) (by kernel_rfl) (by decide) (fun _ _ _ h=>h) C (Or.inl ⟨by rfl,?hya6⟩) ?resta6
     case hya6=>
      intro I g;obtain⟨F,H,Z,Y⟩:=g
      go_simp
      all_goals with_reducible rfl
     try simp only[Act.put,Xh,Xn,Xm]
     refine z07 (i:=7) (v:=?va7) rfl (by kernel_rfl) (by kernel_rfl) (by kernel_rfl) (by kernel_rfl) (by decide) (fun _ _ _ h=>h) C (Or.inl ⟨by rfl,?hya7⟩) ?resta7
     case hya7=>
      intro I g;obtain⟨F,H,Z,Y⟩:=g
      go_simp
      all_goals with_reducible rfl
     try simp only[Act.put,Xh,Xn,Xm]
     refine z07 (i:=8) (v:=?va8) rfl (by kernel_rfl) (by kernel_rfl) (by kernel_rfl) (by kernel_rfl) (by decide) (fun _ _ _ h=>h) C (Or.inl ⟨by rfl,?hya8⟩) ?resta8
     case hya8=>
      intro I g;obtain⟨F,H,Z,Y⟩:=g
      go_simp
      all_goals with_reducible rfl
     try simp only[Act.put,Xh,Xn,Xm]
     refine z07 (i:=9) (v:=?va9) rfl (by kernel_rfl) (by kernel_rfl) (by kernel_rfl) (by kernel_rfl) (by decide) (fun _ _ _ h=>h) C (Or.inl ⟨by rfl,?hya9⟩) ?resta9
     case hya9=>
      intro I g;obtain⟨F,H,Z,Y⟩:=g
      go_simp
      all_goals with_reducible rfl
     try simp only[Act.put,Xh,Xn,Xm]
     refine z07 (i:=10) (v:=?va10) rfl (by kernel_rfl) (by kernel_rfl) (by kernel_rfl) (by kernel_rfl) (by decide) (fun _ _ _ h=>h) C (Or.inl ⟨by rfl,?hya10⟩) ?resta10
     case hya10=>
      intro I g;obtain⟨F,H,Z,Y⟩:=g
      go_simp
      all_goals with_reducible rfl
     try simp only[Act.put,Xh,Xn,Xm]
     refine z07 (i:=11) (v:=?va11) rfl (by kernel_rfl) (by kernel_rfl) (by kernel_rfl) (by kernel_rfl) (by decide) (fun _ _ _ h=>h) C (Or.inl ⟨by rfl,?hya11⟩) ?resta11
     case hya11=>
      intro I g;obtain⟨F,H,Z,Y⟩:=g
      go_simp
      all_goals with_reducible rfl
     try simp only[Act.put,Xh,Xn,Xm]
     refine z07 (i:=12) (v:=?va12) rfl (by kernel_rfl) (by kernel_rfl) (by kernel_rfl) (by kernel_rfl) (by decide) (fun _ _ _ h=>h) C (Or.inl ⟨by rfl,?hya12⟩) ?resta12
     case hya12=>
      intro I g;obtain⟨F,H,Z,Y⟩:=g
      go_simp
      all_goals with_reducible rfl
     try simp only[Act.put,Xh,Xn,Xm]
     refine z07 (i:=13) (v:=?va13) rfl (by kernel_rfl) (by kernel_rfl) (by kernel_rfl) (by kernel_rfl) (by decide) (fun _ _ _ h=>h) C (Or.inl ⟨by rfl,?hya13⟩) ?resta13
     case hya13=>
      intro I g;obtain⟨F,H,Z,Y⟩:=g
      go_simp
      all_goals with_reducible rfl
     try simp only[Act.put,Xh,Xn,Xm]
     refine z07 (i:=14) (v:=?va14) rfl (by kernel_rfl) (by kernel_rfl) (by kernel_rfl) (by kernel_rfl) (by decide) (fun _ _ _ h=>h) C (Or.inl ⟨by rfl,?hya14⟩) ?resta14
     case hya14=>
      intro I g;obtain⟨F,H,Z,Y⟩:=g
      go_simp
      all_goals with_reducible rfl
     try simp only[Act.put,Xh,Xn,Xm]
     refine z07 (i:=15) (v:=?va15) rfl (by kernel_rfl) (by kernel_rfl) (by kernel_rfl) (by kernel_rfl) (by decide) (fun _ _ _ h=>h) C (Or.inl ⟨by rfl,?hya15⟩) ?resta15
     case hya15=>
      intro I g;obtain⟨F,H,Z,Y⟩:=g
      go_simp
      all_goals with_reducible rfl
     try simp only[Act.put,Xh,Xn,Xm]
     refine z07 (i:=16) (v:=?va16) rfl (by kernel_rfl) (by kernel_rfl) (by kernel_rfl) (by kernel_rfl) (by decide) (fun _ _ _ h=>h) C (Or.inl ⟨by rfl,?hya16⟩) ?resta16
     case hya16=>
      intro I g;obtain⟨F,H,Z,Y⟩:=g
      go_simp
      all_goals with_reducible rfl
     try simp only[Act.put,Xh,Xn,Xm]
     refine z27 (k:=17) (by kernel_rfl) rfl (fun K1 au=>?_)
     go_simp
     go_at_call 125;refine(DL.o _ (Fr.refl [] w1).drew).mono ?_;rintro e3 M ⟨v3,rfl,a2,a8,a9⟩;obtain⟨O,P,rfl,-⟩:=z05 a2;have R:=hid (z01 (z1u a8));have ap:=hid a2;have ay:=hid a9;have a1:=hid (show w1.ownsRow mid 9 1 (.slice LA y lc) y (z03 m) from by rw[ak.o];exact HT.o);have nk:=fun G=>z5s a1.o E.o.kp.k (by decide) G;have ar:=fun G=>z5s a1.o E.o.n (by decide) G;have av:=fun G=>z5s a1.o E.o.i (by decide) G;have nr:=z0w a3.o a1.o (by decide) t rfl;have S3:=hid (show(fun K=>K.cell? ⟨kb,1,none⟩=some (.slice (some ⟨t,0,none⟩) N S)∧K.cell? ⟨t,d,none⟩=some (.slice LA y lc)∧K.cell? ⟨w.heap.size,0,none⟩=some (.int .i64 d)∧K.cell? ⟨ib,0,none⟩=some (.int .i64 j)) M from⟨R.o.cell X nk,R.o.cell e2 nr,R.o.cell am ar,R.o.cell ac av⟩);refine au.out _ _ (fun _=>S3.o) ?_;clear au C a2 a8 a9
     try simp only[Act.put,Xh,Xn,Xm]
     refine z27 (k:=18) (by kernel_rfl) rfl (fun K2 b0=>?_)
     go_simp
     refine b0.out _ _ (fun _=>S3.o) ?_;clear b0
     try simp only[Act.put,Xh,Xn,Xm]
     have R3:=hid (z08 a3.o R.o (fun k J G=>by cases J;exact nr G));have V:=hid (E.o.kp.k.fr R.o nk);have N3:=hid (E.o.n.fr R.o ar);have I3:=hid (E.o.i.fr R.o av);have b4:=(z8f R3.o).2.1 d;have b2:=S3.o.2.1;refine z27 (k:=19) (by kernel_rfl) rfl (fun K3 ax=>?_)
     go_simp
     refine ax.out _ _ (fun h=>absurd rfl h) ?_;clear ax
     try simp only[Act.put,Xh,Xn,Xm]
     refine zad (by kernel_rfl) ?_;have aa:kb≠t:=fun e=>z0u R3.o V.o (by decide) (by rw[e];rfl);have ab:w.heap.size≠t:=fun e=>z0u R3.o N3.o (by decide) (by rw[e];rfl);have b7:ib≠t:=fun e=>z0u R3.o I3.o (by decide) (by rw[e];rfl);have a6:=hid (show Fr [t] M (M.setCell ⟨t,d,none⟩ (.slice O (j+(y - (j+1))) P)) from(Fr.refl [t] M).setCell (.inl (by simp)) _);have K6:=hid (V.o.fr a6.o (by simpa using aa));have N6:=hid (N3.o.fr a6.o (by simpa using ab));have I6:=hid (I3.o.fr a6.o (by simpa using b7))
     have S6:=hid (show z2b (M.setCell ⟨t,d,none⟩ (.slice O (j+(y - (j+1))) P)) base mid a z.slots from
      ((E.o.kp.sl.fr R.o (fun k J=>z19 a1.o J) (fun k J G=>by
        obtain⟨rs,-,a7⟩:=E.o.kp.sl;exact z0w a7 a1.o (by decide) k J G)).row R3.o ⟨z7b,by decide⟩ a6.o))
     have EL:(m.eraseIdx j).length=j+(y - (j+1)):=by have:=ak.o;rw[Vv,Xf (by omega)];omega
     have G6:=hid (show z71 (M.setCell ⟨t,d,none⟩ (.slice O (j+(y - (j+1))) P)) mid (.slice (some ⟨t,0,none⟩) N S) (z.segs.set d (m.eraseIdx j)) from by
      have:=z71.put (n:=d) (x:=.slice O (j+(y - (j+1))) P) (l:=m.eraseIdx j) ao.o al.o (by have:=HU.o;rw[←ak.o] at this;exact this) (by rw[HN.o];exact a3.o) R.o (by
       unfold TxO;rw[EL,zlk];exact ap.o) (fun k J=>by
       rw[ay.o] at J;exact .inl (zpm J))
      rw[Ug,HN.o] at this;exact this)
     have a0:=hid (show KpM (M.setCell ⟨t,d,none⟩ (.slice O (j+(y - (j+1))) P)) base mid kb a (.slice (some ⟨t,0,none⟩) N S) ⟨z.slots,z.segs.set d (m.eraseIdx j)⟩ from⟨K6.o,E.o.kp.m,E.o.kp.kb,S6.o,G6.o,Xd E.o.kp.mz (Xd R.o.size a6.o.size)⟩)
     have ai:=hid (show FrB [] base w (M.setCell ⟨t,d,none⟩ (.slice O (j+(y - (j+1))) P)) from
      (E.o.f.trans ((R.o.toB base).more (fun k J=>.inr (Xd E.o.kp.m (z19 a1.o J))))).setCell (p:=⟨t,d,none⟩) (.inr (Xd E.o.kp.m qb)) _)
     have MV:=hid (q6c z d j base mid kb a (.slice (some ⟨t,0,none⟩) N S) w.heap.size ib (M.setCell ⟨t,d,none⟩ (.slice O (j+(y - (j+1))) P)) OK.o SM.o _ a0.o N6.o I6.o);have b6:=hid (a0.o.slA N6.o (by decide));have b9:=hid (a0.o.slA I6.o (by decide))
     have aj:=hid (fun k (J:k∈z1w a)=>(show base≤k from by
      obtain⟨rs,-,a7⟩:=a0.o.sl;exact z19 a7 J))
     clear X e2 ac am b2 b4 zr qb;generalize M.setCell ⟨t,d,none⟩ (.slice O (j+(y - (j+1))) P)=w6 at *;go_wp2_with fail;refine MV.o.mono ?_;rintro e7 w7 ⟨rfl,a5,f7⟩;have G7:=hid (show GW w w7 base mid kb a (.slice (some ⟨t,0,none⟩) N S) w.heap.size ib d j ⟨z.slots.map (mvR d j),z.segs.set d (m.eraseIdx j)⟩ from⟨ai.o.trans ((f7.toB base).more (fun k J=>.inr (aj.o k J))),a5,N6.o.fr f7 b6.o,I6.o.fr f7 b9.o⟩);have bi:w7.cell? ⟨ib,0,none⟩=some (.int .i64 j):=G7.o.i.cell 0;clear a5 f7;go_wp2;go_roundg j
     case measure=>omega
     case rel=>exact⟨j,_,_,rfl,by omega,rfl,GS.o,G7.o.next _ rfl⟩
 ·have EG:z4f s n=(noS,0,5):=by unfold z4f;rw[Xc hbad]
  rw[EG];clear EG h K1;have g0:(w.alloc (.cells #[.int .i64 n] 3)).cell? ⟨w.heap.size,0,none⟩=some (.int .i64 n):=N1.o.cell 0;by_cases hn:n < 0;have az:=hid trivial
  all_goals
   first
   | (guard_hyp az
      have q1:decide (n < 0)=true:=Xi hn)
   | (have q1:decide (n < 0)=false:=Xl hn
      have q2:n ≥ (s.segs.length:Int):=by omega
      have q3:decide (n ≥ (s.segs.length:Int))=true:=Xi q2)
   go_enter func80,ntmps80;go_wp2;go_quiet (fail);go_wp2;go_ret2;exact⟨rfl,((F1.o).drewN _).toB base,fun h=>absurd h (by decide)⟩
end
end Go.Proofs.YtnmoajaelmimnaaGreatDoor
