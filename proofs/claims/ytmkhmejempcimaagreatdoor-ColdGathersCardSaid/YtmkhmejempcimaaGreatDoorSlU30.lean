/- Contracts; no condition but each theorem's own. -/
import Derived.Test.YtmkhmejempcimaaGreatDoorSlU27
import Derived.Test.YtmkhmejempcimaaGreatDoorSlU29
set_option linter.unusedVariables false
set_option linter.unusedSimpArgs false
set_option maxHeartbeats 8000000
set_option maxRecDepth 100000
namespace Go.Proofs.YtmkhmejempcimaaGreatDoor
open Lib (hid)
open Go.Proofs.Tryz (prog)
open Go.RowKit
theorem zck{l:List ByteArray}{j:Nat}:z04 (l.eraseIdx j)=(z04 l).take (j * 1)++(z04 l).drop ((j+1) * 1):=by
 rw[Nat.mul_one,Nat.mul_one,List.eraseIdx_eq_take_drop_succ,z4c];unfold z04;rw[List.map_take,List.map_drop]
def zpm(nn N:Nat)(T:Sto)(k:Nat)(st:Sto):Prop:=z2t st∧zf3 nn k st=T∧st.segs.length=N∧∃m,st.segs[nn]? = some m∧k≤m.length
theorem zpm.step{nn N j:Nat}{T st:Sto}(h:zpm nn N T (j+1) st):zpm nn N T j (zaq nn j st):=by
 obtain⟨ok,hT,hN,m,hm,hk⟩:=h;obtain⟨m',h1,h2,h3⟩:=zi0 (i:=j) hm;refine⟨(ziw ok hm).1,hT,h2.trans hN,m',h1,?_⟩;rcases h3 with⟨-,rfl,-⟩|⟨-,rfl⟩
 ·omega
 ·rw[List.length_eraseIdx];split <;> omega
theorem zn2{n i:Int}{x:Slt}(h:x.cold=false):mvR n i x=x:=if_neg (fun hc=>by rw[h] at hc;exact absurd hc.1 (by decide))
theorem zo1{n:Int}{x:Slt}(h:x.cold=false):mvS n x=x:=if_neg (fun hc=>by rw[h] at hc;exact absurd hc.1 (by decide))
theorem zmy(n i:Int)(x:Slt):∀p∈zn1 n i x,p.1 < 10:=fun p hp=>by
 unfold zn1 at hp;split at hp
 ·simp at hp;subst hp;simp
 ·cases hp
theorem zo7(n:Int)(x:Slt):∀p∈znc n x,p.1 < 10:=fun p hp=>by
 unfold znc at hp;split at hp
 ·simp at hp;subst hp;simp
 ·cases hp
theorem zl4{n i:Int}{x:Slt}(hc:x.cold=true){base mid:Nat}(w:World)(cs:List Value)(h:z7g w base mid cs x):z7g w base mid (z7i cs (zn1 n i x)) (mvR n i x):=by
 unfold zn1 mvR;by_cases q:x.seg=n∧i < x.rcd
 ·rw[if_pos q,if_pos ⟨hc,q⟩];obtain⟨⟨A1,c1,A2,c2,A3,c3,rfl,h1,h2,h3⟩,hb⟩:=h;refine⟨⟨A1,c1,A2,c2,A3,c3,rfl,h1,h2,h3⟩,fun u hu k hk=>?_⟩;simp[z7i,z1f] at hu;rcases hu with rfl|rfl|rfl|rfl|rfl|rfl|rfl|rfl|rfl|rfl
  all_goals first|(cases hk;done)|exact hb _ (by simp[z1f]) k hk
 ·rw[if_neg q,if_neg (fun hh=>q hh.2)];exact h
theorem zku{n:Int}{x:Slt}(hc:x.cold=true){base mid:Nat}(w:World)(cs:List Value)(h:z7g w base mid cs x):z7g w base mid (z7i cs (znc n x)) (mvS n x):=by
 unfold znc mvS;by_cases q:n < x.seg
 ·rw[if_pos q,if_pos ⟨hc,q⟩];obtain⟨⟨A1,c1,A2,c2,A3,c3,rfl,h1,h2,h3⟩,hb⟩:=h;refine⟨⟨A1,c1,A2,c2,A3,c3,rfl,h1,h2,h3⟩,fun u hu k hk=>?_⟩;simp[z7i,z1f] at hu;rcases hu with rfl|rfl|rfl|rfl|rfl|rfl|rfl|rfl|rfl|rfl
  all_goals first|(cases hk;done)|exact hb _ (by simp[z1f]) k hk
 ·rw[if_neg q,if_neg (fun hh=>q hh.2)];exact h
theorem KpM.slA{w:World}{base mid kb:Nat}{a b:Value}{s:Sto}(h:KpM w base mid kb a b s){T g:Nat}{cs:List Value}(hw:Whole w g T cs)(hT:T≠50):g∉z1o a:=fun hm=>by
 obtain⟨rs,-,ho⟩:=h.sl;exact z32 ho hw hT hm
theorem zpc(st:Sto)(nn j base mid kb:Nat)(a b:Value)(nb ib:Nat)(w:World)(ok:z2t st)(sm:∀x∈st.slots,x.Small)(ss:List (List ByteArray))(h:KpM w base mid kb a b ⟨st.slots,ss⟩)(hn:Whole w nb 3 [.int .i64 nn])(hi:Whole w ib 3 [.int .i64 j]):
  Calls prog 47 #[.pointer (some ⟨kb,0,none⟩),.func (Fn.func 48) #[] #[.pointer (some ⟨nb,0,none⟩),.pointer (some ⟨ib,0,none⟩)]] w (MvP base mid kb a b ⟨st.slots.map (mvR nn j),ss⟩ w):=by
 refine zcj 48 _ (fun _ _=>rfl) (mvR nn j) (zn1 nn j) ⟨st.slots,ss⟩ base mid kb a b w (by have:=ok.le;show st.slots.length≤_;omega) h (fun sg c e=>?_) (fun x hx hc=>zn2 hc) (fun x _=>zmy _ _ x) (fun x hx hc w' cs hI=>zl4 hc w' cs hI);subst e;exact zdx nn j st.slots nb ib sg w sm (by omega) (hn.cell 0) (hi.cell 0) (fun e=>h.slA hn (by decide) (by rw[e];simp[z1o])) (fun e=>h.slA hi (by decide) (by rw[e];simp[z1o]))
theorem zpw(st:Sto)(nn base mid kb:Nat)(a b:Value)(nb:Nat)(w:World)(ok:z2t st)(sm:∀x∈st.slots,x.Small)(ss:List (List ByteArray))(h:KpM w base mid kb a b ⟨st.slots,ss⟩)(hn:Whole w nb 3 [.int .i64 nn]):
  Calls prog 47 #[.pointer (some ⟨kb,0,none⟩),.func (Fn.func 50) #[] #[.pointer (some ⟨nb,0,none⟩)]] w (MvP base mid kb a b ⟨st.slots.map (mvS nn),ss⟩ w):=by
 refine zcj 50 _ (fun _ _=>rfl) (mvS nn) (znc nn) ⟨st.slots,ss⟩ base mid kb a b w (by have:=ok.le;show st.slots.length≤_;omega) h (fun sg c e=>?_) (fun x hx hc=>zo1 hc) (fun x _=>zo7 _ x) (fun x hx hc w' cs hI=>zku hc w' cs hI);subst e;exact zdu nn st.slots nb sg w sm (by omega) (hn.cell 0) (fun e=>h.slA hn (by decide) (by rw[e];simp[z1o]))
theorem z6h.erase{α:Type}{P:Value→α→Prop}{vs:List Value}{l:List α}(h:z6h P vs l)(n:Nat):z6h P (vs.eraseIdx n) (l.eraseIdx n):=⟨by rw[List.length_eraseIdx,List.length_eraseIdx,h.len],fun j y hy=>by
 rw[List.getElem?_eraseIdx] at hy;split at hy
 ·rename_i hj;obtain⟨u,h1,h2⟩:=h.at_ j y hy;exact⟨u,by rw[List.getElem?_eraseIdx,if_pos hj];exact h1,h2⟩
 ·rename_i hj;obtain⟨u,h1,h2⟩:=h.at_ (j+1) y hy;exact⟨u,by rw[List.getElem?_eraseIdx,if_neg hj];exact h1,h2⟩⟩
theorem Apart.erase{vs:List Value}(h:Apart vs)(n:Nat):Apart (vs.eraseIdx n):=by
 intro i j u v hij hu hv;rw[List.getElem?_eraseIdx] at hu hv;split at hu <;> split at hv
 ·exact h i j u v hij hu hv
 ·exact h i (j+1) u v (by omega) hu hv
 ·exact h (i+1) j u v (by omega) hu hv
 ·exact h (i+1) (j+1) u v (by omega) hu hv
theorem zfv{w:World}{g t t':Nat}{cs cs':List Value}(h:Whole w g t cs)(h':Whole w g t' cs'):t=t':=by
 have:=h.symm.trans h';simp at this;exact this.2
structure GW(w wr:World)(base mid kb:Nat)(a b:Value)(nb ib nn:Nat)(i:Int)(st:Sto):Prop where
 f:FrB [] base w wr
 kp:KpM wr base mid kb a b st
 n:Whole wr nb 3 [.int .i64 nn]
 i:Whole wr ib 3 [.int .i64 i]
theorem GW.go{w wr w1:World}{base mid kb nb ib nn:Nat}{a b:Value}{i:Int}{st:Sto}(h:GW w wr base mid kb a b nb ib nn i st)(k:Fr [] wr w1):GW w w1 base mid kb a b nb ib nn i st:=⟨h.f.trans (k.toB base),h.kp.go k,h.n.fr k (by simp),h.i.fr k (by simp)⟩
theorem GW.next{w wr:World}{base mid kb nb ib nn:Nat}{a b:Value}{i:Int}{st:Sto}(h:GW w wr base mid kb a b nb ib nn i st)(i':Int){ib':Nat}(hb:wr.heap.size=ib'):
  GW w (wr.alloc (.cells #[.int .i64 i'] 3)) base mid kb a b nb ib' nn i' st:=by
 subst hb;have f:=(Fr.refl [] wr).alloc (.cells #[.int .i64 i'] 3);exact⟨h.f.trans (f.toB base),h.kp.go f,h.n.fr f (by simp),Whole.new wr 3 [.int .i64 i']⟩
def GaP(base kb:Nat)(r:Sto×Int×Int)(w:World)(e:Ending)(w':World):Prop:=
 e=.returned (.tuple #[.int .i64 r.2.1,.int .i64 r.2.2])∧FrB [] base w w'∧(r.2.2=0→Kp w' base kb r.1)
theorem zdf(s:Sto)(base mid kb:Nat)(a b:Value)(n:Int)(w:World)(ok:z2t s)(hb:base≤w.heap.size)(h:KpM w base mid kb a b s):
  Calls prog 28 #[.pointer (some ⟨kb,0,none⟩),.int .i64 n] w (GaP base kb (z0z s n) w):=by
 have F1:=hid ((Fr.refl [] w).alloc (.cells #[.int .i64 n] 3));have N1:=hid (Whole.new w 3 [.int .i64 n]);obtain⟨RA,rc,rfl⟩:=h.sg.form;have K1:=hid (h.go F1.out);obtain⟨k0,k1⟩:=two K1.out.k;have hsl:=ok.sle;by_cases hbad:0≤n∧n < s.segs.length
 ·obtain⟨nn,rfl⟩:∃nn:Nat,n=nn:=⟨n.toNat,by omega⟩;have hnn:nn < s.segs.length:=by omega
  obtain⟨l,hl⟩:∃l,s.segs[nn]? = some l:=⟨_,List.getElem?_eq_getElem hnn⟩;have hl4:=ok.rle l (List.mem_of_getElem? hl)
  have EG:z0z s nn=(zed nn (zf3 nn l.length s),((l.length:Nat):Int) - ((((zf3 nn l.length s).segs.getD nn []).length:Nat):Int),0):=by
   unfold z0z z6l;rw[if_pos hbad,Int.toNat_natCast,z1h hl]
  rw[EG];clear EG;obtain⟨T,hT⟩:∃T,T=zf3 nn l.length s:=⟨_,rfl⟩;rw[←hT];obtain⟨rg,rc',e⟩:=z50 h.sg.choose_spec.2.2 (by omega);cases e;have GI:=hid (show zpm nn s.segs.length T l.length s from⟨ok,hT.symm,rfl,l,hl,Nat.le_refl _⟩);obtain⟨vs,hv1,hv2,hv3⟩:=K1.out.sg;obtain⟨u,hu,hU⟩:=hv1.at_ nn l hl;obtain⟨LA,lc,rfl,-⟩:=z02 hU;obtain⟨qa,qf,qb,qc,qd⟩:=z4n hv3;have m1:=qa _ _ hu;have g0:(w.alloc (.cells #[.int .i64 nn] 3)).cell? ⟨w.heap.size,0,none⟩=some (.int .i64 nn):=N1.out.cell 0;have q1:decide ((nn:Int) < 0)=false:=by simp
  have q2:¬(nn:Int) < 0:=by omega
  have q3:decide ((nn:Int) ≥ (s.segs.length:Int))=false:=by simp;omega
  have q4:¬(nn:Int) ≥ (s.segs.length:Int):=by omega
  have jx0:(0:Int)≤(nn:Int):=by omega
  have jx1:(nn:Int) < (s.segs.length:Int):=by omega
  have GW1:=hid (show GW w (w.alloc (.cells #[.int .i64 nn] 3)) base mid kb a (.slice (some ⟨rg,0,none⟩) s.segs.length rc) w.heap.size w.heap.size nn nn s from⟨F1.out.toB base,K1.out,N1.out,N1.out⟩);generalize hN:s.segs.length=N at *;generalize hL:l.length=L at *;have q5:¬N≤nn:=by omega
  have q6:decide (N≤nn)=false:=decide_eq_false q5;unfold maxLen at qd;clear h hv1 hv2 hv3 hu hU qa qf qb K1 hT ok hN hl F1;go_enter Tryz.func28,Tryz.ntmps28;go_wp2;go_quiet (fail);go_wp2;go_quiet (fail);go_wp2;go_loopg [7] L (fun r p wr=>∃(k ib:Nat) (st:Sto),r=k∧k≤L∧p=.pointer (some ⟨ib,0,none⟩)∧zpm nn N T k st∧GW w wr base mid kb a (.slice (some ⟨rg,0,none⟩) N rc) w.heap.size ib nn ((k:Int) - 1) st)
  case atStart=>exact⟨L,_,s,rfl,Nat.le_refl _,rfl,GI.out,(GW1.out.go ((Fr.refl [] _).drewN _)).next _ (by simp)⟩
  case round=>
   obtain⟨k,ib,st,rfl,hk,rfl,gi,gw⟩:=hrel;have GI2:=hid gi;have GW2:=hid gw;clear k0 k1 g0 m1;cases gk with
   | zero=>
    obtain⟨ok,hT,hN,m,hm,-⟩:=gi;obtain rfl:st=T:=hT;rw[show(((0:Nat):Int) - 1)=-1 from rfl] at gw GW2;have hm4:=ok.rle m (List.mem_of_getElem? hm);have ci:wr.cell? ⟨ib,0,none⟩=some (.int .i64 (-1)):=gw.i.cell 0;have cn:wr.cell? ⟨w.heap.size,0,none⟩=some (.int .i64 nn):=gw.n.cell 0;have e1:wr.cell? ⟨kb,1,none⟩=some (.slice (some ⟨rg,0,none⟩) N rc):=gw.kp.k.cell 1;obtain⟨vs,hv1,hv2,hv3⟩:=gw.kp.sg;obtain⟨u,hu,hU⟩:=hv1.at_ nn m hm;rw[hN] at hv3;obtain⟨LA,lc,rfl,-⟩:=z02 hU;obtain⟨qa,qf,qb,-⟩:=z4n hv3;have m1:=qa _ _ hu;have GD:=hid (show(st.segs.getD nn []).length=m.length from by rw[z1h hm]);have EE:zed nn st=if m.length=0∧nn+1 < N then ⟨st.slots.map (mvS nn),st.segs.eraseIdx nn⟩ else st:=by unfold zed;rw[z1h hm,hN]
    obtain⟨ml,hml⟩:∃ml,ml=m.length:=⟨_,rfl⟩;have e2:wr.cell? ⟨rg,nn,none⟩=some (.slice LA ml lc):=by rw[hml];exact m1
    rw[←hml] at EE hm4 GD;have hw5:IntKind.i64.wrap ((L:Int) - (ml:Int))=(L:Int) - (ml:Int):=by rw[IntKind.wrap_i64];omega
    have hw6:IntKind.i64.wrap ((N:Int) - 1)=(N:Int) - 1:=by rw[IntKind.wrap_i64];omega
    by_cases h0:ml=0
    ·by_cases h1:nn+1 < N
     ·rw[if_pos ⟨h0,h1⟩] at EE;have HE:=hid EE;have HV1:=hid hv1;have HV2:=hid hv2;have HV3:=hid hv3;have HN:=hid hN;have OK:=hid ok;have SM:=hid (z0n ok).slots;have p1:(ml:Int)=0:=by omega
      have p2:((ml:Int)==0)=true:=by simpa using p1
      have p3:(nn:Int) < (N:Int) - 1:=by omega
      have p4:decide ((nn:Int) < (N:Int) - 1)=true:=decide_eq_true p3
      have DL:=hid (fun W (hW:Fr [] wr W)=>(show Calls prog 49 #[.slice (some ⟨rg,0,none⟩) N rc,.int .i64 nn,.int .i64 ((nn:Int)+1)] W (zcn (nn+(N - (nn+1))) (vs.take (nn * 1)++vs.drop ((nn+1) * 1)) mid (.slice (some ⟨rg,0,none⟩) N rc) W) from
       zih N nn (nn+1) vs mid (.slice (some ⟨rg,0,none⟩) N rc) W (by omega) (by omega) (by omega) (z05 hv3 hW (by simp)) (zk5 hv1)))
      have hw7:IntKind.i64.wrap ((nn:Int)+1)=(nn:Int)+1:=by rw[IntKind.wrap_i64];omega
      clear gw hv1 hv2 hv3 hu hU qa qf ok hN hm hml m1 EE;subst h0;go_wp2;go_quiet (fail);have FQ:=hid ((Fr.refl [] wr).drewN nq);have e1':=FQ.out.cell e1 (by simp);have e2':=FQ.out.cell e2 (by simp);have cn':=FQ.out.cell cn (by simp);clear e1 e2 cn;generalize wr.drewN nq=wq at *;go_wp2;go_quiet (fail);have FQ2:=hid (FQ.out.trans ((Fr.refl [] wq).drewN nq));have e1:=FQ2.out.cell (GW2.out.kp.k.cell 1) (by simp);have cn:(wq.drewN nq).cell? ⟨w.heap.size,0,none⟩=some (.int .i64 nn):=FQ2.out.cell (GW2.out.n.cell 0) (by simp);have e1:(wq.drewN nq).cell? ⟨kb,1,none⟩=some (.slice (some ⟨rg,0,none⟩) N rc):=e1;clear e1' e2' cn';generalize wq.drewN nq=wt at *;have G1:=hid (GW2.out.go FQ2.out);go_upto_region 14 with fail;refine z5j (n:=13) (fun wx=>wx.cell? ⟨kb,1,none⟩=some (.slice (some ⟨rg,0,none⟩) N rc)∧wx.cell? ⟨w.heap.size,0,none⟩=some (.int .i64 nn)) (by rfl) ?_;have hS:(fun wx=>wx.cell? ⟨kb,1,none⟩=some (.slice (some ⟨rg,0,none⟩) N rc)∧wx.cell? ⟨w.heap.size,0,none⟩=some (.int .i64 nn)) wt.drew:=⟨e1,cn⟩;refine z00 (i:=0) (v:=?vb0) rfl (by kernel_rfl) (by kernel_rfl) (by kernel_rfl) (by kernel_rfl) (by decide) (fun _ _ _ h=>h) hS (Or.inl ⟨by rfl,?hyb0⟩) ?restb0
      case hyb0=>
       intro wS hSw;obtain⟨s0,s1⟩:=hSw
       go_simp
       all_goals with_reducible rfl
      try simp only[Act.put,List.setIfInBounds_toArray,List.set_cons_zero,List.set_cons_succ]
      refine z00 (i:=1) (v:=?vb1) rfl (by kernel_rfl) (by kernel_rfl) (by kernel_rfl) (by kernel_rfl) (by decide) (fun _ _ _ h=>h) hS (Or.inl ⟨by rfl,?hyb1⟩) ?restb1
      case hyb1=>
       intro wS hSw;obtain⟨s0,s1⟩:=hSw
       go_simp
       all_goals with_reducible rfl
      try simp only[Act.put,List.setIfInBounds_toArray,List.set_cons_zero,List.set_cons_succ]
      refine z00 (i:=2) (v:=?vb2) rfl (by kernel_rfl) (by kernel_rfl) (by kernel_rfl) (by kernel_rfl) (by decide) (fun _ _ _ h=>h) hS (Or.inl ⟨by rfl,?hyb2⟩) ?restb2
      case hyb2=>
       intro wS hSw;obtain⟨s0,s1⟩:=hSw
       go_simp
       all_goals with_reducible rfl
      try simp only[Act.put,List.setIfInBounds_toArray,List.set_cons_zero,List.set_cons_succ]
      refine z00 (i:=3) (v:=?vb3) rfl (by kernel_rfl) (by kernel_rfl) (by kernel_rfl) (by kernel_rfl) (by decide) (fun _ _ _ h=>h) hS (Or.inl ⟨by rfl,?hyb3⟩) ?restb3
      case hyb3=>
       intro wS hSw;obtain⟨s0,s1⟩:=hSw
       go_simp
       all_goals with_reducible rfl
      try simp only[Act.put,List.setIfInBounds_toArray,List.set_cons_zero,List.set_cons_succ]
      refine z00 (i:=4) (v:=?vb4) rfl (by kernel_rfl) (by kernel_rfl) (by kernel_rfl) (by kernel_rfl) (by decide) (fun _ _ _ h=>h) hS (Or.inl ⟨by rfl,?hyb4⟩) ?restb4
      case hyb4=>
       intro wS hSw;obtain⟨s0,s1⟩:=hSw
       go_simp
       all_goals with_reducible rfl
      try simp only[Act.put,List.setIfInBounds_toArray,List.set_cons_zero,List.set_cons_succ]
      refine z00 (i:=5) (v:=?vb5) rfl (by kernel_rfl) (by kernel_rfl) (by kernel_rfl) (by kernel_rfl) (by decide) (fun _ _ _ h=>h) hS (Or.inl ⟨by rfl,?hyb5⟩) ?restb5
      case hyb5=>
       intro wS hSw;obtain⟨s0,s1⟩:=hSw
       go_simp
       all_goals with_reducible rfl
      try simp only[Act.put,List.setIfInBounds_toArray,List.set_cons_zero,List.set_cons_succ]
      refine z00 (i:=6) (v:=?vb6) rfl (by kernel_rfl) (by kernel_rfl) (by kernel_rfl) (by kernel_rfl) (by decide) (fun _ _ _ h=>h) hS (Or.inl ⟨by rfl,?hyb6⟩) ?restb6
      case hyb6=>
       intro wS hSw;obtain⟨s0,s1⟩:=hSw
       go_simp
       all_goals with_reducible rfl
      try simp only[Act.put,List.setIfInBounds_toArray,List.set_cons_zero,List.set_cons_succ]
      refine z00 (i:=7) (v:=?vb7) rfl (by kernel_rfl) (by kernel_rfl) (by kernel_rfl) (by kernel_rfl) (by decide) (fun _ _ _ h=>h) hS (Or.inl ⟨by rfl,?hyb7⟩) ?restb7
      case hyb7=>
       intro wS hSw;obtain⟨s0,s1⟩:=hSw
       go_simp
       all_goals with_reducible rfl
      try simp only[Act.put,List.setIfInBounds_toArray,List.set_cons_zero,List.set_cons_succ]
      refine z00 (i:=8) (v:=?vb8) rfl (by kernel_rfl) (by kernel_rfl) (by kernel_rfl) (by kernel_rfl) (by decide) (fun _ _ _ h=>h) hS (Or.inl ⟨by rfl,?hyb8⟩) ?restb8
      case hyb8=>
       intro wS hSw;obtain⟨s0,s1⟩:=hSw
       go_simp
       all_goals with_reducible rfl
      try simp only[Act.put,List.setIfInBounds_toArray,List.set_cons_zero,List.set_cons_succ]
      refine z10 (k:=9) (by kernel_rfl) rfl (fun K9 hK9=>?_)
      go_simp
      go_at_call 49;refine(DL.out _ FQ2.out.drew).mono ?_;rintro e3 w3 ⟨v3,rfl,ho3,hg3,hb3⟩;obtain⟨A5,c5,rfl,-⟩:=z02 ho3;have F3:=hid (show Fr [rg] wt w3 from z01 (z1q hg3));have HO3:=hid ho3;have HB3:=hid hb3;have HVT:=hid (z05 HV3.out FQ2.out (by simp));have hkr:kb≠rg:=fun e=>z0g HVT.out G1.out.kp.k (by decide) (by rw[e];rfl);have hnr:w.heap.size≠rg:=fun e=>z0g HVT.out G1.out.n (by decide) (by rw[e];rfl);have S3:=hid (show(fun wx=>wx.cell? ⟨kb,1,none⟩=some (.slice (some ⟨rg,0,none⟩) N rc)∧wx.cell? ⟨w.heap.size,0,none⟩=some (.int .i64 nn)) w3 from⟨F3.out.cell e1 (by simpa using hkr),F3.out.cell cn (by simpa using hnr)⟩);have KW3:=hid (G1.out.kp.k.fr F3.out (by simpa using hkr));have N3:=hid (G1.out.n.fr F3.out (by simpa using hnr));refine hK9.out _ _ (fun _=>S3.out) ?_;clear hK9 hS ho3 hg3 hb3
      try simp only[Act.put,List.setIfInBounds_toArray,List.set_cons_zero,List.set_cons_succ]
      refine z10 (k:=10) (by kernel_rfl) rfl (fun K10 hK10=>?_)
      go_simp
      refine hK10.out _ _ (fun _=>S3.out) ?_;clear hK10
      try simp only[Act.put,List.setIfInBounds_toArray,List.set_cons_zero,List.set_cons_succ]
      refine z10 (k:=11) (by kernel_rfl) rfl (fun K11 hK11=>?_)
      go_simp
      refine hK11.out _ _ (fun _=>S3.out) ?_;clear hK11
      try simp only[Act.put,List.setIfInBounds_toArray,List.set_cons_zero,List.set_cons_succ]
      refine z10 (k:=12) (by kernel_rfl) rfl (fun K12 hK12=>?_)
      go_simp
      refine hK12.out _ _ (fun _=>S3.out) ?_;clear hK12
      try simp only[Act.put,List.setIfInBounds_toArray,List.set_cons_zero,List.set_cons_succ]
      have yk:=S3.out.1;have zk:w3.frozen? ⟨kb,1,none⟩=false:=KW3.out.frozen 1;refine z10 (k:=13) (by kernel_rfl) rfl (fun K13 hK13=>?_)
      go_simp
      refine hK13.out _ _ (fun h=>absurd rfl h) ?_;clear hK13
      try simp only[Act.put,List.setIfInBounds_toArray,List.set_cons_zero,List.set_cons_succ]
      refine z5o (by kernel_rfl) ?_;have K6:=hid (show Whole (w3.setCell ⟨kb,1,none⟩ (.slice A5 (nn+(N - (nn+1))) c5)) kb _ [a,.slice A5 (nn+(N - (nn+1))) c5] from KW3.out.set_ 1 _)
      have N6:=hid (N3.out.far (p:=⟨kb,1,none⟩) (fun e=>by
       have h1:=N3.out;have e:w.heap.size=kb:=e;rw[e] at h1;exact absurd (zfv h1 KW3.out) (by decide)) (.slice A5 (nn+(N - (nn+1))) c5))
      have S6:=hid (((G1.out.kp.sl.row HVT.out ⟨z3w,by decide⟩ (show Fr (z1o (.slice (some ⟨rg,0,none⟩) N rc)) wt w3 from F3.out)).far (i:=1) KW3.out ⟨by decide,by decide⟩ (.slice A5 (nn+(N - (nn+1))) c5)));have EL:(st.segs.eraseIdx nn).length=nn+(N - (nn+1)):=by have:=HN.out;rw[List.length_eraseIdx,if_pos (by omega)];omega
      have G3:=hid (show z44 w3 mid (.slice A5 (nn+(N - (nn+1))) c5) (st.segs.eraseIdx nn) from⟨vs.eraseIdx nn,(HV1.out.imp fun u x h=>z05 (z05 h FQ2.out (by simp)) F3.out (fun k hk hm=>z0i h HV3.out (by decide) k hk hm)).erase nn,HV2.out.erase nn,by
       have:=HO3.out;rw[Nat.mul_one,Nat.mul_one,←List.eraseIdx_eq_take_drop_succ] at this;rw[EL];exact this⟩)
      have G6:=hid (G3.out.far (i:=1) KW3.out ⟨by decide,by decide⟩ (.slice A5 (nn+(N - (nn+1))) c5));have f6:=hid ((FrB.refl [] base w3).setCell (p:=⟨kb,1,none⟩) (.inr GW2.out.kp.kb) (.slice A5 (nn+(N - (nn+1))) c5));have KP6:=hid (show KpM (w3.setCell ⟨kb,1,none⟩ (.slice A5 (nn+(N - (nn+1))) c5)) base mid kb a (.slice A5 (nn+(N - (nn+1))) c5) ⟨st.slots,st.segs.eraseIdx nn⟩ from⟨K6.out,GW2.out.kp.m,GW2.out.kp.kb,S6.out,G6.out,Nat.le_trans G1.out.kp.mz (Nat.le_trans F3.out.size f6.out.size)⟩)
      have FB6:=hid (show FrB [] base w (w3.setCell ⟨kb,1,none⟩ (.slice A5 (nn+(N - (nn+1))) c5)) from
       (G1.out.f.trans ((F3.out.toB base).more (fun k hk=>.inr (by simp at hk;subst hk;exact Nat.le_trans GW2.out.kp.m qb)))).trans f6.out)
      have MV:=hid (zpw st nn base mid kb a (.slice A5 (nn+(N - (nn+1))) c5) w.heap.size (w3.setCell ⟨kb,1,none⟩ (.slice A5 (nn+(N - (nn+1))) c5)) OK.out SM.out _ KP6.out N6.out)
      have SC6:=hid (fun k (hk:k∈z1o a)=>(show base≤k from by
       obtain⟨rs,-,hro⟩:=KP6.out.sl;exact z2o hro hk))
      clear e1 cn yk zk qb;generalize w3.setCell ⟨kb,1,none⟩ (.slice A5 (nn+(N - (nn+1))) c5)=w6 at *;go_wp2_with fail;refine MV.out.mono ?_;rintro e7 w7 ⟨rfl,hk7,f7⟩;have FB7:=hid (FB6.out.trans ((f7.toB base).more (fun k hk=>.inr (SC6.out k hk))));have K7:=hid hk7;clear hk7 f7;go_wp2;go_ret2;show GaP base kb (zed nn st,(L:Int) - ((st.segs.getD nn []).length:Nat),0) w _ _;rw[HE.out,GD.out];exact⟨rfl,FB7.out,fun _=>⟨_,_,_,K7.out⟩⟩
     ·rw[if_neg (fun h=>h1 h.2)] at EE;have HE:=hid EE;have p1:(ml:Int)=0:=by omega
      have p2:((ml:Int)==0)=true:=by simpa using p1
      have p3:¬(nn:Int) < (N:Int) - 1:=by omega
      have p4:decide ((nn:Int) < (N:Int) - 1)=false:=decide_eq_false p3;clear gw hv1 hv2 hv3 hu hU qa qf ok hN hm hml m1 EE;subst h0;go_wp2;go_quiet (fail);go_wp2;go_quiet (fail);go_wp2;go_ret2;show GaP base kb (zed nn st,(L:Int) - ((st.segs.getD nn []).length:Nat),0) w _ _;rw[HE.out,GD.out];exact⟨rfl,GW2.out.f.trans ((((Fr.refl [] wr).drewN _).drewN _).toB base),fun _=>⟨_,_,_,GW2.out.kp.go (((Fr.refl [] wr).drewN _).drewN _)⟩⟩
    ·rw[if_neg (fun h=>h0 h.1)] at EE;have HE:=hid EE;have p1:¬(ml:Int)=0:=by omega
     have p2:((ml:Int)==0)=false:=by simpa using p1
     clear gw hv1 hv2 hv3 hu hU qa qf ok hN hm hml m1 EE;go_wp2;go_quiet (fail);go_wp2;go_quiet (fail);go_wp2;go_ret2;show GaP base kb (zed nn st,(L:Int) - ((st.segs.getD nn []).length:Nat),0) w _ _;rw[HE.out,GD.out];exact⟨rfl,GW2.out.f.trans ((((Fr.refl [] wr).drewN _).drewN _).toB base),fun _=>⟨_,_,_,GW2.out.kp.go (((Fr.refl [] wr).drewN _).drewN _)⟩⟩
   | succ j=>
    rw[show(((j+1:Nat):Int) - 1)=j from by omega] at gw GW2;obtain⟨ok,hT,hN,m,hm,hjm⟩:=gi;have hm4:=ok.rle m (List.mem_of_getElem? hm);have hn16:=ok.le
    have ci:wr.cell? ⟨ib,0,none⟩=some (.int .i64 j):=by
     exact gw.i.cell 0
    have cn:wr.cell? ⟨w.heap.size,0,none⟩=some (.int .i64 nn):=gw.n.cell 0;have hj4:j < 4:=by omega
    have ME:=hid (ziz st base mid kb a (.slice (some ⟨rg,0,none⟩) N rc) nn j wr (by omega) gw.kp);have GS:=hid GI2.out.step;cases hM:z1j st.slots nn j with
    | true=>
     rw[show zaq nn j st=st from if_pos hM] at GS;rw[hM] at ME;clear gw hT hm hM ok hN;go_wp2_with fail;refine ME.out.mono ?_;rintro e1 w1 ⟨rfl,f1⟩;have G1:=hid (GW2.out.go f1);have ci1:=f1.cell ci (by simp);clear f1 ci cn;go_wp2;go_roundg j
     case measure=>omega
     case rel=>exact⟨j,_,st,rfl,by omega,rfl,GS.out,G1.out.next _ rfl⟩
    | false=>
     have EA:zaq nn j st=⟨st.slots.map (mvR nn j),st.segs.set nn (m.eraseIdx j)⟩:=by
      unfold zaq;rw[if_neg (by rw[hM];decide),z1h hm]
     rw[EA] at GS;rw[hM] at ME;have SM:=hid (z0n ok).slots;have OK:=hid ok;have HN:=hid hN;have HM:=hid hm;clear gw hT hM ok hN hm EA;go_wp2_with fail;refine ME.out.mono ?_;rintro e1 w1 ⟨rfl,f1⟩;have G1:=hid (GW2.out.go f1);have ci1:=f1.cell ci (by simp);have cn1:=f1.cell cn (by simp);clear f1 ci cn;obtain⟨vs,hv1,hv2,hv3⟩:=G1.out.kp.sg;obtain⟨u,hu,hU⟩:=hv1.at_ nn m HM.out;rw[HN.out] at hv3;obtain⟨LA,lc,rfl,-⟩:=z02 hU;obtain⟨qa,qf,qb,qc1,qd1⟩:=z4n hv3;have m1:=qa _ _ hu;have e1:=G1.out.kp.k.cell 1;have HV1:=hid hv1;have HV2:=hid hv2;have HV3:=hid hv3;have HU:=hid hu;have HT:=hid hU;have zr:=qf nn;obtain⟨ml,hml⟩:∃ml,ml=m.length:=⟨_,rfl⟩;have HML:=hid hml;have e1:w1.cell? ⟨kb,1,none⟩=some (.slice (some ⟨rg,0,none⟩) N rc):=e1;have e2:w1.cell? ⟨rg,nn,none⟩=some (.slice LA ml lc):=by rw[hml];exact m1
     have hjm:j < ml:=by omega
     have hm4:ml≤4:=by omega
     have DL:=hid (fun W (hW:Fr [] w1 W)=>(show Calls prog 46 #[.slice LA ml lc,.int .i64 j,.int .i64 ((j:Int)+1)] W (zfn (j+(ml - (j+1))) ((z04 m).take (j * 1)++(z04 m).drop ((j+1) * 1)) mid (.slice LA ml lc) W) from
      zka ml j (j+1) (z04 m) mid (.slice LA ml lc) W (by omega) (by omega) (by omega) (by have:=z05 hU hW (by simp);rw[←hml] at this;exact this) (z3b m)))
     have hw1:IntKind.i64.wrap ((j:Int)+1)=(j:Int)+1:=by rw[IntKind.wrap_i64];omega
     clear hv1 hv2 hv3 hu hU qa qf hml m1 qc1 qd1 hn16;go_upto_region 8 with fail;refine z5j (n:=19) (fun wx=>wx.cell? ⟨kb,1,none⟩=some (.slice (some ⟨rg,0,none⟩) N rc)∧wx.cell? ⟨rg,nn,none⟩=some (.slice LA ml lc)∧wx.cell? ⟨w.heap.size,0,none⟩=some (.int .i64 nn)∧wx.cell? ⟨ib,0,none⟩=some (.int .i64 j)) (by rfl) ?_;have hS:(fun wx=>wx.cell? ⟨kb,1,none⟩=some (.slice (some ⟨rg,0,none⟩) N rc)∧wx.cell? ⟨rg,nn,none⟩=some (.slice LA ml lc)∧wx.cell? ⟨w.heap.size,0,none⟩=some (.int .i64 nn)∧wx.cell? ⟨ib,0,none⟩=some (.int .i64 j)) w1.drew:=⟨e1,e2,cn1,ci1⟩;refine z00 (i:=0) (v:=?va0) rfl (by kernel_rfl) (by kernel_rfl) (by kernel_rfl) (by kernel_rfl) (by decide) (fun _ _ _ h=>h) hS (Or.inl ⟨by rfl,?hya0⟩) ?resta0
     case hya0=>
      intro wS hSw;obtain⟨s0,s1,s2,s3⟩:=hSw
      go_simp
      all_goals with_reducible rfl
     try simp only[Act.put,List.setIfInBounds_toArray,List.set_cons_zero,List.set_cons_succ]
     refine z00 (i:=1) (v:=?va1) rfl (by kernel_rfl) (by kernel_rfl) (by kernel_rfl) (by kernel_rfl) (by decide) (fun _ _ _ h=>h) hS (Or.inl ⟨by rfl,?hya1⟩) ?resta1
     case hya1=>
      intro wS hSw;obtain⟨s0,s1,s2,s3⟩:=hSw
      go_simp
      all_goals with_reducible rfl
     try simp only[Act.put,List.setIfInBounds_toArray,List.set_cons_zero,List.set_cons_succ]
     refine z00 (i:=2) (v:=?va2) rfl (by kernel_rfl) (by kernel_rfl) (by kernel_rfl) (by kernel_rfl) (by decide) (fun _ _ _ h=>h) hS (Or.inl ⟨by rfl,?hya2⟩) ?resta2
     case hya2=>
      intro wS hSw;obtain⟨s0,s1,s2,s3⟩:=hSw
      go_simp
      all_goals with_reducible rfl
     try simp only[Act.put,List.setIfInBounds_toArray,List.set_cons_zero,List.set_cons_succ]
     refine z00 (i:=3) (v:=?va3) rfl (by kernel_rfl) (by kernel_rfl) (by kernel_rfl) (by kernel_rfl) (by decide) (fun _ _ _ h=>h) hS (Or.inl ⟨by rfl,?hya3⟩) ?resta3
     case hya3=>
      intro wS hSw;obtain⟨s0,s1,s2,s3⟩:=hSw
      go_simp
      all_goals with_reducible rfl
     try simp only[Act.put,List.setIfInBounds_toArray,List.set_cons_zero,List.set_cons_succ]
     refine z00 (i:=4) (v:=?va4) rfl (by kernel_rfl) (by kernel_rfl) (by kernel_rfl) (by kernel_rfl) (by decide) (fun _ _ _ h=>h) hS (Or.inl ⟨by rfl,?hya4⟩) ?resta4
     case hya4=>
      intro wS hSw;obtain⟨s0,s1,s2,s3⟩:=hSw
      go_simp
      all_goals with_reducible rfl
     try simp only[Act.put,List.setIfInBounds_toArray,List.set_cons_zero,List.set_cons_succ]
     refine z00 (i:=5) (v:=?va5) rfl (by kernel_rfl) (by kernel_rfl) (by kernel_rfl) (by kernel_rfl) (by decide) (fun _ _ _ h=>h) hS (Or.inl ⟨by rfl,?hya5⟩) ?resta5
     case hya5=>
      intro wS hSw;obtain⟨s0,s1,s2,s3⟩:=hSw
      go_simp
      all_goals with_reducible rfl
     try simp only[Act.put,List.setIfInBounds_toArray,List.set_cons_zero,List.set_cons_succ]
     refine z00 (i:=6) (v:=?va6) rfl (by kernel_rfl) (by kernel_rfl) (by kernel_rfl) (by kernel_rfl) (by decide) (fun _ _ _ h=>h) hS (Or.inl ⟨by rfl,?hya6⟩) ?resta6
     case hya6=>
      intro wS hSw;obtain⟨s0,s1,s2,s3⟩:=hSw
      go_simp
      all_goals with_reducible rfl
     try simp only[Act.put,List.setIfInBounds_toArray,List.set_cons_zero,List.set_cons_succ]
     refine z00 (i:=7) (v:=?va7) rfl (by kernel_rfl) (by kernel_rfl) (by kernel_rfl) (by kernel_rfl) (by decide) (fun _ _ _ h=>h) hS (Or.inl ⟨by rfl,?hya7⟩) ?resta7
     case hya7=>
      intro wS hSw;obtain⟨s0,s1,s2,s3⟩:=hSw
      go_simp
      all_goals with_reducible rfl
     try simp only[Act.put,List.setIfInBounds_toArray,List.set_cons_zero,List.set_cons_succ]
     refine z00 (i:=8) (v:=?va8) rfl (by kernel_rfl) (by kernel_rfl) (by kernel_rfl) (by kernel_rfl) (by decide) (fun _ _ _ h=>h) hS (Or.inl ⟨by rfl,?hya8⟩) ?resta8
     case hya8=>
      intro wS hSw;obtain⟨s0,s1,s2,s3⟩:=hSw
      go_simp
      all_goals with_reducible rfl
     try simp only[Act.put,List.setIfInBounds_toArray,List.set_cons_zero,List.set_cons_succ]
     refine z00 (i:=9) (v:=?va9) rfl (by kernel_rfl) (by kernel_rfl) (by kernel_rfl) (by kernel_rfl) (by decide) (fun _ _ _ h=>h) hS (Or.inl ⟨by rfl,?hya9⟩) ?resta9
     case hya9=>
      intro wS hSw;obtain⟨s0,s1,s2,s3⟩:=hSw
      go_simp
      all_goals with_reducible rfl
     try simp only[Act.put,List.setIfInBounds_toArray,List.set_cons_zero,List.set_cons_succ]
     refine z00 (i:=10) (v:=?va10) rfl (by kernel_rfl) (by kernel_rfl) (by kernel_rfl) (by kernel_rfl) (by decide) (fun _ _ _ h=>h) hS (Or.inl ⟨by rfl,?hya10⟩) ?resta10
     case hya10=>
      intro wS hSw;obtain⟨s0,s1,s2,s3⟩:=hSw
      go_simp
      all_goals with_reducible rfl
     try simp only[Act.put,List.setIfInBounds_toArray,List.set_cons_zero,List.set_cons_succ]
     refine z00 (i:=11) (v:=?va11) rfl (by kernel_rfl) (by kernel_rfl) (by kernel_rfl) (by kernel_rfl) (by decide) (fun _ _ _ h=>h) hS (Or.inl ⟨by rfl,?hya11⟩) ?resta11
     case hya11=>
      intro wS hSw;obtain⟨s0,s1,s2,s3⟩:=hSw
      go_simp
      all_goals with_reducible rfl
     try simp only[Act.put,List.setIfInBounds_toArray,List.set_cons_zero,List.set_cons_succ]
     refine z00 (i:=12) (v:=?va12) rfl (by kernel_rfl) (by kernel_rfl) (by kernel_rfl) (by kernel_rfl) (by decide) (fun _ _ _ h=>h) hS (Or.inl ⟨by rfl,?hya12⟩) ?resta12
     case hya12=>
      intro wS hSw;obtain⟨s0,s1,s2,s3⟩:=hSw
      go_simp
      all_goals with_reducible rfl
     try simp only[Act.put,List.setIfInBounds_toArray,List.set_cons_zero,List.set_cons_succ]
     refine z00 (i:=13) (v:=?va13) rfl (by kernel_rfl) (by kernel_rfl) (by kernel_rfl) (by kernel_rfl) (by decide) (fun _ _ _ h=>h) hS (Or.inl ⟨by rfl,?hya13⟩) ?resta13
     case hya13=>
      intro wS hSw;obtain⟨s0,s1,s2,s3⟩:=hSw
      go_simp
      all_goals with_reducible rfl
     try simp only[Act.put,List.setIfInBounds_toArray,List.set_cons_zero,List.set_cons_succ]
     refine z00 (i:=14) (v:=?va14) rfl (by kernel_rfl) (by kernel_rfl) (by kernel_rfl) (by kernel_rfl) (by decide) (fun _ _ _ h=>h) hS (Or.inl ⟨by rfl,?hya14⟩) ?resta14
     case hya14=>
      intro wS hSw;obtain⟨s0,s1,s2,s3⟩:=hSw
      go_simp
      all_goals with_reducible rfl
     try simp only[Act.put,List.setIfInBounds_toArray,List.set_cons_zero,List.set_cons_succ]
     refine z00 (i:=15) (v:=?va15) rfl (by kernel_rfl) (by kernel_rfl) (by kernel_rfl) (by kernel_rfl) (by decide) (fun _ _ _ h=>h) hS (Or.inl ⟨by rfl,?hya15⟩) ?resta15
     case hya15=>
      intro wS hSw;obtain⟨s0,s1,s2,s3⟩:=hSw
      go_simp
      all_goals with_reducible rfl
     try simp only[Act.put,List.setIfInBounds_toArray,List.set_cons_zero,List.set_cons_succ]
     refine z00 (i:=16) (v:=?va16) rfl (by kernel_rfl) (by kernel_rfl) (by kernel_rfl) (by kernel_rfl) (by decide) (fun _ _ _ h=>h) hS (Or.inl ⟨by rfl,?hya16⟩) ?resta16
     case hya16=>
      intro wS hSw;obtain⟨s0,s1,s2,s3⟩:=hSw
      go_simp
      all_goals with_reducible rfl
     try simp only[Act.put,List.setIfInBounds_toArray,List.set_cons_zero,List.set_cons_succ]
     refine z10 (k:=17) (by kernel_rfl) rfl (fun K1 hK1=>?_)
     go_simp
     go_at_call 46;refine(DL.out _ (Fr.refl [] w1).drew).mono ?_;rintro e3 w3 ⟨v3,rfl,ho3,hg3,hb3⟩;obtain⟨A5,c5,rfl,-⟩:=z02 ho3;have F3:=hid (z01 (z1q hg3));have HO3:=hid ho3;have HB3:=hid hb3;have HT':=hid (show w1.ownsRow mid 9 1 (.slice LA ml lc) ml (z04 m) from by rw[HML.out];exact HT.out);have nk:=fun hm=>z32 HT'.out G1.out.kp.k (by decide) hm;have nn1:=fun hm=>z32 HT'.out G1.out.n (by decide) hm;have ni1:=fun hm=>z32 HT'.out G1.out.i (by decide) hm;have nr:=z0i HV3.out HT'.out (by decide) rg rfl;have S3:=hid (show(fun wx=>wx.cell? ⟨kb,1,none⟩=some (.slice (some ⟨rg,0,none⟩) N rc)∧wx.cell? ⟨rg,nn,none⟩=some (.slice LA ml lc)∧wx.cell? ⟨w.heap.size,0,none⟩=some (.int .i64 nn)∧wx.cell? ⟨ib,0,none⟩=some (.int .i64 j)) w3 from⟨F3.out.cell e1 nk,F3.out.cell e2 nr,F3.out.cell cn1 nn1,F3.out.cell ci1 ni1⟩);refine hK1.out _ _ (fun _=>S3.out) ?_;clear hK1 hS ho3 hg3 hb3
     try simp only[Act.put,List.setIfInBounds_toArray,List.set_cons_zero,List.set_cons_succ]
     refine z10 (k:=18) (by kernel_rfl) rfl (fun K2 hK2=>?_)
     go_simp
     refine hK2.out _ _ (fun _=>S3.out) ?_;clear hK2
     try simp only[Act.put,List.setIfInBounds_toArray,List.set_cons_zero,List.set_cons_succ]
     have R3:=hid (z05 HV3.out F3.out (fun k hk hm=>by cases hk;exact nr hm));have KW3:=hid (G1.out.kp.k.fr F3.out nk);have N3:=hid (G1.out.n.fr F3.out nn1);have I3:=hid (G1.out.i.fr F3.out ni1);have zr3:=(z4n R3.out).2.1 nn;have yr3:=S3.out.2.1;refine z10 (k:=19) (by kernel_rfl) rfl (fun K3 hK3=>?_)
     go_simp
     refine hK3.out _ _ (fun h=>absurd rfl h) ?_;clear hK3
     try simp only[Act.put,List.setIfInBounds_toArray,List.set_cons_zero,List.set_cons_succ]
     refine z5o (by kernel_rfl) ?_;have hkr:kb≠rg:=fun e=>z0g R3.out KW3.out (by decide) (by rw[e];rfl);have hnr:w.heap.size≠rg:=fun e=>z0g R3.out N3.out (by decide) (by rw[e];rfl);have hir:ib≠rg:=fun e=>z0g R3.out I3.out (by decide) (by rw[e];rfl);have fr6:=hid (show Fr [rg] w3 (w3.setCell ⟨rg,nn,none⟩ (.slice A5 (j+(ml - (j+1))) c5)) from(Fr.refl [rg] w3).setCell (.inl (by simp)) _);have K6:=hid (KW3.out.fr fr6.out (by simpa using hkr));have N6:=hid (N3.out.fr fr6.out (by simpa using hnr));have I6:=hid (I3.out.fr fr6.out (by simpa using hir))
     have S6:=hid (show z14 (w3.setCell ⟨rg,nn,none⟩ (.slice A5 (j+(ml - (j+1))) c5)) base mid a st.slots from
      ((G1.out.kp.sl.fr F3.out (fun k hk=>z2o HT'.out hk) (fun k hk hm=>by
        obtain⟨rs,-,hro⟩:=G1.out.kp.sl;exact z0i hro HT'.out (by decide) k hk hm)).row R3.out ⟨z3w,by decide⟩ fr6.out))
     have EL:(m.eraseIdx j).length=j+(ml - (j+1)):=by have:=HML.out;rw[List.length_eraseIdx,if_pos (by omega)];omega
     have G6:=hid (show z44 (w3.setCell ⟨rg,nn,none⟩ (.slice A5 (j+(ml - (j+1))) c5)) mid (.slice (some ⟨rg,0,none⟩) N rc) (st.segs.set nn (m.eraseIdx j)) from by
      have:=z44.put (n:=nn) (x:=.slice A5 (j+(ml - (j+1))) c5) (l:=m.eraseIdx j) HV1.out HV2.out (by have:=HU.out;rw[←HML.out] at this;exact this) (by rw[HN.out];exact HV3.out) F3.out (by
       unfold TxO;rw[EL,zck];exact HO3.out) (fun k hk=>by
       rw[HB3.out] at hk;exact .inl (zfo hk))
      rw[List.length_set,HN.out] at this;exact this)
     have KP6:=hid (show KpM (w3.setCell ⟨rg,nn,none⟩ (.slice A5 (j+(ml - (j+1))) c5)) base mid kb a (.slice (some ⟨rg,0,none⟩) N rc) ⟨st.slots,st.segs.set nn (m.eraseIdx j)⟩ from⟨K6.out,G1.out.kp.m,G1.out.kp.kb,S6.out,G6.out,Nat.le_trans G1.out.kp.mz (Nat.le_trans F3.out.size fr6.out.size)⟩)
     have FB6:=hid (show FrB [] base w (w3.setCell ⟨rg,nn,none⟩ (.slice A5 (j+(ml - (j+1))) c5)) from
      (G1.out.f.trans ((F3.out.toB base).more (fun k hk=>.inr (Nat.le_trans G1.out.kp.m (z2o HT'.out hk))))).setCell (p:=⟨rg,nn,none⟩) (.inr (Nat.le_trans G1.out.kp.m qb)) _)
     have MV:=hid (zpc st nn j base mid kb a (.slice (some ⟨rg,0,none⟩) N rc) w.heap.size ib (w3.setCell ⟨rg,nn,none⟩ (.slice A5 (j+(ml - (j+1))) c5)) OK.out SM.out _ KP6.out N6.out I6.out);have SA6:=hid (KP6.out.slA N6.out (by decide));have SB6:=hid (KP6.out.slA I6.out (by decide))
     have SC6:=hid (fun k (hk:k∈z1o a)=>(show base≤k from by
      obtain⟨rs,-,hro⟩:=KP6.out.sl;exact z2o hro hk))
     clear e1 e2 ci1 cn1 yr3 zr3 zr qb;generalize w3.setCell ⟨rg,nn,none⟩ (.slice A5 (j+(ml - (j+1))) c5)=w6 at *;go_wp2_with fail;refine MV.out.mono ?_;rintro e7 w7 ⟨rfl,hk7,f7⟩;have G7:=hid (show GW w w7 base mid kb a (.slice (some ⟨rg,0,none⟩) N rc) w.heap.size ib nn j ⟨st.slots.map (mvR nn j),st.segs.set nn (m.eraseIdx j)⟩ from⟨FB6.out.trans ((f7.toB base).more (fun k hk=>.inr (SC6.out k hk))),hk7,N6.out.fr f7 SA6.out,I6.out.fr f7 SB6.out⟩);have ci7:w7.cell? ⟨ib,0,none⟩=some (.int .i64 j):=G7.out.i.cell 0;clear hk7 f7;go_wp2;go_roundg j
     case measure=>omega
     case rel=>exact⟨j,_,_,rfl,by omega,rfl,GS.out,G7.out.next _ rfl⟩
 ·have EG:z0z s n=(noS,0,5):=by unfold z0z;rw[if_neg hbad]
  rw[EG];clear EG h K1;have g0:(w.alloc (.cells #[.int .i64 n] 3)).cell? ⟨w.heap.size,0,none⟩=some (.int .i64 n):=N1.out.cell 0;by_cases hn:n < 0
  ·have q1:decide (n < 0)=true:=decide_eq_true hn;go_enter Tryz.func28,Tryz.ntmps28;go_wp2;go_quiet (fail);go_wp2;go_ret2;exact⟨rfl,((F1.out).drewN _).toB base,fun h=>absurd h (by decide)⟩
  ·have q1:decide (n < 0)=false:=decide_eq_false hn;have q2:n ≥ (s.segs.length:Int):=by omega
   have q3:decide (n ≥ (s.segs.length:Int))=true:=decide_eq_true q2;go_enter Tryz.func28,Tryz.ntmps28;go_wp2;go_quiet (fail);go_wp2;go_ret2;exact⟨rfl,((F1.out).drewN _).toB base,fun h=>absurd h (by decide)⟩
end Go.Proofs.YtmkhmejempcimaaGreatDoor
