/- Contracts; no condition but each theorem's own. -/
import Derived.Test.YtmalkppcahogjaaGreatDoorSlR17
set_option linter.unusedVariables false
set_option linter.unusedSimpArgs false
set_option maxHeartbeats 8000000
set_option maxRecDepth 100000
namespace Go.Proofs.YtmalkppcahogjaaGreatDoor
open Lib (hid)
open Go.Proofs.Tryz (prog)
open Go.RowKit
theorem zdr(s:List Ent)(now:Int)(key:ByteArray)(y:Itm)(til:Int)(chg nn:Bool)(e:Int){r:Rep}(h:r.kind≠2)(hk:(fin s now key y til chg nn e r).2.kind=2):(fin s now key y til chg nn e r).1=s:=by
 unfold fin at hk ⊢;split at hk
 ·rename_i he;rw[if_pos he];split at hk
  ·rename_i hc;rw[if_pos hc];split at hk
   ·exact absurd hk h
   ·rename_i hp;rw[if_neg hp]
  ·rename_i hc;rw[if_neg hc]
 ·rename_i he;rw[if_neg he];split <;> rfl
theorem zzh(n:Int):(z0o n).kind≠2:=by show(3:Int)≠2;decide
theorem zwr(t:ByteArray):(z3n t).kind≠2:=by show(1:Int)≠2;decide
theorem q0g(t:ByteArray):(z1e t).kind≠2:=by show(4:Int)≠2;decide
theorem zzu:zgg.kind≠2:=by show(5:Int)≠2;decide
theorem q0w(l:List ByteArray):(z1z l).kind≠2:=by show(6:Int)≠2;decide
theorem zsu(c:Cm)(s:List Ent)(now:Int)(l:List ByteArray)(hk:(doC c s now l).2.kind=2):(doC c s now l).1=s:=by
 have f1:=fun k y u a b e n (h:(fin s now k y u a b e (z0o n)).2.kind=2)=>zdr s now k y u a b e (zzh n) h;have f2:=fun k y u a b e n (h:(fin s now k y u a b e (z3n n)).2.kind=2)=>zdr s now k y u a b e (zwr n) h;have f3:=fun k y u a b e n (h:(fin s now k y u a b e (z1e n)).2.kind=2)=>zdr s now k y u a b e (q0g n) h;have f4:=fun k y u a b e (h:(fin s now k y u a b e zgg).2.kind=2)=>zdr s now k y u a b e zzu h;have f5:=fun k y u a b e n (h:(fin s now k y u a b e (z1z n)).2.kind=2)=>zdr s now k y u a b e (q0w n) h;cases c
 case get=>
  simp only[doC] at hk ⊢;by_cases h1:(z00 s now (wd l 1)).item.kind=0
  ·rw[if_pos h1] at hk ⊢;exact f4 _ _ _ _ _ _ hk
  ·rw[if_neg h1] at hk ⊢;exact f3 _ _ _ _ _ _ _ hk
 case del=>exact absurd hk (zzh _)
 case expire=>
  simp only[doC] at hk ⊢;by_cases h1:(z00 s now (wd l 1)).item.kind=0
  ·rw[if_pos h1]
  ·rw[if_neg h1] at hk ⊢;by_cases h2:wn l 2 < 1
   ·rw[if_pos h2] at hk ⊢;exact f1 _ _ _ _ _ _ _ hk
   ·rw[if_neg h2] at hk ⊢;exact f1 _ _ _ _ _ _ _ hk
 case persist=>
  simp only[doC] at hk ⊢;by_cases h1:(z00 s now (wd l 1)).item.kind=0∨(z00 s now (wd l 1)).til=0
  ·rw[if_pos h1]
  ·rw[if_neg h1] at hk ⊢;exact f1 _ _ _ _ _ _ _ hk
 all_goals
  simp only[doC] at hk ⊢
  try first
   | with_reducible exact f1 _ _ _ _ _ _ _ hk
   | with_reducible exact f2 _ _ _ _ _ _ _ hk
   | with_reducible exact f3 _ _ _ _ _ _ _ hk
   | with_reducible exact f5 _ _ _ _ _ _ _ hk
def zwh(s:List Ent)(now:Int)(l:List ByteArray)(w:World)(e:Ending)(w':World):Prop:=
 ∃u v,e=.returned (.tuple #[u,v])∧z1s w' w.heap.size u (doR s now l).1∧z19 w' w.heap.size v (doR s now l).2∧Fr [] w w'
theorem z9d{s:List Ent}(ok:z1y s):∀e∈s,e.item.list.length≤1000000∧e.item.pairs.length≤1000000∧e.item.scores.length≤1000000:=fun e he=>by
 have hm:=(z4x (ok.items e he)).many;unfold many at hm;omega
theorem zs8(s:List Ent)(sv:Value)(now:Int)(l:List ByteArray)(A:Option Addr)(c B:Nat)(w:World)(ok:z1y s)(hk:z1v l≠0)(hl:l.length≤281474976710656)(hv:Vars w)(hB:B≤w.heap.size)(hs:z1l w B sv s)(h:Sl w B 1 (.slice A l.length c) l.length (z04 l)):
  Calls prog 40 #[sv,.int .i64 now,.slice A l.length c] w (zwh s now l w):=by
 have F0:=hid ((Fr.refl [] w).alloc (.cells yRza 27));have Q0:=hid (Whole.new w 27 yRzl);have OW:=hid (fun W (hW:Fr [] w W)=>z2y s sv W B (z09 ok) (z9d ok) (by have:=ok.le;omega) (Nat.le_trans hB hW.size) (hs.fr hW hB (by simp)));have KN:=hid (fun W (hW:Fr [] w W)=>zaa l A c B W hl (hv.fr hW) (Nat.le_trans hB hW.size) (h.fr hW hB (by simp)));have E:=hid (show doR s now l=(s,z7n (z1v l)) from if_pos hk);unfold KnP at KN;unfold zwh;have q1:(z1v l != 0)=true:=by simpa using hk
 rw[E.out];clear h hs hk hv ok E;generalize z1v l=code at *;obtain⟨n,hn⟩:∃n,n=l.length:=⟨_,rfl⟩;rw[←hn] at KN ⊢;clear hn hl;go_enter Tryz.func40,Tryz.ntmps40;go_wp2_with fail;refine(OW.out _ F0.out).mono ?_;rintro e1 w1 ⟨u,rfl,hu,f1⟩;have F1:=hid (F0.out.trans f1);have Q1:=hid (Q0.out.f0 f1);obtain⟨UA,uc,rfl⟩:=hu.form;have HU:=hid hu;clear f1 hu;go_wp2_with fail;refine(KN.out _ F1.out).mono ?_;rintro e2 w2 ⟨rfl,f2⟩;have F2:=hid (F1.out.trans f2);have Q2:=hid (Q1.out.f0 f2);have HU2:=hid (HU.out.fr f2);clear f2;go_wp2_with fail;refine(zax _ _).mono ?_;rintro e3 w3 ⟨rfl,f3⟩;have F3:=hid (F2.out.trans f3);have Q3:=hid (Q2.out.f0 f3);have HU3:=hid (HU2.out.fr f3);clear f3;obtain⟨y0,y1,y2,y3⟩:=four Q3.out;obtain⟨z0,z1,z2,z3⟩:=z0h Q3.out;go_wp2;refine bodyPost_ret (v:=.tuple #[.slice UA s.length uc,.agg #[.int .i64 2,.string ⟨#[]⟩,.int .i64 code,.slice none 0 0]]) (by simp[results,Tryz.results40,go_sem,y0,y1,y2,y3]) rfl ?_;refine⟨_,_,rfl,?_,z19.bare _ _ _ _ _,z0g F3.out (Nat.le_refl _) _ _ _ _⟩;exact(HU3.out.set4W Q3.out _ _ _ _).base (by simp)
theorem zoe(s:List Ent)(sv:Value)(now:Int)(l:List ByteArray)(A:Option Addr)(c B:Nat)(w:World)(ok:z1y s)(h0:0≤now∧now≤1000000)(hk:z1v l=0)(okp:z1y (doR s now l).1)(hc1:¬c=1)(hv:Vars w)(hB:B≤w.heap.size)(hs:z1l w B sv s)(h:Sl w B 1 (.slice A l.length c) l.length (z04 l)):
  Calls prog 40 #[sv,.int .i64 now,.slice A l.length c] w (zwh s now l w):=by
 obtain⟨c0,l',cm,rfl,hlow,hcm,KF⟩:=z92 hk;have hl12:=KF.le;have F0:=hid ((Fr.refl [] w).alloc (.cells yRza 27));have Q0:=hid (Whole.new w 27 yRzl);have OW:=hid (fun W (hW:Fr [] w W)=>z2y s sv W B (z09 ok) (z9d ok) (by have:=ok.le;omega) (Nat.le_trans hB hW.size) (hs.fr hW hB (by simp)));have KN:=hid (fun W (hW:Fr [] w W)=>zaa (c0 :: l') A c B W (by simp;omega) (hv.fr hW) (Nat.le_trans hB hW.size) (h.fr hW hB (by simp)));have E:=hid (show doR s now (c0 :: l')=doC cm s now (c0 :: l') from by unfold doR;rw[if_neg (by simpa using hk),hcm]);have GD:=hid (z0k cm s now (c0 :: l'));have TWO:=hid (zsu cm s now (c0 :: l'))
 have hc0:c0.size≤281474976710656:=by
  have:=hk;unfold z1v at this;by_cases hw:z0x (c0 :: l')=0
  ·have:=(z3m hw).2.2 c0 (.head _);omega
  ·rw[if_pos hw] at this;exact absurd this hw
 have LW:=hid (fun W=>za7 c0 W hc0);rw[hlow] at LW;unfold KnP at KN;rw[hk] at KN;unfold zwh;rw[E.out] at okp ⊢;obtain⟨b,off,rfl,hb,hcc,hm,hat⟩:=h.at_ (by simp);have x0:=hat 0 _ rfl;rw[Nat.add_zero] at x0;have TL:=hid (fun W (hW:Fr [] w W) B' (hB':B≤B')=>(zap (h.fr hW hB (by simp)) (by simp) hc1).more hB');have DA:=hid (fun(B0 g:Nat) W tv uv (hV:Vars W) (hd:Dr g B0 uv now tv l' s W)=>zww g B0 uv now tv l' s c0 cm W KF ok h0 hV hd);have HV:=hid hv;have OK:=hid ok;have OKP:=hid okp;obtain⟨n,hn⟩:∃n,n=l'.length:=⟨_,rfl⟩;have hlen:(c0 :: l').length=n+1:=by simp[hn]
 have ED:(c0 :: l').drop 1=l':=rfl;have E1:n+1 - 1=n:=by omega
 rw[hlen] at KN hcc TL;rw[hlen];rw[E1,ED] at TL;have HN:=hid hn;have ix0:(0:Int) < ((n+1:Nat):Int):=by omega
 have hbw:b < w.heap.size:=by omega
 have sx4:¬(c:Int)=1:=by omega
 unfold maxLen at hm;clear h hs hk hv ok okp E hat hlow hcm KF hc0 hlen ED E1 hn;generalize toB cm.bs=tl at *;generalize doC cm s now (c0 :: l')=pp at *;go_enter Tryz.func40,Tryz.ntmps40;go_wp2_with fail;refine(OW.out _ F0.out).mono ?_;rintro e1 w1 ⟨u,rfl,hu,f1⟩;have F1:=hid (F0.out.trans f1);have Q1:=hid (Q0.out.f0 f1);obtain⟨UA,uc,rfl⟩:=hu.form;have HU:=hid hu;clear f1 hu;go_wp2_with fail;refine(KN.out _ F1.out).mono ?_;rintro e2 w2 ⟨rfl,f2⟩;have F2:=hid (F1.out.trans f2);have Q2:=hid (Q1.out.f0 f2);have HU2:=hid (HU.out.fr f2);have x2:=F2.out.cell x0 (by simp);have hz2:=F2.out.size;clear f2 x0;have hbw2:b < w2.heap.size:=by omega
 have TV:=hid (TL.out w2 F2.out (w.heap.size+1) (by omega));have F3:=hid (F2.out.alloc (.cells #[.slice UA s.length uc,.int .i64 now,.slice (some ⟨b,off+1,none⟩) n (c - 1)] 156))
 have D3:=hid (show Dr w2.heap.size (w.heap.size+1) (.slice UA s.length uc) now (.slice (some ⟨b,off+1,none⟩) n (c - 1)) l' s (w2.alloc (.cells #[.slice UA s.length uc,.int .i64 now,.slice (some ⟨b,off+1,none⟩) n (c - 1)] 156)) from
  ⟨Whole.new w2 _ [.slice UA s.length uc,.int .i64 now,.slice (some ⟨b,off+1,none⟩) n (c - 1)],by have:=HU2.out.fr ((Fr.refl [] w2).alloc (.cells #[.slice UA s.length uc,.int .i64 now,.slice (some ⟨b,off+1,none⟩) n (c - 1)] 156));simpa using this,by rw[←HN.out];exact TV.out.fr ((Fr.refl [] w2).alloc _) (by have:=Q2.out.lt;omega) (by simp),by have:=Q2.out.lt;omega⟩)
 have Q3:=hid (Q2.out.alloc (.cells #[.slice UA s.length uc,.int .i64 now,.slice (some ⟨b,off+1,none⟩) n (c - 1)] 156));go_wp2_with fail;refine(LW.out _).mono ?_;rintro e4 w4 ⟨rfl,f4⟩;have F4:=hid (F3.out.trans f4);have D4:=hid (D3.out.go f4);have Q4:=hid (Q3.out.f0 f4);clear f4 x2;go_wp2_with fail;refine(DA.out _ _ _ _ _ (HV.out.fr F4.out) D4.out).mono ?_;rintro e5 w5 ⟨v,rfl,hr,f5,hd⟩;have F5:=hid (F4.out.step f5 (fun j hj=>.inr (by have:=(D4.out.low j hj).1;omega)));have Q5:=hid (Q4.out.fr f5 (fun hj=>by have:=(D4.out.low _ hj).1;omega));have HR:=hid hr;have HD:=hid hd;obtain⟨R,rc,rfl⟩:=hr.form;clear f5 hr hd;have F6:=hid (F5.out.alloc (.cells (yRa pp.2 R rc) 27));have R6:=hid (Whole.new w5 27 (yRl pp.2 R rc));have Q6:=hid (Q5.out.alloc (.cells (yRa pp.2 R rc) 27));have HR6:=hid (HR.out.fr ((Fr.refl [] w5).alloc (.cells (yRa pp.2 R rc) 27)));have hne1:¬w.heap.size=w5.heap.size:=by have:=Q5.out.lt;omega
 have hne2:¬w5.heap.size=w.heap.size:=by have:=Q5.out.lt;omega
 obtain⟨r0,r1,r2,r3⟩:=four R6.out;obtain⟨q0,q1,q2,q3⟩:=four Q6.out;obtain⟨z0,z1,z2,z3⟩:=z0h Q6.out;by_cases hk2:pp.2.kind=2
 ·have k1:(pp.2.kind==2)=true:=by simpa using hk2
  have E1:=hid (TWO.out hk2);clear hk2 HD;obtain⟨ps,pr⟩:=pp;simp only at E1 k1 HR6 R6 Q6 F6 r0 r1 r2 r3 q0 q1 q2 q3 z0 z1 z2 z3 GD ⊢;go_upto_region 8 with fail;go_region_held3 (fun wx=>yRc wx w5.heap.size pr R rc) ((simp only[yRc];go_keep)) ((go_at_call 118;refine(OW.out _ F6.out.drew).mono ?_;rintro e7 w7 ⟨u7,rfl,ho,f7⟩;have F7:=hid (F6.out.trans (z01 f7));have R7:=hid (R6.out.f0 (z01 f7));have Q7:=hid (Q6.out.f0 (z01 f7));have HR7:=hid (HR6.out.fr (z01 f7));obtain⟨U7,uc7,rfl⟩:=ho.form;have HO7:=hid ho;clear f7 ho r0 r1 r2 r3 q0 q1 q2 q3 z0 z1 z2 z3;obtain⟨r0,r1,r2,r3⟩:=four R7.out;obtain⟨q0,q1,q2,q3⟩:=four Q7.out;obtain⟨z0,z1,z2,z3⟩:=z0h Q7.out));go_wp2;refine bodyPost_ret (v:=.tuple #[.slice U7 s.length uc7,.agg (yRa pr R rc)]) (by simp[results,Tryz.results40,go_sem,q0,q1,q2,q3]) rfl ?_;refine⟨_,_,rfl,?_,z2m (HR7.out.base (Nat.le_succ _)) GD.out Q7.out _ _ _ _,z0g F7.out (Nat.le_refl _) _ _ _ _⟩;rw[E1.out];exact(HO7.out.set4W Q7.out _ _ _ _).base (by have:=F6.out.size;simpa using this)
 ·have k1:(pp.2.kind==2)=false:=by simpa using hk2
  obtain⟨sv',hd5⟩:=HD.out hk2;have D6:=hid (hd5.go ((Fr.refl [] w5).alloc (.cells (yRa pp.2 R rc) 27)));clear hk2 HD hd5;obtain⟨ps,pr⟩:=pp;simp only at k1 HR6 R6 Q6 F6 D6 r0 r1 r2 r3 q0 q1 q2 q3 z0 z1 z2 z3 GD OKP ⊢;obtain⟨SA,sc,rfl⟩:=D6.out.sform;have hne3:¬w.heap.size=w2.heap.size:=by have:=Q2.out.lt;omega
  have hne4:¬w2.heap.size=w.heap.size:=by have:=Q2.out.lt;omega
  obtain⟨d0,d1,d2⟩:=D6.out.three;have OP:=hid (fun W (hW:Fr [] (w5.alloc (.cells (yRa pr R rc) 27)) W)=>z2y ps (.slice SA ps.length sc) W W.heap.size (z09 OKP.out) (z9d OKP.out) (by have:=OKP.out.le;omega) (Nat.le_refl _) (D6.out.e.fr hW).v);clear d1 d2;go_upto_region 9 with fail;go_region_held3 (fun wx=>yRc wx w5.heap.size pr R rc∧wx.cell? ⟨w2.heap.size,0,none⟩=some (.slice SA ps.length sc)) ((simp only[yRc];go_keep)) ((go_at_call 118;refine(OP.out _ (Fr.refl [] _).drew).mono ?_;rintro e7 w7 ⟨u7,rfl,ho,f7⟩;have F7:=hid (F6.out.trans (z01 f7));have R7:=hid (R6.out.f0 (z01 f7));have Q7:=hid (Q6.out.f0 (z01 f7));have HR7:=hid (HR6.out.fr (z01 f7));have D7:=hid (D6.out.go (z01 f7));obtain⟨U7,uc7,rfl⟩:=ho.form;have HO7:=hid ho;clear f7 ho r0 r1 r2 r3 q0 q1 q2 q3 z0 z1 z2 z3 d0;obtain⟨r0,r1,r2,r3⟩:=four R7.out;obtain⟨q0,q1,q2,q3⟩:=four Q7.out;obtain⟨z0,z1,z2,z3⟩:=z0h Q7.out;have d0:=D7.out.three.1));go_wp2;refine bodyPost_ret (v:=.tuple #[.slice U7 ps.length uc7,.agg (yRa pr R rc)]) (by simp[results,Tryz.results40,go_sem,q0,q1,q2,q3]) rfl ?_;refine⟨_,_,rfl,?_,z2m (HR7.out.base (Nat.le_succ _)) GD.out Q7.out _ _ _ _,z0g F7.out (Nat.le_refl _) _ _ _ _⟩;exact(HO7.out.set4W Q7.out _ _ _ _).base (by have:=F6.out.size;simpa using this)
theorem znl(s:List Ent)(sv:Value)(now:Int)(l:List ByteArray)(A:Option Addr)(c B:Nat)(w:World)(ok:z1y s)(h0:0≤now∧now≤1000000)(hk:z1v l=0)(okp:z1y (doR s now l).1)(hc1:c=1)(hv:Vars w)(hB:B≤w.heap.size)(hs:z1l w B sv s)(h:Sl w B 1 (.slice A l.length c) l.length (z04 l)):
  Calls prog 40 #[sv,.int .i64 now,.slice A l.length c] w (zwh s now l w):=by
 obtain⟨c0,l',cm,rfl,hlow,hcm,KF⟩:=z92 hk;subst hc1
 have hl0:l'=[]:=by
  obtain⟨_,_,_,_,hcc0,_,_⟩:=h.at_ (by simp);simpa using hcc0
 subst hl0;have hl12:=KF.le;have F0:=hid ((Fr.refl [] w).alloc (.cells yRza 27));have Q0:=hid (Whole.new w 27 yRzl);have OW:=hid (fun W (hW:Fr [] w W)=>z2y s sv W B (z09 ok) (z9d ok) (by have:=ok.le;omega) (Nat.le_trans hB hW.size) (hs.fr hW hB (by simp)));have KN:=hid (fun W (hW:Fr [] w W)=>zaa (c0 :: []) A 1 B W (by simp) (hv.fr hW) (Nat.le_trans hB hW.size) (h.fr hW hB (by simp)));have E:=hid (show doR s now (c0 :: [])=doC cm s now (c0 :: []) from by unfold doR;rw[if_neg (by simpa using hk),hcm]);have GD:=hid (z0k cm s now (c0 :: []))
 have hc0:c0.size≤281474976710656:=by
  have:=hk;unfold z1v at this;by_cases hw:z0x (c0 :: [])=0
  ·have:=(z3m hw).2.2 c0 (.head _);omega
  ·rw[if_pos hw] at this;exact absurd this hw
 have LW:=hid (fun W=>za7 c0 W hc0);rw[hlow] at LW;unfold KnP at KN;rw[hk] at KN;unfold zwh;rw[E.out] at okp ⊢;obtain⟨b,off,rfl,hb,hcc,hm,hat⟩:=h.at_ (by simp);have x0:=hat 0 _ rfl;rw[Nat.add_zero] at x0;have TL:=hid (fun(W:World) (B':Nat)=>show Sl W B' 1 (.slice (some ⟨b,off,none⟩) 0 0) 0 (z04 []) from⟨some ⟨b,off,none⟩,0,rfl,by simp[z04],Nat.le_refl _,by simp[maxLen],fun h=>absurd h (by omega)⟩);have DA:=hid (fun(B0 g:Nat) W tv uv (hV:Vars W) (hd:Dr g B0 uv now tv [] s W)=>zww g B0 uv now tv [] s c0 cm W KF ok h0 hV hd)
 have KN2:=hid (show ¬(doC cm s now (c0 :: [])).2.kind=2 from by
  have hb:=KF.ok;cases cm
  all_goals first|exact absurd hb (by decide)|exact zwr zyv)
 have HV:=hid hv;have OK:=hid ok;have OKP:=hid okp;have hlen:(c0 :: ([]:List ByteArray)).length=1:=rfl;rw[hlen] at KN hcc;rw[hlen];have ix0:(0:Int) < ((1:Nat):Int):=by omega
 have hbw:b < w.heap.size:=by omega
 unfold maxLen at hm;clear h hs hk hv ok okp E hat hlow hcm KF hc0 hlen;generalize toB cm.bs=tl at *;generalize doC cm s now (c0 :: [])=pp at *;go_enter Tryz.func40,Tryz.ntmps40;go_wp2_with fail;refine(OW.out _ F0.out).mono ?_;rintro e1 w1 ⟨u,rfl,hu,f1⟩;have F1:=hid (F0.out.trans f1);have Q1:=hid (Q0.out.f0 f1);obtain⟨UA,uc,rfl⟩:=hu.form;have HU:=hid hu;clear f1 hu;go_wp2_with fail;refine(KN.out _ F1.out).mono ?_;rintro e2 w2 ⟨rfl,f2⟩;have F2:=hid (F1.out.trans f2);have Q2:=hid (Q1.out.f0 f2);have HU2:=hid (HU.out.fr f2);have x2:=F2.out.cell x0 (by simp);have hz2:=F2.out.size;clear f2 x0;have hbw2:b < w2.heap.size:=by omega
 have TV:=hid (TL.out w2 (w.heap.size+1));have F3:=hid (F2.out.alloc (.cells #[.slice UA s.length uc,.int .i64 now,.slice (some ⟨b,off,none⟩) 0 0] 156))
 have D3:=hid (show Dr w2.heap.size (w.heap.size+1) (.slice UA s.length uc) now (.slice (some ⟨b,off,none⟩) 0 0) [] s (w2.alloc (.cells #[.slice UA s.length uc,.int .i64 now,.slice (some ⟨b,off,none⟩) 0 0] 156)) from
  ⟨Whole.new w2 _ [.slice UA s.length uc,.int .i64 now,.slice (some ⟨b,off,none⟩) 0 0],by have:=HU2.out.fr ((Fr.refl [] w2).alloc (.cells #[.slice UA s.length uc,.int .i64 now,.slice (some ⟨b,off,none⟩) 0 0] 156));simpa using this,by exact TV.out.fr ((Fr.refl [] w2).alloc _) (by have:=Q2.out.lt;omega) (by simp),by have:=Q2.out.lt;omega⟩)
 have Q3:=hid (Q2.out.alloc (.cells #[.slice UA s.length uc,.int .i64 now,.slice (some ⟨b,off,none⟩) 0 0] 156));go_wp2_with fail;refine(LW.out _).mono ?_;rintro e4 w4 ⟨rfl,f4⟩;have F4:=hid (F3.out.trans f4);have D4:=hid (D3.out.go f4);have Q4:=hid (Q3.out.f0 f4);clear f4 x2;go_wp2_with fail;refine(DA.out _ _ _ _ _ (HV.out.fr F4.out) D4.out).mono ?_;rintro e5 w5 ⟨v,rfl,hr,f5,hd⟩;have F5:=hid (F4.out.step f5 (fun j hj=>.inr (by have:=(D4.out.low j hj).1;omega)));have Q5:=hid (Q4.out.fr f5 (fun hj=>by have:=(D4.out.low _ hj).1;omega));have HR:=hid hr;have HD:=hid hd;obtain⟨R,rc,rfl⟩:=hr.form;clear f5 hr hd;have F6:=hid (F5.out.alloc (.cells (yRa pp.2 R rc) 27));have R6:=hid (Whole.new w5 27 (yRl pp.2 R rc));have Q6:=hid (Q5.out.alloc (.cells (yRa pp.2 R rc) 27));have HR6:=hid (HR.out.fr ((Fr.refl [] w5).alloc (.cells (yRa pp.2 R rc) 27)));have hne1:¬w.heap.size=w5.heap.size:=by have:=Q5.out.lt;omega
 have hne2:¬w5.heap.size=w.heap.size:=by have:=Q5.out.lt;omega
 obtain⟨r0,r1,r2,r3⟩:=four R6.out;obtain⟨q0,q1,q2,q3⟩:=four Q6.out;obtain⟨z0,z1,z2,z3⟩:=z0h Q6.out;have hk2:¬pp.2.kind=2:=KN2.out;have k1:(pp.2.kind==2)=false:=by simpa using hk2
 obtain⟨sv',hd5⟩:=HD.out hk2;have D6:=hid (hd5.go ((Fr.refl [] w5).alloc (.cells (yRa pp.2 R rc) 27)));clear hk2 HD hd5;obtain⟨ps,pr⟩:=pp;simp only at k1 HR6 R6 Q6 F6 D6 r0 r1 r2 r3 q0 q1 q2 q3 z0 z1 z2 z3 GD OKP ⊢;obtain⟨SA,sc,rfl⟩:=D6.out.sform;have hne3:¬w.heap.size=w2.heap.size:=by have:=Q2.out.lt;omega
 have hne4:¬w2.heap.size=w.heap.size:=by have:=Q2.out.lt;omega
 obtain⟨d0,d1,d2⟩:=D6.out.three;have OP:=hid (fun W (hW:Fr [] (w5.alloc (.cells (yRa pr R rc) 27)) W)=>z2y ps (.slice SA ps.length sc) W W.heap.size (z09 OKP.out) (z9d OKP.out) (by have:=OKP.out.le;omega) (Nat.le_refl _) (D6.out.e.fr hW).v);clear d1 d2;go_upto_region 9 with fail;go_region_held3 (fun wx=>yRc wx w5.heap.size pr R rc∧wx.cell? ⟨w2.heap.size,0,none⟩=some (.slice SA ps.length sc)) ((simp only[yRc];go_keep)) ((go_at_call 118;refine(OP.out _ (Fr.refl [] _).drew).mono ?_;rintro e7 w7 ⟨u7,rfl,ho,f7⟩;have F7:=hid (F6.out.trans (z01 f7));have R7:=hid (R6.out.f0 (z01 f7));have Q7:=hid (Q6.out.f0 (z01 f7));have HR7:=hid (HR6.out.fr (z01 f7));have D7:=hid (D6.out.go (z01 f7));obtain⟨U7,uc7,rfl⟩:=ho.form;have HO7:=hid ho;clear f7 ho r0 r1 r2 r3 q0 q1 q2 q3 z0 z1 z2 z3 d0;obtain⟨r0,r1,r2,r3⟩:=four R7.out;obtain⟨q0,q1,q2,q3⟩:=four Q7.out;obtain⟨z0,z1,z2,z3⟩:=z0h Q7.out;have d0:=D7.out.three.1));go_wp2;refine bodyPost_ret (v:=.tuple #[.slice U7 ps.length uc7,.agg (yRa pr R rc)]) (by simp[results,Tryz.results40,go_sem,q0,q1,q2,q3]) rfl ?_;refine⟨_,_,rfl,?_,z2m (HR7.out.base (Nat.le_succ _)) GD.out Q7.out _ _ _ _,z0g F7.out (Nat.le_refl _) _ _ _ _⟩;exact(HO7.out.set4W Q7.out _ _ _ _).base (by have:=F6.out.size;simpa using this)
theorem zmp{α:Type}{l:List α}{p:α→Bool}(h:∀x∈l,p x=false):l.any p=false:=by
 rw[List.any_eq_false];intro x hx;rw[h x hx];decide
theorem zk0{x:Itm}(h1:∀s∈x.list,s.size≤60)(h2:∀p∈x.pairs,p.1.size≤60∧p.2.size≤60)(h3:∀p∈x.scores,p.2.size≤60):z97 x=false:=by
 unfold z97;rw[zmp (fun s hs=>by unfold z4h;exact decide_eq_false (by have:=h1 s hs;omega)),zmp (fun s hs=>by unfold z4n;rw[decide_eq_false (by have:=h2 s hs;omega),decide_eq_false (by have:=h2 s hs;omega)];rfl),zmp (fun s hs=>by unfold z8l;exact decide_eq_false (by have:=h3 s hs;omega))];rfl
theorem zyh{x:Itm}(hk:2≤x.kind∧x.kind≤5)(hb:z6k x=true)(h0:0 < many x)(h24:many x≤24)(hl:z97 x=false)(h3:x.kind=3→rises ltS x.list=true)(h4:x.kind=4→rises ltP x.pairs=true)(h5:z1h x.scores=0):z0e x=0:=by
 unfold z0e
 rw[if_neg (by omega),if_neg (by rw[hb];decide),if_neg (by omega),if_neg (by omega),if_neg (by rw[hl];simp;omega),if_neg (by
  rintro(⟨h,he⟩|⟨h,he⟩)
  ·rw[h3 h] at he;exact absurd he (by decide)
  ·rw[h4 h] at he;exact absurd he (by decide))]
 exact h5
def OkI(y:Itm):Prop:=z0e y=0∨z0t y=true
theorem z4j:OkI (z2p 0):=.inr z3k
theorem zxm{s:ByteArray}(h:s.size≤60):z0e (z45 s)=0:=by
 unfold z0e z6k z45;simp;omega
theorem zkp{s:ByteArray}(h:s.size≤60):OkI (z45 s):=.inl (zxm h)
theorem zrb{k:Int}{L:List ByteArray}(hk:k=2∨k=3∧rises ltS L=true)(h0:0 < L.length)(h24:L.length≤24)(ht:∀s∈L,s.size≤60):z0e (zbu k L)=0:=by
 have e:many (zbu k L)=L.length:=by show L.length+0+0=L.length;omega
 refine zyh (x:=zbu k L) (by show 2≤k∧k≤5;omega) ?_ (by omega) (by omega) (zk0 ht (fun p hp=>by cases hp) (fun p hp=>by cases hp)) (fun h=>?_) (fun h=>?_) rfl
 ·rcases hk with rfl|⟨rfl,_⟩ <;> rfl
 ·rcases hk with rfl|⟨_,hr⟩
  ·exact absurd (show(2:Int)=3 from h) (by decide)
  ·exact hr
 ·have:k=4:=h;omega
theorem zhz{L:List ByteArray}(h24:L.length≤24)(ht:∀s∈L,s.size≤60):OkI (ofL L):=by
 unfold ofL;split
 ·exact z4j
 ·exact .inl (zrb (.inl rfl) (by omega) h24 ht)
theorem zwm{L:List ByteArray}(hr:rises ltS L=true)(h24:L.length≤24)(ht:∀s∈L,s.size≤60):OkI (ofK 3 L):=by
 unfold ofK;split
 ·exact z4j
 ·exact .inl (zrb (.inr ⟨rfl,hr⟩) (by omega) h24 ht)
theorem zws{L:List (ByteArray×ByteArray)}(hr:rises ltP L=true)(h24:L.length≤24)(ht:∀p∈L,p.1.size≤60∧p.2.size≤60):OkI (ofP L):=by
 unfold ofP;split
 ·exact z4j
 ·have e:many (zh9 L)=L.length:=by show 0+L.length+0=L.length;omega
  exact .inl (zyh (x:=zh9 L) (by show(2:Int)≤4∧(4:Int)≤5;omega) rfl (by omega) (by omega) (zk0 (fun p hp=>by cases hp) ht (fun p hp=>by cases hp)) (fun h=>absurd (show(4:Int)=3 from h) (by decide)) (fun _=>hr) rfl)
theorem zwd{L:List (Int×ByteArray)}(h:z8i L)(h24:L.length≤24):OkI (ofC L):=by
 unfold ofC;split
 ·exact z4j
 ·have e:many (zbl L)=L.length:=by show 0+0+L.length=L.length;omega
  refine .inl (zyh (x:=zbl L) (by show(2:Int)≤5∧(5:Int)≤5;omega) rfl (by omega) (by omega) (zk0 (fun p hp=>by cases hp) (fun p hp=>by cases hp) (fun p hp=>(h.ok p hp).2)) (fun k=>absurd (show(5:Int)=3 from k) (by decide)) (fun k=>absurd (show(5:Int)=4 from k) (by decide)) ?_);show z1h L=0;unfold z1h;rw[if_neg (by rw[zmp (fun p hp=>by rw[(h.ok p hp).1];rfl)];decide),if_neg (by intro hn;exact hn h.dist),if_pos h.rise]
theorem zzp(x:Itm)(s:ByteArray):OkI (apY x s):=by
 unfold apY;split
 ·rename_i h;refine zkp ?_;unfold z3a at h;split at h
  ·rename_i ha;exact absurd h ha
  ·split at h
   ·cases h
   ·rw[ByteArray.size_append];omega
 ·exact z4j
theorem adOk{x:Itm}{n:Int}(h:z3j x n=0):z0i (z5k x+n)=true:=by
 unfold z3j at h;split at h
 ·rename_i ha;exact absurd h ha
 ·split at h
  ·cases h
  ·split at h
   ·rename_i h2;exact h2.2
   ·cases h
theorem zzc(x:Itm)(n:Int):OkI (adY x n):=by
 unfold adY;split
 ·rename_i h;refine zkp ?_;have:=(zcd (adOk h)).2;show(Lib.itoa (z5k x+n)).toArray.size≤60;have e:(Lib.itoa (z5k x+n)).toArray.size≤10:=by simpa using this
  omega
 ·exact z4j
theorem zlu(x:Itm)(left:Bool)(l:List ByteArray):OkI (z8w x left l):=by
 unfold z8w;split
 ·rename_i h;unfold z14 at h;split at h
  ·rename_i ha;exact absurd h ha
  ·rename_i ha;split at h
   ·rename_i hb;exact absurd h hb
   ·rename_i hb;split at h
    ·cases h
    ·have hok:=z1j (Decidable.not_not.1 ha);refine zhz (by rw[z43];omega) (fun s hs=>?_);rcases zgh hs with h1|h1
     ·exact hok.texts s h1
     ·exact z67 (Decidable.not_not.1 hb) s h1
 ·exact z4j
theorem zhs{k:Int}{x:Itm}(h:z02 k x=0):x.list.length≤24∧x.pairs.length≤24∧x.scores.length≤24:=by
 have:=(z1j h).le24;unfold many at this;omega
theorem popOk{x:Itm}(h:z1r x=0):z02 2 x=0∧x.kind≠0:=by
 unfold z1r at h;split at h
 ·rename_i ha;exact absurd h ha
 ·rename_i ha;split at h
  ·cases h
  ·rename_i hk;exact⟨Decidable.not_not.1 ha,hk⟩
theorem zqm(x:Itm)(left:Bool):OkI (zei x left):=by
 unfold zei;split
 ·rename_i h;have ha:=(popOk h).1;have hl:=(zhs ha).1;have hok:=z1j ha;unfold zt3;cases left
  ·exact zhz (by simp;omega) (fun s hs=>hok.texts s (List.mem_of_mem_take (show s∈x.list.take (x.list.length - 1) from hs)))
  ·exact zhz (by simp;omega) (fun s hs=>hok.texts s (List.mem_of_mem_drop (show s∈x.list.drop 1 from hs)))
 ·exact z4j
theorem zuz{x:Itm}(h:z02 2 x=0)(a b:Int):OkI (ofL (z25 x.list a b)):=by
 have hl:=(zhs h).1;have hok:=z1j h;have hs:=z5s x.list.length a b;exact zhz (by rw[z2e];omega) (fun s hs=>hok.texts s (z6o hs))
theorem zyn(x:Itm)(s:ByteArray):OkI (zot x s):=by
 unfold zot;split
 ·rename_i h;exact zhz (Nat.le_trans (List.length_filter_le _ _) (zhs h).1) (fun t ht=>(z1j h).texts t (List.mem_filter.1 ht).1)
 ·exact z4j
theorem zpo(x:Itm)(m:List ByteArray):OkI (z6a 3 x m):=by
 unfold z6a;split
 ·rename_i h;exact zwm (z3q ((z3b zeq (zgp h).1).filter _)) (Nat.le_trans (List.length_filter_le _ _) (zhs h).1) (fun t ht=>(z1j h).texts t (List.mem_filter.1 ht).1)
 ·exact z4j
theorem zu2(x:Itm)(l:List ByteArray):OkI (zag x l):=by
 unfold zag;split
 ·rename_i h;obtain⟨h1,h2⟩:=zjf h;exact zwm (z7w _) h2 (zcv h1)
 ·exact z4j
theorem zys(x:Itm)(l:List (ByteArray×ByteArray)):OkI (zlk x l):=by
 unfold zlk;split
 ·rename_i h;unfold z1p at h;split at h
  ·rename_i hp;exact absurd h hp
  ·rename_i hp;have hp:=Decidable.not_not.1 hp;split at h
   ·cases h
   ·rename_i h24;unfold z1w at hp;split at hp
    ·rename_i ha;exact absurd hp ha
    ·rename_i ha;have ha:=Decidable.not_not.1 ha;split at hp
     ·cases hp
     ·split at hp
      ·cases hp
      ·rename_i hl;refine zws (zao Prod.fst l (z83 ha)) (by omega) (fun p hq=>?_);rcases zca Prod.fst l hq with h1|h1
       ·exact zg2 hl p h1
       ·exact(z9p ha).2 p h1
 ·exact z4j
theorem ztv(x:Itm)(l:List ByteArray):OkI (zaj x l):=by
 unfold zaj;split
 ·rename_i h;exact zws (z3q ((z3b (z58 Prod.fst) (z83 h)).filter _)) (Nat.le_trans (List.length_filter_le _ _) (zhs h).2.1) (fun p hp=>(z9p h).2 p (List.mem_filter.1 hp).1)
 ·exact z4j
theorem zu7(x:Itm)(l:List (Int×ByteArray)):OkI (z9q x l):=by
 unfold z9q;split
 ·rename_i h;unfold zbv at h;split at h
  ·rename_i hp;exact absurd h hp
  ·rename_i hp;split at h
   ·cases h
   ·rename_i h24;obtain⟨h1,h2⟩:=zqi (Decidable.not_not.1 hp);exact zwd (z8i.fold l (z2v h1).1 (zb2 h2).2) (by omega)
 ·exact z4j
theorem zs1(x:Itm)(l:List ByteArray):OkI (z6g x l):=by
 unfold z6g;split
 ·rename_i h;exact zwd ((z2v h).1.sub List.filter_sublist) (Nat.le_trans (List.length_filter_le _ _) (z2v h).2)
 ·exact z4j
theorem zzf{s:List Ent}{now til:Int}{key:ByteArray}{y:Itm}(ok:z1y s)(hk:key.size≤60)(hy:OkI y)(ht:z0t y=true∨(0≤til∧til≤1000000))(hp:z28 s now key y til=0):z1y (z8g s now key y til):=by
 unfold z8g;by_cases hn:z0t y=true
 ·rw[if_pos hn];exact z8y ok _
 ·rw[if_neg hn];unfold z28 at hp;rw[if_neg hn] at hp;by_cases h16:16 < (zn7 s now key y til).length
  ·rw[if_pos h16] at hp;cases hp
  ·rw[if_neg h16]
   have hy':z0e y=0:=by
    rcases hy with h|h
    ·exact h
    ·exact absurd h hn
   have ht':0≤til∧til≤1000000:=by
    rcases ht with h|h
    ·exact absurd h hn
    ·exact h
   exact⟨by omega,zg8 (P:=fun e=>e.key.size≤60) ok.keys hk,zg8 (P:=fun e=>z0e e.item=0) ok.items hy',zg8 (P:=fun e=>0≤e.til∧e.til≤1000000) ok.times ht',zor ok.rise now key y til⟩
theorem z3w{s:List Ent}{now:Int}{key:ByteArray}{y:Itm}{til:Int}{chg nn:Bool}{e:Int}{r:Rep}(ok:z1y s)(hk:key.size≤60)(h:chg=true→e=0→OkI y∧(z0t y=true∨(0≤til∧til≤1000000))):z1y (fin s now key y til chg nn e r).1:=by
 unfold fin;by_cases he:e=0
 ·rw[if_pos he];by_cases hc:chg=true
  ·rw[if_pos hc];by_cases hp:z28 s now key y til=0
   ·rw[if_pos hp];obtain⟨h1,h2⟩:=h hc he;exact zzf ok hk h1 h2 hp
   ·rw[if_neg hp];exact ok
  ·rw[if_neg hc];exact ok
 ·rw[if_neg he];split <;> exact ok
theorem z8v{s:List Ent}{now:Int}{key:ByteArray}{y:Itm}{til:Int}{nn:Bool}{e:Int}{r:Rep}(ok:z1y s):z1y (fin s now key y til false nn e r).1:=by
 have:(fin s now key y til false nn e r).1=s:=by
  unfold fin;split
  ·rfl
  ·split <;> rfl
 rw[this];exact ok
theorem zi3{s:List Ent}(ok:z1y s)(now:Int)(k:ByteArray):0≤(z00 s now k).til∧(z00 s now k).til≤1000000:=by
 rcases z5d s now k with⟨h1,h2⟩|⟨h1,h2,h3,_⟩
 ·rw[h1];exact⟨Int.le_refl _,by decide⟩
 ·exact ok.times _ h1
theorem zfp{s:List Ent}(ok:z1y s)(now:Int)(k:ByteArray):OkI (z00 s now k).item:=by
 rcases z5a ok now k with⟨h1,_⟩|⟨h1,_⟩
 ·rw[h1];exact z4j
 ·exact .inl h1
theorem zwi(now:Int):∀(l:List ByteArray) {s:List Ent} (n:Nat),z1y s→z1y (zj2 now l s n).1
 | [],_,_,ok=>ok
 | k :: l,s,n,ok=>by
  unfold zj2;refine zwi now l _ ?_;unfold z8g;rw[if_pos z3k];exact z8y ok _
theorem zze(c:Cm)(s:List Ent)(now:Int)(l:List ByteArray)(ok:z1y s)(h0:0≤now∧now≤1000000)(hz:∀t∈l,t.size≤60):z1y (doC c s now l).1:=by
 have hw:∀i,(wd l i).size≤60:=zck hz;have ht:=zi3 ok now (wd l 1);cases c
 case ping=>exact ok
 case get=>
  simp only[doC];split
  ·exact z8v ok
  ·exact z8v ok
 case set_=>exact z3w ok (hw 1) (fun _ _=>⟨zkp (hw 2),.inr (by omega)⟩)
 case append_=>exact z3w ok (hw 1) (fun _ _=>⟨zzp _ _,.inr ht⟩)
 case incrby=>exact z3w ok (hw 1) (fun _ _=>⟨zzc _ _,.inr ht⟩)
 case del=>exact zwi now _ 0 ok
 case exists_=>exact ok
 case type_=>exact ok
 case ttl=>exact ok
 case expire=>
  simp only[doC];split
  ·exact ok
  ·split
   ·exact z3w ok (hw 1) (fun _ _=>⟨z4j,.inl z3k⟩)
   ·refine z3w ok (hw 1) (fun _ he=>⟨zfp ok _ _,.inr ?_⟩);by_cases hm:1000000 < now+wn l 2
    ·rw[if_pos hm] at he;cases he
    ·omega
 case persist=>
  simp only[doC];split
  ·exact ok
  ·exact z3w ok (hw 1) (fun _ _=>⟨zfp ok _ _,.inr (by omega)⟩)
 case lpush=>exact z3w ok (hw 1) (fun _ _=>⟨zlu _ _ _,.inr ht⟩)
 case rpush=>exact z3w ok (hw 1) (fun _ _=>⟨zlu _ _ _,.inr ht⟩)
 case lpop=>exact z3w ok (hw 1) (fun _ _=>⟨zqm _ _,.inr ht⟩)
 case rpop=>exact z3w ok (hw 1) (fun _ _=>⟨zqm _ _,.inr ht⟩)
 case ltrim=>exact z3w ok (hw 1) (fun _ he=>⟨zuz he _ _,.inr ht⟩)
 case lrem=>exact z3w ok (hw 1) (fun _ _=>⟨zyn _ _,.inr ht⟩)
 case sadd=>exact z3w ok (hw 1) (fun _ _=>⟨zu2 _ _,.inr ht⟩)
 case srem=>exact z3w ok (hw 1) (fun _ _=>⟨zpo _ _,.inr ht⟩)
 case hset=>exact z3w ok (hw 1) (fun _ _=>⟨zys _ _,.inr ht⟩)
 case hdel=>exact z3w ok (hw 1) (fun _ _=>⟨ztv _ _,.inr ht⟩)
 case zadd=>exact z3w ok (hw 1) (fun _ _=>⟨zu7 _ _,.inr ht⟩)
 case zrem=>exact z3w ok (hw 1) (fun _ _=>⟨zs1 _ _,.inr ht⟩)
 all_goals exact z8v ok
theorem zew{l:List ByteArray}(h:z1v l=0):∀t∈l,t.size≤60:=by
 unfold z1v at h;by_cases hw:z0x l=0
 ·exact(z3m hw).2.2
 ·rw[if_pos hw] at h;exact absurd h hw
theorem zq3{s:List Ent}{now:Int}{l:List ByteArray}(ok:z1y s)(h0:0≤now∧now≤1000000):z1y (doR s now l).1:=by
 unfold doR;by_cases hk:z1v l=0
 ·rw[if_neg (by simpa using hk)];split
  ·exact ok
  ·exact zze _ s now l ok h0 (zew hk)
 ·rw[if_pos hk];exact ok
theorem zn9(s:List Ent)(sv:Value)(now:Int)(l:List ByteArray)(A:Option Addr)(c B:Nat)(w:World)(ok:z1y s)(h0:0≤now∧now≤1000000)(hl:l.length≤281474976710656)(hv:Vars w)(hB:B≤w.heap.size)(hs:z1l w B sv s)(h:Sl w B 1 (.slice A l.length c) l.length (z04 l)):
  Calls prog 40 #[sv,.int .i64 now,.slice A l.length c] w (zwh s now l w):=by
 by_cases hk:z1v l=0
 ·by_cases hc:c=1
  ·exact znl s sv now l A c B w ok h0 hk (zq3 ok h0) hc hv hB hs h
  ·exact zoe s sv now l A c B w ok h0 hk (zq3 ok h0) hc hv hB hs h
 ·exact zs8 s sv now l A c B w ok hk hl hv hB hs h
def doE(s:List Ent)(now:Int):Int:=if z1q s≠0 then z1q s else if z3e now=false then 3 else 0
def doS(s:List Ent)(now:Int)(l:List ByteArray):List Ent:=if doE s now=0 then (doR s now l).1 else []
def doV(s:List Ent)(now:Int)(l:List ByteArray):Rep:=if doE s now=0 then (doR s now l).2 else zpi
def DoQ(s:List Ent)(r:Rep)(c:Int)(w:World)(e:Ending)(w':World):Prop:=
 ∃u v,e=.returned (.tuple #[u,v,.int .i64 c])∧z1s w' w.heap.size u s∧z19 w' w.heap.size v r∧Fr [] w w'
theorem zh1{s:List Ent}{now:Int}(h:doE s now=0):z1y s∧0≤now∧now≤1000000:=by
 unfold doE at h;by_cases hc:z1q s=0
 ·rw[if_neg (by simpa using hc)] at h;by_cases ht:z3e now=true
  ·unfold z3e at ht;exact⟨zwu hc,by simpa using ht⟩
  ·rw[if_pos (by simpa using ht)] at h;cases h
 ·rw[if_pos hc] at h;exact absurd h hc
theorem zw8{s:List Ent}{now:Int}(ok:z1y s)(h:0≤now∧now≤1000000):doE s now=0:=by
 unfold doE;rw[if_neg (by simpa using zjh ok),if_neg (by unfold z3e;rw[decide_eq_true h.1,decide_eq_true h.2];decide)]
theorem zil(s:List Ent)(sv:Value)(now:Int)(l:List ByteArray)(A:Option Addr)(c B:Nat)(w:World)(hs:∀e∈s,e.Small)(hsl:s.length≤281474976710656)(hl:l.length≤281474976710656)(hv:Vars w)(hB:B≤w.heap.size)(h:z1l w B sv s)(hL:Sl w B 1 (.slice A l.length c) l.length (z04 l)):
  Calls prog 10 #[sv,.int .i64 now,.slice A l.length c] w (DoQ (doS s now l) (doV s now l) (doE s now) w):=by
 have F0:=hid ((Fr.refl [] w).alloc (.cells yRza 27));have Q0:=hid (Whole.new w 27 yRzl);have CK:=hid (fun W (hW:Fr [] w W)=>z4a s sv W B hs hsl (Nat.le_trans hB hW.size) (h.fr hW hB (by simp)));have TM:=hid (fun W=>z82 now W);obtain⟨n,hn⟩:∃n,n=l.length:=⟨_,rfl⟩;by_cases hc:z1q s=0
 ·rw[hc] at CK;by_cases ht:z3e now=true
  ·rw[ht] at TM;have ok:=zwu hc;have h0:0≤now∧now≤1000000:=by unfold z3e at ht;simpa using ht
   have RW:=hid (fun W (hW:Fr [] w W)=>zn9 s sv now l A c B W ok h0 hl (hv.fr hW) (Nat.le_trans hB hW.size) (h.fr hW hB (by simp)) (hL.fr hW hB (by simp)));have e0:=zw8 ok h0;have GD:=hid (zut s now l);unfold doS doV;rw[e0,if_pos rfl,if_pos rfl];unfold zwh at RW;rw[←hn] at RW ⊢;clear h hL hs hsl hl hv hc ht ok h0 e0 hn;generalize doR s now l=pp at *;obtain⟨ps,pr⟩:=pp;simp only at RW GD ⊢;go_enter Tryz.func10,Tryz.ntmps10;go_wp2_with fail;refine(CK.out _ F0.out).mono ?_;rintro e1 w1 ⟨rfl,f1⟩;have F1:=hid (F0.out.trans f1);have Q1:=hid (Q0.out.f0 f1);clear f1;go_wp2_with fail;refine(TM.out _).mono ?_;rintro e2 w2 ⟨rfl,rfl⟩;go_wp2_with fail;refine(RW.out _ F1.out).mono ?_;rintro e5 w5 ⟨u,v,rfl,hu,hr,f5⟩;obtain⟨UA,uc,rfl⟩:=hu.form;obtain⟨R,rc,rfl⟩:=hr.form;have hz1:=F1.out.size;have HU:=hid (hu.base hz1);have HR:=hid (hr.base hz1);have Q5:=hid (Q1.out.f0 f5);have F5:=hid (F1.out.trans f5);clear hu hr f5;have R6:=hid (Whole.new w5 27 (yRl pr R rc));have K6:=hid ((Fr.refl [] w5).alloc (.cells (yRa pr R rc) 27));have F6:=hid (F5.out.trans K6.out);have Q6:=hid (Q5.out.f0 K6.out);have HU6:=hid (HU.out.fr K6.out);have HR6:=hid (HR.out.fr K6.out);have hne1:¬w.heap.size=w5.heap.size:=by have:=Q5.out.lt;omega
   have hne2:¬w5.heap.size=w.heap.size:=by have:=Q5.out.lt;omega
   obtain⟨r0,r1,r2,r3⟩:=four R6.out;obtain⟨q0,q1,q2,q3⟩:=four Q6.out;obtain⟨z0,z1,z2,z3⟩:=z0h Q6.out;go_upto_region 7 with fail
   go_region
   go_wp2;refine bodyPost_ret (v:=.tuple #[.slice UA ps.length uc,.agg (yRa pr R rc),.int .i64 0]) (by simp[results,Tryz.results10,go_sem,q0,q1,q2,q3]) rfl ?_;exact⟨_,_,rfl,(HU6.out.set4W Q6.out (.int .i64 pr.kind) (.string pr.text) (.int .i64 pr.n) (.slice R pr.list.length rc)).fr (Fr.refl [] _).drew,(z2m HR6.out GD.out Q6.out (.int .i64 pr.kind) (.string pr.text) (.int .i64 pr.n) (.slice R pr.list.length rc)).fr (Fr.refl [] _).drew,(z0g F6.out (Nat.le_refl _) (.int .i64 pr.kind) (.string pr.text) (.int .i64 pr.n) (.slice R pr.list.length rc)).trans (Fr.refl [] _).drew⟩
  ·have hf:z3e now=false:=by simpa using ht
   rw[hf] at TM;have e3:doE s now=3:=by unfold doE;rw[if_neg (by simpa using hc),if_pos hf]
   unfold doS doV;rw[e3,if_neg (by decide),if_neg (by decide)];rw[←hn];clear h hL hs hsl hl hv hc ht hf e3 hn;go_enter Tryz.func10,Tryz.ntmps10;go_wp2_with fail;refine(CK.out _ F0.out).mono ?_;rintro e1 w1 ⟨rfl,f1⟩;have F1:=hid (F0.out.trans f1);have Q1:=hid (Q0.out.f0 f1);clear f1;go_wp2_with fail;refine(TM.out _).mono ?_;rintro e2 w2 ⟨rfl,rfl⟩;obtain⟨q0,q1,q2,q3⟩:=four Q1.out;obtain⟨z0,z1,z2,z3⟩:=z0h Q1.out;go_wp2;refine bodyPost_ret (v:=.tuple #[.slice none 0 0,.agg yRza,.int .i64 3]) (by simp[results,Tryz.results10,go_sem,q0,q1,q2,q3]) rfl ?_;exact⟨_,_,rfl,z1s.nil _ _,z19.bare _ _ _ _ _,z0g F1.out (Nat.le_refl _) _ _ _ _⟩
 ·have q1:(z1q s==0)=false:=by simpa using hc
  have q2:(z1q s != 0)=true:=by simpa using hc
  have e1:doE s now=z1q s:=by unfold doE;rw[if_pos hc]
  unfold doS doV;rw[e1,if_neg hc,if_neg hc];rw[←hn];clear h hL hs hsl hl hv hc e1 hn TM;generalize z1q s=ec at *;go_enter Tryz.func10,Tryz.ntmps10;go_wp2_with fail;refine(CK.out _ F0.out).mono ?_;rintro e1 w1 ⟨rfl,f1⟩;have F1:=hid (F0.out.trans f1);have Q1:=hid (Q0.out.f0 f1);clear f1;obtain⟨y0,y1,y2,y3⟩:=four Q1.out;obtain⟨z0,z1,z2,z3⟩:=z0h Q1.out;go_wp2;refine bodyPost_ret (v:=.tuple #[.slice none 0 0,.agg yRza,.int .i64 ec]) (by simp[results,Tryz.results10,go_sem,y0,y1,y2,y3]) rfl ?_;exact⟨_,_,rfl,z1s.nil _ _,z19.bare _ _ _ _ _,z0g F1.out (Nat.le_refl _) _ _ _ _⟩
theorem zts{n:Int}(h1:-999999999≤n)(h2:n≤999999999):z0i n=true:=by
 unfold z0i;rw[decide_eq_true h1,decide_eq_true h2];rfl
theorem zyp:(⟨#[]⟩:ByteArray)=ByteArray.empty:=rfl
theorem zr1{n:Int}(h:z0i n=true):z0d (z0o n)=0:=by
 show z1d ⟨3,⟨#[]⟩,n,0⟩=0;unfold z1d;simp[h,zyp]
theorem z5n{n:Int}(h1:-1000000≤n)(h2:n≤1000000):z0d (z0o n)=0:=zr1 (zts (by omega) (by omega))
theorem zfy{s:ByteArray}(h:s.size≤60):z0d (z1e s)=0:=by
 show z1d ⟨4,s,0,0⟩=0;unfold z1d;simp;omega
theorem zgo{e:Int}(h:1≤e∧e≤8):z0d (z7n e)=0:=by
 show z1d ⟨2,⟨#[]⟩,e,0⟩=0;unfold z1d;simp[zyp];omega
theorem zrk:z0d zgg=0:=by decide
theorem zzb:z0d (z3n tOK)=0:=by decide
theorem zy5:z0d (z3n zyv)=0:=by decide
theorem zz3(k:Int):z0d (z3n (zks k))=0:=by
 unfold zks
 repeat' split
 all_goals decide
theorem zay{l:List ByteArray}(hl:l.length≤300)(ht:∀s∈l,s.size≤60):z0d (z1z l)=0:=by
 unfold z0d z1z;rw[if_neg (by simp),if_neg (by simp[zyp]),if_neg (by simp;omega)];refine ze0 fun x hx=>?_;obtain⟨s,hs,rfl⟩:=List.mem_map.1 hx;have:=ht s hs;unfold z1d;simp;omega
abbrev Cd(e:Int):Prop:=0≤e∧e≤8
theorem q0k(s:List Ent)(now:Int)(k:ByteArray)(y:Itm)(u:Int):z28 s now k y u=0∨z28 s now k y u=2:=by
 unfold z28
 repeat' split
 all_goals simp
theorem z1o{s:List Ent}{now:Int}{key:ByteArray}{y:Itm}{til:Int}{chg nn:Bool}{e:Int}{r:Rep}(hr:e=0→z0d r=0)(he:Cd e):z0d (fin s now key y til chg nn e r).2=0:=by
 unfold fin;by_cases h0:e=0
 ·rw[if_pos h0];by_cases hc:chg=true
  ·rw[if_pos hc];by_cases hp:z28 s now key y til=0
   ·rw[if_pos hp];exact hr h0
   ·rw[if_neg hp];rcases q0k s now key y til with h|h
    ·exact absurd h hp
    ·show z0d (z7n (z28 s now key y til))=0;rw[h];exact zgo (by decide)
  ·rw[if_neg hc];exact hr h0
 ·rw[if_neg h0];split
  ·exact zrk
  ·unfold Cd at he;exact zgo (by omega)
structure BdI(x:Itm):Prop where
 text:x.text.size≤60
 list:x.list.length≤24
 pairs:x.pairs.length≤24
 scores:x.scores.length≤24
 texts:∀s∈x.list,s.size≤60
 fields:∀p∈x.pairs,p.1.size≤60∧p.2.size≤60
 members:∀p∈x.scores,z0i p.1=true∧p.2.size≤60
theorem zxz{x:Itm}(h:OkI x):BdI x:=by
 rcases h with h|h
 ·have r:=z4x h;have hm:=r.many;unfold many at hm;exact⟨r.text,by omega,by omega,by omega,r.texts,r.fields,r.members⟩
 ·rw[zjt h];exact⟨by decide,by decide,by decide,by decide,fun s hs=>(by cases hs),fun s hs=>(by cases hs),fun s hs=>(by cases hs)⟩
theorem z4s{x:Itm}(h:OkI x)(k:Int):Cd (z02 k x):=by
 unfold z02 Cd;by_cases hn:z0t x=true
 ·rw[if_pos hn];decide
 ·rw[if_neg hn];rcases h with h|h
  ·rw[if_pos h];split <;> decide
  ·exact absurd h hn
theorem cd_ap{x:Itm}(h:OkI x)(s:ByteArray):Cd (z3a x s):=by
 have:=z4s h 1;unfold z3a
 repeat' split
 all_goals first|exact this|decide
theorem cd_ad{x:Itm}(h:OkI x)(n:Int):Cd (z3j x n):=by
 have:=z4s h 1;unfold z3j
 repeat' split
 all_goals first|exact this|decide
theorem zpj(l:List ByteArray):Cd (z13 l):=by
 unfold z13
 repeat' split
 all_goals decide
theorem zsc{x:Itm}(h:OkI x)(l:List ByteArray):Cd (z14 x l):=by
 have:=z4s h 2;have h2:=zpj l;unfold z14
 repeat' split
 all_goals first|exact this|exact h2|decide
theorem zwp{x:Itm}(h:OkI x):Cd (z1r x):=by
 have:=z4s h 2;unfold z1r
 repeat' split
 all_goals first|exact this|decide
theorem zyq{x:Itm}(h:OkI x)(l:List ByteArray):Cd (ze3 x l):=by
 have:=z4s h 3;have h2:=zpj l;unfold ze3 zms
 repeat' split
 all_goals first|exact this|exact h2|decide
theorem zla(k:Int):∀ {l:List Itm},(∀x∈l,OkI x)→Cd (z2k k l)
 | [],_=>by show Cd 0;decide
 | x :: l,h=>by
  unfold z2k;split
  ·exact z4s (h x (.head _)) k
  ·exact zla k fun y hy=>h y (.tail _ hy)
theorem zge{l:List Itm}(h:∀x∈l,OkI x):Cd (z0v l):=by
 have:=zla 3 h;unfold z0v;split
 ·decide
 ·exact this
theorem zyz{x:Itm}(h:OkI x)(l:List (ByteArray×ByteArray)):Cd (z1p x l):=by
 have:=z4s h 4;unfold z1p z1w
 repeat' split
 all_goals first|exact this|decide
theorem q0m{x:Itm}(h:OkI x)(f:ByteArray):Cd (z56 x f):=by
 have:=z4s h 4;unfold z56
 repeat' split
 all_goals first|exact this|decide
theorem zly:∀(l:List (Int×ByteArray)),Cd (zc1 l)
 | []=>by decide
 | s :: r=>by
  have:=zly r;unfold zc1
  repeat' split
  all_goals first|exact this|decide
theorem zx3{x:Itm}(h:OkI x)(l:List (Int×ByteArray)):Cd (zbv x l):=by
 have:=z4s h 5;have h2:=zly l;unfold zbv zln z3z
 repeat' split
 all_goals first|exact this|exact h2|decide
theorem zrw{x:Itm}(h:OkI x)(m:ByteArray):Cd (z17 x m):=by
 have:=z4s h 5;unfold z17
 repeat' split
 all_goals first|exact this|decide
theorem zxn(p:ByteArray):Cd (z0y p):=by
 unfold z0y
 repeat' split
 all_goals decide
theorem q0c(now:Int):∀(l:List ByteArray) (s:List Ent) (n:Nat),(zj2 now l s n).2≤n+l.length
 | [],_,n=>Nat.le_refl _
 | k :: l,s,n=>by
  unfold zj2;have:=q0c now l (z8g s now k (z2p 0) 0) (n+if z9a s now k=true then 1 else 0);rw[List.length_cons];have hd:(if z9a s now k=true then 1 else 0)≤1:=by split <;> omega
  generalize (if z9a s now k=true then 1 else 0)=d at *;omega
theorem zqw:∀ {l:List Itm},(∀x∈l,OkI x)→(zbt l).length≤24 * l.length∧∀s∈zbt l,s.size≤60
 | [],_=>⟨Nat.le_refl _,fun s hs=>by cases hs⟩
 | x :: l,h=>by
  obtain⟨h1,h2⟩:=zqw (l:=l) fun y hy=>h y (.tail _ hy);have b:=zxz (h x (.head _));have e:zbt (x :: l)=x.list++zbt l:=by unfold zbt;rw[List.flatMap_cons]
  rw[e];refine⟨?_,fun s hs=>?_⟩
  ·have:=b.list;rw[List.length_append,List.length_cons];omega
  ·rcases List.mem_append.1 hs with hs|hs
   ·exact b.texts s hs
   ·exact h2 s hs
theorem zfr{l:List Itm}(h:∀x∈l,OkI x)(hl:l.length≤11)(p:Nat→Bool→Bool):z0d (z1z (z27 p l))=0:=by
 obtain⟨h1,h2⟩:=zqw h;unfold z27;split
 ·refine zay ?_ (fun s hs=>h2 s (List.mem_filter.1 (z8a.1 hs)).1);have:=za1 ((zbt l).filter (pick p l));have:=List.length_filter_le (pick p l) (zbt l);omega
 ·exact zay (by simp) (fun s hs=>by cases hs)
theorem ztn{s:List Ent}(ok:z1y s)(now:Int)(l:List ByteArray):∀x∈z06 s now l,OkI x:=fun x hx=>by
 obtain⟨k,_,rfl⟩:=List.mem_map.1 hx;exact zfp ok now k
theorem zub{x:Itm}{left:Bool}{l:List ByteArray}(h:z14 x l=0):(z7c x left l).length≤24:=by
 unfold z14 at h;rw[z43];split at h
 ·rename_i ha;exact absurd h ha
 ·split at h
  ·rename_i ha;exact absurd h ha
  ·split at h
   ·cases h
   ·omega
theorem zpz{x:Itm}(left:Bool)(l:List ByteArray):z0d (z0o (zc3 x left l))=0:=by
 unfold zc3;split
 ·rename_i h;have:=zub (left:=left) h;exact z5n (by omega) (by omega)
 ·decide
theorem zt0{l:List ByteArray}(h:∀s∈l,s.size≤60)(i:Nat):(l.getD i ⟨#[]⟩).size≤60:=by
 rw[List.getD_eq_getElem?_getD];rcases hq:l[i]? with _|s
 ·decide
 ·exact h s (List.mem_of_getElem? hq)
theorem zwk{x:Itm}(h:OkI x)(left:Bool):z0d (z1e (zt5 x left))=0:=by
 have b:=zxz h;unfold zt5 zzm;split
 ·exact zfy (zt0 b.texts _)
 ·decide
theorem zzx(n:Nat)(a b:Int):z5q n a b - z5u n a b≤n:=by
 have:=z5s n a b;omega
theorem zlc{l:List ByteArray}(hl:l.length≤24)(ht:∀s∈l,s.size≤60)(a b:Int):z0d (z1z (z25 l a b))=0:=by
 have:=zzx l.length a b;exact zay (by rw[z2e];omega) (fun s hs=>ht s (z6o hs))
theorem zox(c:Cm){s:List Ent}{now:Int}{l:List ByteArray}(ok:z1y s)(h0:0≤now∧now≤1000000)(hz:∀t∈l,t.size≤60)(hl:l.length≤12):z0d (doC c s now l).2=0:=by
 have hw:∀i,(wd l i).size≤60:=zck hz;have ho:=zfp ok now (wd l 1);have hb:=zxz ho;have ht:=zi3 ok now (wd l 1);have hi:=ztn ok now (l.drop 1);have hil:(z06 s now (l.drop 1)).length≤11:=by unfold z06;rw[List.length_map,List.length_drop];omega
 cases c
 case ping=>exact zy5
 case get=>
  simp only[doC];split
  ·exact z1o (fun _=>zrk) (z4s ho 1)
  ·exact z1o (fun _=>zfy hb.text) (z4s ho 1)
 case set_=>exact z1o (fun _=>zzb) (by decide)
 case append_=>
  refine z1o (fun he=>?_) (cd_ap ho _);unfold apN;rw[if_pos he];have h2:=hw 2;have h3:=hb.text;exact z5n (by omega) (by omega)
 case strlen=>
  refine z1o (fun he=>?_) (z4s ho 1);unfold lnN;rw[if_pos he];have h3:=hb.text;exact z5n (by omega) (by omega)
 case incrby=>
  refine z1o (fun he=>?_) (cd_ad ho _);unfold adN;rw[if_pos he];exact zr1 (adOk he)
 case getrange=>
  refine z1o (fun he=>?_) (z4s ho 1);unfold rgS;rw[if_pos he];refine zfy ?_;have h3:=hb.text;rw[ByteArray.size_extract];omega
 case del=>
  show z0d (z0o _)=0;have:=q0c now (l.drop 1) s 0;rw[List.length_drop] at this;exact z5n (by omega) (by omega)
 case exists_=>
  show z0d (z0o _)=0;have:=List.length_filter_le (fun k=>z9a s now k) (l.drop 1);rw[List.length_drop] at this;exact z5n (by omega) (by omega)
 case type_=>exact zz3 _
 case keys_=>
  refine z1o (fun he=>?_) (zxn _);have h1:=zlq s s.length now (wd l 1);rw[List.take_length] at h1;have:=ok.le;refine zay (by omega) (fun t ht=>?_);obtain⟨e,he,rfl⟩:=List.mem_map.1 ht;exact ok.keys e (List.mem_filter.1 he).1
 case expire=>
  simp only[doC];split
  ·show z0d (z0o 0)=0;decide
  ·split
   ·exact z1o (fun _=>by decide) (by decide)
   ·exact z1o (fun _=>by decide) (by split <;> decide)
 case ttl=>
  have h3:-1000000≤(z00 s now (wd l 1)).til - now∧(z00 s now (wd l 1)).til - now≤1000000:=by omega
  show z0d (z0o (if _ then _ else if _ then _ else _))=0;split
  ·decide
  ·split
   ·decide
   ·exact z5n h3.1 h3.2
 case persist=>
  simp only[doC];split
  ·show z0d (z0o 0)=0;decide
  ·exact z1o (fun _=>by decide) (by decide)
 case lpush=>exact z1o (fun _=>zpz _ _) (zsc ho _)
 case rpush=>exact z1o (fun _=>zpz _ _) (zsc ho _)
 case lpop=>exact z1o (fun _=>zwk ho _) (zwp ho)
 case rpop=>exact z1o (fun _=>zwk ho _) (zwp ho)
 case lrange=>exact z1o (fun _=>zlc hb.list hb.texts _ _) (z4s ho 2)
 case ltrim=>exact z1o (fun _=>zzb) (z4s ho 2)
 case lrem=>
  refine z1o (fun he=>?_) (z4s ho 2);unfold zw6;rw[if_pos he];have h1:(zo0 (z00 s now (wd l 1)).item (wd l 2)).length≤(z00 s now (wd l 1)).item.list.length:=List.length_filter_le _ _;have:=hb.list;exact z5n (by omega) (by omega)
 case sadd=>
  refine z1o (fun he=>?_) (zyq ho _);unfold ze5;rw[if_pos he];have h1:=(zjf he).2;have:=hb.list;exact z5n (by omega) (by omega)
 case srem=>
  refine z1o (fun he=>?_) (z4s ho 3);unfold zad;rw[if_pos he];have h1:(z91 (z00 s now (wd l 1)).item.list (l.drop 2)).length≤(z00 s now (wd l 1)).item.list.length:=List.length_filter_le _ _;have:=hb.list;exact z5n (by omega) (by omega)
 case sismember=>exact z1o (fun _=>by split <;> decide) (z4s ho 3)
 case smembers=>exact z1o (fun _=>zfr hi hil _) (zge hi)
 case sunion=>exact z1o (fun _=>zfr hi hil _) (zge hi)
 case sinter=>exact z1o (fun _=>zfr hi hil _) (zge hi)
 case sdiff=>exact z1o (fun _=>zfr hi hil _) (zge hi)
 case hset=>
  refine z1o (fun he=>?_) (zyz ho _);unfold zt7;rw[if_pos he];unfold z1p at he;split at he
  ·rename_i ha;exact absurd he ha
  ·split at he
   ·cases he
   ·have:=hb.pairs;exact z5n (by omega) (by omega)
 case hget=>
  refine z1o (fun he=>?_) (q0m ho _);unfold zt4;split
  ·decide
  ·split
   ·rename_i q hq;exact zfy (hb.fields q (zgj Prod.fst hq).1).2
   ·decide
 case hdel=>
  refine z1o (fun he=>?_) (z4s ho 4);unfold zek;rw[if_pos he];have h1:(zaq (z00 s now (wd l 1)).item (l.drop 2)).length≤(z00 s now (wd l 1)).item.pairs.length:=List.length_filter_le _ _;have:=hb.pairs;exact z5n (by omega) (by omega)
 case hgetall=>
  refine z1o (fun he=>?_) (z4s ho 4)
  have e:∀(q:List (ByteArray×ByteArray)),(q.flatMap fun p=>[p.1,p.2]).length=2 * q.length:=fun q=>by
   induction q with
   | nil=>rfl
   | cons p q ih=>rw[List.flatMap_cons,List.length_append,ih,List.length_cons];simp;omega
  have:=hb.pairs;refine zay (by rw[e];omega) (fun t ht=>?_);obtain⟨p,hp,hm⟩:=List.mem_flatMap.1 ht;have:=hb.fields p hp;rcases List.mem_cons.1 hm with rfl|hm
  ·exact this.1
  ·rw[List.mem_singleton.1 hm];exact this.2
 case zadd=>
  refine z1o (fun he=>?_) (zx3 ho _);unfold zep;rw[if_pos he];unfold zbv at he;split at he
  ·rename_i ha;exact absurd he ha
  ·split at he
   ·cases he
   ·have:=hb.scores;exact z5n (by omega) (by omega)
 case zrem=>
  refine z1o (fun he=>?_) (z4s ho 5);unfold z95;rw[if_pos he];have h1:(z8p (z00 s now (wd l 1)).item (l.drop 2)).length≤(z00 s now (wd l 1)).item.scores.length:=List.length_filter_le _ _;have:=hb.scores;exact z5n (by omega) (by omega)
 case zscore=>
  refine z1o (fun he=>?_) (zrw ho _);unfold zpc;rw[if_pos he,List.getD_eq_getElem?_getD];rcases hq:(z00 s now (wd l 1)).item.scores[(z6f (z00 s now (wd l 1)).item (wd l 2)).toNat]? with _|q
  ·decide
  ·exact zr1 (hb.members q (List.mem_of_getElem? hq)).1
 case zrank=>
  refine z1o (fun he=>?_) (zrw ho _);unfold za8;rw[if_pos he]
  have hr:-1≤z6f (z00 s now (wd l 1)).item (wd l 2)∧z6f (z00 s now (wd l 1)).item (wd l 2)≤24:=by
   unfold z6f;rcases zdh (wd l 2) (z00 s now (wd l 1)).item.scores with⟨h,_⟩|⟨k,q,h,hk,_,_⟩
   ·rw[h];omega
   ·rw[h];have h1:=(List.getElem?_eq_some_iff.1 hk).1;have:=hb.scores;omega
  exact z5n (by omega) (by omega)
 case zrange=>
  refine z1o (fun he=>?_) (z4s ho 5);unfold z6b;rw[if_pos he];refine zlc (by rw[List.length_map];exact hb.scores) (fun t ht=>?_) _ _;obtain⟨q,hq,rfl⟩:=List.mem_map.1 ht;exact(hb.members q hq).2
 case zrangebyscore=>
  refine z1o (fun he=>?_) (z4s ho 5);unfold z3x;rw[if_pos he];unfold z6i;have h1:=List.length_filter_le (fun s:Int×ByteArray=>decide (wn l 2≤s.1)&&decide (s.1≤wn l 3)) (z00 s now (wd l 1)).item.scores;have:=hb.scores;refine zay (by rw[List.length_map];omega) (fun t ht=>?_);obtain⟨q,hq,rfl⟩:=List.mem_map.1 ht;exact(hb.members q (List.mem_filter.1 hq).1).2
theorem ztc{l:List ByteArray}(h:z1v l≠0):1≤z1v l∧z1v l≤8:=by
 have hw:z0x l=0∨z0x l=1∨z0x l=2:=by
  unfold z0x
  repeat' split
  all_goals simp
 unfold z1v at *
 repeat' split
 all_goals first|omega|(simp_all;done)|(simp_all;omega)
theorem zsf{s:List Ent}{now:Int}{l:List ByteArray}(ok:z1y s)(h0:0≤now∧now≤1000000):z0d (doR s now l).2=0:=by
 unfold doR;by_cases hk:z1v l=0
 ·rw[if_neg (by simpa using hk)]
  have hl:l.length≤12:=by
   obtain⟨c0,l',c,rfl,_,_,KF⟩:=z92 hk;have:=KF.le;rw[List.length_cons];omega
  split
  ·show z0d (z7n 5)=0;exact zgo (by decide)
  ·exact zox _ ok h0 (zew hk) hl
 ·rw[if_pos hk];exact zgo (ztc hk)
def Cm.reads:Cm→Bool
 | .ping|.get|.strlen|.getrange|.exists_|.type_|.keys_|.ttl|.lrange|.sismember|.smembers|.sinter|.sunion|.sdiff|.hget|.hgetall|.zscore|.zrank|.zrange|.zrangebyscore=>true
 | _=>false
theorem zpl{c:Cm}(h:c.reads=true)(s:List Ent)(now:Int)(l:List ByteArray):(doC c s now l).1=s:=by
 have hf:=fun y til nn e r=>congrArg Prod.fst (z26 s now (wd l 1) y til nn e r);cases c
 case get=>
  simp only[doC];split
  ·exact hf _ _ _ _ _
  ·exact hf _ _ _ _ _
 all_goals first|cases h;done|rfl|exact hf _ _ _ _ _
def z9o(s:ByteArray):Bool:=match zwx s.data.toList with
 | some c=>c.reads
 | none=>false
theorem zv9(c:Cm):zwx (c.bs.map zbs)=some c:=by cases c <;> decide
theorem zpf{s:List Ent}{now:Int}{l:List ByteArray}(h:z9o (l.getD 0 ⟨#[]⟩)=true):(doR s now l).1=s:=by
 unfold z9o at h;unfold doR;by_cases hk:z1v l=0
 ·rw[if_neg (by simpa using hk)];rcases hc:zwx (l.getD 0 ⟨#[]⟩).data.toList with _|c
  ·rw[hc] at h;cases h
  ·rw[hc] at h
   have:cmL l=some c:=by
    unfold cmL zwv;rw[z9k hc];exact zv9 c
   rw[this];exact zpl h s now l
 ·rw[if_pos hk]
theorem zp0{s:List Ent}{now:Int}{l:List ByteArray}(h:(doR s now l).2.kind=2):(doR s now l).1=s:=by
 unfold doR at h ⊢;by_cases hk:z1v l=0
 ·rw[if_neg (by simpa using hk)] at h ⊢;split
  ·rfl
  ·rename_i c hc;rw[hc] at h;exact zsu c s now l h
 ·rw[if_pos hk]
structure LE(w0:World)(bl:List (Nat×List Value))(es:List (Value×List Ent))(rp:List (Value×Rep))(rs:List (Value×List ByteArray))(wr:World):Prop where
 f:Fr [] w0 wr
 v:Vars wr
 bl:∀p∈bl,Whole wr p.1 27 p.2
 es:∀p∈es,z1l wr wr.heap.size p.1 p.2
 rp:∀p∈rp,zam wr wr.heap.size p.1 p.2
 rs:∀p∈rs,Sl wr wr.heap.size 1 p.1 p.2.length (z04 p.2)
section
variable {w0 wr w1:World} {bl:List (Nat×List Value)} {es:List (Value×List Ent)} {rp:List (Value×Rep)} {rs:List (Value×List ByteArray)}
theorem LE.start{w:World}(hv:Vars w):LE w [] [] [] [] w:=
 ⟨Fr.refl _ _,hv,fun p hp=>by (cases hp),fun p hp=>by (cases hp),fun p hp=>by (cases hp),fun p hp=>by (cases hp)⟩
theorem LE.go(h:LE w0 bl es rp rs wr)(k:Fr [] wr w1):LE w0 bl es rp rs w1:=
 ⟨h.f.trans k,h.v.fr k,fun p hp=>(h.bl p hp).f0 k,fun p hp=>(h.es p hp).go k,fun p hp=>(h.rp p hp).go k,fun p hp=>((h.rs p hp).fr k (Nat.le_refl _) (by simp)).more k.size⟩
theorem LE.alloc(h:LE w0 bl es rp rs wr)(o:Obj):LE w0 bl es rp rs (wr.alloc o):=h.go ((Fr.refl [] wr).alloc o)
theorem LE.ents{v:Value}{l:List Ent}(h:LE w0 bl es rp rs wr)(hv:z1l wr wr.heap.size v l):LE w0 bl ((v,l) :: es) rp rs wr:=
 ⟨h.f,h.v,h.bl,fun p hp=>by
  rcases List.mem_cons.1 hp with rfl|hp
  ·exact hv
  ·exact h.es p hp,h.rp,h.rs⟩
theorem LE.rep{v:Value}{r:Rep}(h:LE w0 bl es rp rs wr)(hv:zam wr wr.heap.size v r):LE w0 bl es ((v,r) :: rp) rs wr:=
 ⟨h.f,h.v,h.bl,h.es,fun p hp=>by
  rcases List.mem_cons.1 hp with rfl|hp
  ·exact hv
  ·exact h.rp p hp,h.rs⟩
theorem LE.row{v:Value}{l:List ByteArray}(h:LE w0 bl es rp rs wr)(hv:Sl wr wr.heap.size 1 v l.length (z04 l)):LE w0 bl es rp ((v,l) :: rs) wr:=
 ⟨h.f,h.v,h.bl,h.es,h.rp,fun p hp=>by
  rcases List.mem_cons.1 hp with rfl|hp
  ·exact hv
  ·exact h.rs p hp⟩
theorem LE.box(h:LE w0 bl es rp rs wr)(a b c d:Value):LE w0 ((wr.heap.size,[a,b,c,d]) :: bl) es rp rs (wr.alloc (.cells #[a,b,c,d] 27)):=
 have k:=h.alloc (.cells #[a,b,c,d] 27)
 ⟨k.f,k.v,fun p hp=>by
  rcases List.mem_cons.1 hp with rfl|hp
  ·exact Whole.new wr _ [a,b,c,d]
  ·exact k.bl p hp,k.es,k.rp,k.rs⟩
theorem LE.lit1(h:LE w0 bl es rp rs wr)(a:ByteArray):LE w0 bl es rp ((.slice (some ⟨wr.heap.size,0,none⟩) 1 1,[a]) :: rs) (wr.alloc (.cells #[.string a] 9)):=
 (h.alloc _).row (z0s (World.ownsRow_lit (base:=wr.heap.size) (e:=9) (size:=1) wr #[.string a] 1 (Nat.le_refl _) (by decide) rfl))
theorem LE.lit2(h:LE w0 bl es rp rs wr)(a b:ByteArray):LE w0 bl es rp ((.slice (some ⟨wr.heap.size,0,none⟩) 2 2,[a,b]) :: rs) (wr.alloc (.cells #[.string a,.string b] 9)):=
 (h.alloc _).row (z0s (World.ownsRow_lit (base:=wr.heap.size) (e:=9) (size:=1) wr #[.string a,.string b] 2 (Nat.le_refl _) (by decide) rfl))
theorem LE.lit3(h:LE w0 bl es rp rs wr)(a b c:ByteArray):LE w0 bl es rp ((.slice (some ⟨wr.heap.size,0,none⟩) 3 3,[a,b,c]) :: rs) (wr.alloc (.cells #[.string a,.string b,.string c] 9)):=
 (h.alloc _).row (z0s (World.ownsRow_lit (base:=wr.heap.size) (e:=9) (size:=1) wr #[.string a,.string b,.string c] 3 (Nat.le_refl _) (by decide) rfl))
theorem LE.lit4(h:LE w0 bl es rp rs wr)(a b c d:ByteArray):LE w0 bl es rp ((.slice (some ⟨wr.heap.size,0,none⟩) 4 4,[a,b,c,d]) :: rs) (wr.alloc (.cells #[.string a,.string b,.string c,.string d] 9)):=
 (h.alloc _).row (z0s (World.ownsRow_lit (base:=wr.heap.size) (e:=9) (size:=1) wr #[.string a,.string b,.string c,.string d] 4 (Nat.le_refl _) (by decide) rfl))
end
theorem zva{s:List Ent}{now:Int}{l:List ByteArray}(ok:z1y s)(h0:0≤now∧now≤1000000)(hl:l.length≤281474976710656)(W:World)(sv:Value)(A:Option Addr)(c:Nat)(hv:Vars W)(h:z1l W W.heap.size sv s)(hL:Sl W W.heap.size 1 (.slice A l.length c) l.length (z04 l)):
  Calls prog 10 #[sv,.int .i64 now,.slice A l.length c] W (DoQ (doR s now l).1 (doR s now l).2 0 W):=by
 have:=zil s sv now l A c W.heap.size W (z09 ok) (by have:=ok.le;omega) hl hv (Nat.le_refl _) h hL;unfold doS doV at this;rw[zw8 ok h0,if_pos rfl,if_pos rfl] at this;exact this
def ebA:List ByteArray:=[⟨#[73,78,67,82,66,89]⟩,⟨#[116]⟩,⟨#[51]⟩]
def ebB:List ByteArray:=[⟨#[108,112,111,112]⟩,⟨#[108]⟩]
def ebC:List ByteArray:=[⟨#[103,101,116]⟩,⟨#[108]⟩]
def ebD:List ByteArray:=[⟨#[116,116,108]⟩,⟨#[116]⟩]
theorem eb_a:(doR z0z 5 ebA).1=[⟨⟨#[108]⟩,zc5,0⟩,⟨⟨#[116]⟩,adY zej 3,10⟩]:=by kernel_rfl
theorem zzt:(doR z0z 5 ebA).2=z0o 10:=by kernel_rfl
theorem eb_b:(doR z0z 5 ebB).1=[⟨⟨#[108]⟩,zfi [⟨#[98]⟩,⟨#[97]⟩],0⟩,⟨⟨#[116]⟩,zej,10⟩]:=by kernel_rfl
theorem eb_br:(doR z0z 5 ebB).2=z1e ⟨#[97]⟩:=by kernel_rfl
theorem q06:(doR z0z 5 ebC).2=z7n 7:=by kernel_rfl
theorem eb_dr:(doR z0z 5 ebD).2=z0o 5:=by kernel_rfl
theorem eb_k1:z1v [⟨#[122,97,100,100]⟩,⟨#[107]⟩,⟨#[49]⟩,⟨#[109]⟩]=0:=by kernel_rfl
theorem eb_k2:z1v [⟨#[122,97,100,100]⟩,⟨#[107]⟩,⟨#[120]⟩,⟨#[109]⟩]=3:=by kernel_rfl
theorem eb_k3:z1v [⟨#[110,111]⟩]=5:=by kernel_rfl
theorem sb_ok:z1y z0z:=zwu zlt
theorem zd1(w:World)(hv:Vars w):Calls prog 13 #[] w fun e w'=>e=.returned (.bool true)∧Fr [] w w':=by
 have S0:=hid (LE.start hv);have DO:=hid (fun(l:List ByteArray) (hl:l.length≤4) W sv A c hv h hL=>zva (s:=z0z) (now:=5) (l:=l) sb_ok ⟨by decide,by decide⟩ (by omega) W sv A c hv h hL);have KN:=hid (fun(l:List ByteArray) (hl:l.length≤4) W A c (hv:Vars W) h=>zaa l A c W.heap.size W (by omega) hv (Nat.le_refl _) h);unfold KnP at KN;have RA:=hid zzt;have EA:=hid (show(doR z0z 5 ebA).1.length=2∧(doR z0z 5 ebA).1[1]? = some ⟨⟨#[116]⟩,adY zej 3,10⟩ from by rw[eb_a];exact⟨rfl,rfl⟩);have EB:=hid (show(doR z0z 5 ebB).1.length=2∧(doR z0z 5 ebB).1[0]? = some ⟨⟨#[108]⟩,zfi [⟨#[98]⟩,⟨#[97]⟩],0⟩ from by rw[eb_b];exact⟨rfl,rfl⟩);have ka:((doR z0z 5 ebA).2.n==10)=true:=by rw[zzt];rfl
 have kb:((doR z0z 5 ebB).2.text.toList==[97])=true:=by rw[eb_br,ByteArray.toList_eq];rfl
 have kc:((doR z0z 5 ebC).2.kind==2)=true:=by rw[q06];rfl
 have kc2:((doR z0z 5 ebC).2.n==7)=true:=by rw[q06];rfl
 have kd:((doR z0z 5 ebD).2.n==5)=true:=by rw[eb_dr];rfl
 have DA:=hid (fun W sv (b:Nat) (h:z1l W W.heap.size sv z0z) (hv:Vars W) (hL:Sl W W.heap.size 1 (.slice (some ⟨b,0,none⟩) 3 3) 3 (z04 ebA))=>(show Calls prog 10 #[sv,.int .i64 5,.slice (some ⟨b,0,none⟩) 3 3] W (DoQ (doR z0z 5 ebA).1 (doR z0z 5 ebA).2 0 W) from DO.out ebA (by decide) W sv _ _ hv h hL));have DB:=hid (fun W sv (b:Nat) (h:z1l W W.heap.size sv z0z) (hv:Vars W) (hL:Sl W W.heap.size 1 (.slice (some ⟨b,0,none⟩) 2 2) 2 (z04 ebB))=>(show Calls prog 10 #[sv,.int .i64 5,.slice (some ⟨b,0,none⟩) 2 2] W (DoQ (doR z0z 5 ebB).1 (doR z0z 5 ebB).2 0 W) from DO.out ebB (by decide) W sv _ _ hv h hL));have DC:=hid (fun W sv (b:Nat) (h:z1l W W.heap.size sv z0z) (hv:Vars W) (hL:Sl W W.heap.size 1 (.slice (some ⟨b,0,none⟩) 2 2) 2 (z04 ebC))=>(show Calls prog 10 #[sv,.int .i64 5,.slice (some ⟨b,0,none⟩) 2 2] W (DoQ (doR z0z 5 ebC).1 (doR z0z 5 ebC).2 0 W) from DO.out ebC (by decide) W sv _ _ hv h hL));have DD:=hid (fun W sv (b:Nat) (h:z1l W W.heap.size sv z0z) (hv:Vars W) (hL:Sl W W.heap.size 1 (.slice (some ⟨b,0,none⟩) 2 2) 2 (z04 ebD))=>(show Calls prog 10 #[sv,.int .i64 5,.slice (some ⟨b,0,none⟩) 2 2] W (DoQ (doR z0z 5 ebD).1 (doR z0z 5 ebD).2 0 W) from DO.out ebD (by decide) W sv _ _ hv h hL));generalize (doR z0z 5 ebA).1=ea at *;generalize (doR z0z 5 ebB).1=eb at *;generalize (doR z0z 5 ebC).1=ec at *;generalize (doR z0z 5 ebD).1=ed at *;generalize (doR z0z 5 ebA).2=ra at *;generalize (doR z0z 5 ebB).2=rb at *;generalize (doR z0z 5 ebC).2=rc at *;generalize (doR z0z 5 ebD).2=rd at *;clear DO RA;go_enter Tryz.func13,Tryz.ntmps13;go_wp2_with fail;refine(z7m _).mono ?_;rintro e w1 ⟨u1,rfl,o1,f1⟩;obtain⟨A1,c1,rfl⟩:=o1.form;have S1:=hid (((S0.out.go f1).ents o1.v).lit3 ⟨#[73,78,67,82,66,89]⟩ ⟨#[116]⟩ ⟨#[51]⟩);clear o1 f1 S0;have C1:=hid (DA.out (w1.alloc (.cells #[.string ⟨#[73,78,67,82,66,89]⟩,.string ⟨#[116]⟩,.string ⟨#[51]⟩] 9)) _ _ (S1.out.es _ (.head _)) S1.out.v (S1.out.rs _ (.head _)));go_wp2_with fail;refine C1.out.mono ?_;rintro e w2 ⟨u2,v2,rfl,o2,r2,f2⟩;obtain⟨PA,pA,rfl⟩:=o2.form;obtain⟨RA,tA,rfl⟩:=r2.form;have S2:=hid ((((S1.out.go f2).ents o2.v).rep r2.v).box (.int .i64 ra.kind) (.string ra.text) (.int .i64 ra.n) (.slice RA ra.list.length tA));clear o2 r2 f2 S1 C1 DA;go_wp2_with fail;refine(z7m _).mono ?_;rintro e w3 ⟨u3,rfl,o3,f3⟩;obtain⟨A3,c3,rfl⟩:=o3.form;have S3:=hid (((S2.out.go f3).ents o3.v).lit2 ⟨#[108,112,111,112]⟩ ⟨#[108]⟩);clear o3 f3 S2;have C3:=hid (DB.out (w3.alloc (.cells #[.string ⟨#[108,112,111,112]⟩,.string ⟨#[108]⟩] 9)) _ _ (S3.out.es _ (.head _)) S3.out.v (S3.out.rs _ (.head _)));go_wp2_with fail;refine C3.out.mono ?_;rintro e w4 ⟨u4,v4,rfl,o4,r4,f4⟩;obtain⟨PB,pB,rfl⟩:=o4.form;obtain⟨RB,tB,rfl⟩:=r4.form;have S4:=hid ((((S3.out.go f4).ents o4.v).rep r4.v).box (.int .i64 rb.kind) (.string rb.text) (.int .i64 rb.n) (.slice RB rb.list.length tB));clear o4 r4 f4 S3 C3 DB;go_wp2_with fail;refine(z7m _).mono ?_;rintro e w5 ⟨u5,rfl,o5,f5⟩;obtain⟨A5,c5,rfl⟩:=o5.form
 have S5:=hid (((S4.out.go f5).ents o5.v).lit2 ⟨#[103,101,116]⟩ ⟨#[108]⟩);clear o5 f5 S4;have C5:=hid (DC.out (w5.alloc (.cells #[.string ⟨#[103,101,116]⟩,.string ⟨#[108]⟩] 9)) _ _ (S5.out.es _ (.head _)) S5.out.v (S5.out.rs _ (.head _)));go_wp2_with fail;refine C5.out.mono ?_;rintro e w6 ⟨u6,v6,rfl,o6,r6,f6⟩;obtain⟨PC,pC,rfl⟩:=o6.form;obtain⟨RC,tC,rfl⟩:=r6.form;have S6:=hid ((((S5.out.go f6).ents o6.v).rep r6.v).box (.int .i64 rc.kind) (.string rc.text) (.int .i64 rc.n) (.slice RC rc.list.length tC));clear o6 r6 f6 S5 C5 DC;go_wp2_with fail;refine(z7m _).mono ?_;rintro e w7 ⟨u7,rfl,o7,f7⟩;obtain⟨A7,c7,rfl⟩:=o7.form;have S7:=hid (((S6.out.go f7).ents o7.v).lit2 ⟨#[116,116,108]⟩ ⟨#[116]⟩);clear o7 f7 S6;have C7:=hid (DD.out (w7.alloc (.cells #[.string ⟨#[116,116,108]⟩,.string ⟨#[116]⟩] 9)) _ _ (S7.out.es _ (.head _)) S7.out.v (S7.out.rs _ (.head _)));go_wp2_with fail;refine C7.out.mono ?_;rintro e w8 ⟨u8,v8,rfl,o8,r8,f8⟩;obtain⟨PD,pD,rfl⟩:=o8.form;obtain⟨RD,tD,rfl⟩:=r8.form;have S8:=hid ((((S7.out.go f8).ents o8.v).rep r8.v).box (.int .i64 rd.kind) (.string rd.text) (.int .i64 rd.n) (.slice RD rd.list.length tD));clear o8 r8 f8 S7 C7 DD;have T9:=hid (S8.out.lit4 ⟨#[122,97,100,100]⟩ ⟨#[107]⟩ ⟨#[49]⟩ ⟨#[109]⟩);have K9:=hid (show Calls prog 14 #[.slice (some ⟨w8.heap.size+1,0,none⟩) 4 4] ((w8.alloc (.cells (yRa rd RD tD) 27)).alloc (.cells #[.string ⟨#[122,97,100,100]⟩,.string ⟨#[107]⟩,.string ⟨#[49]⟩,.string ⟨#[109]⟩] 9)) (fun e w'=>e=.returned (.int .i64 0)∧Fr [] ((w8.alloc (.cells (yRa rd RD tD) 27)).alloc (.cells #[.string ⟨#[122,97,100,100]⟩,.string ⟨#[107]⟩,.string ⟨#[49]⟩,.string ⟨#[109]⟩] 9)) w') from by have:=KN.out [⟨#[122,97,100,100]⟩,⟨#[107]⟩,⟨#[49]⟩,⟨#[109]⟩] (by decide) _ _ _ T9.out.v (T9.out.rs _ (.head _));rw[eb_k1] at this;simpa using this);go_wp2_with fail;refine K9.out.mono ?_;rintro e w9 ⟨rfl,f9⟩;have S9:=hid (T9.out.go f9);clear f9 S8 T9 K9;have T10:=hid (S9.out.lit4 ⟨#[122,97,100,100]⟩ ⟨#[107]⟩ ⟨#[120]⟩ ⟨#[109]⟩);have K10:=hid (show Calls prog 14 #[.slice (some ⟨w9.heap.size,0,none⟩) 4 4] ((w9).alloc (.cells #[.string ⟨#[122,97,100,100]⟩,.string ⟨#[107]⟩,.string ⟨#[120]⟩,.string ⟨#[109]⟩] 9)) (fun e w'=>e=.returned (.int .i64 3)∧Fr [] ((w9).alloc (.cells #[.string ⟨#[122,97,100,100]⟩,.string ⟨#[107]⟩,.string ⟨#[120]⟩,.string ⟨#[109]⟩] 9)) w') from by have:=KN.out [⟨#[122,97,100,100]⟩,⟨#[107]⟩,⟨#[120]⟩,⟨#[109]⟩] (by decide) _ _ _ T10.out.v (T10.out.rs _ (.head _));rw[eb_k2] at this;exact this);go_wp2_with fail;refine K10.out.mono ?_;rintro e w10 ⟨rfl,f10⟩;have S10:=hid (T10.out.go f10);clear f10 S9 T10 K10;have T11:=hid (S10.out.lit1 ⟨#[110,111]⟩);have K11:=hid (show Calls prog 14 #[.slice (some ⟨w10.heap.size,0,none⟩) 1 1] ((w10).alloc (.cells #[.string ⟨#[110,111]⟩] 9)) (fun e w'=>e=.returned (.int .i64 5)∧Fr [] ((w10).alloc (.cells #[.string ⟨#[110,111]⟩] 9)) w') from by have:=KN.out [⟨#[110,111]⟩] (by decide) _ _ _ T11.out.v (T11.out.rs _ (.head _));rw[eb_k3] at this;exact this);go_wp2_with fail;refine K11.out.mono ?_
 rintro e w11 ⟨rfl,f11⟩;have S11:=hid (T11.out.go f11);clear f11 S10 T11 K11;clear KN;have la:(1:Int) < (ea.length:Int):=by have:=EA.out.1;omega
 have lb:(0:Int) < (eb.length:Int):=by have:=EB.out.1;omega
 obtain⟨ba,oa,rfl,hba,hca,hma,hata⟩:=(S11.out.es _ (.tail _ (.tail _ (.tail _ (.tail _ (.tail _ (.tail _ (.head _)))))))).at_ (by omega);obtain⟨bb,ob,rfl,hbb,hcb,hmb,hatb⟩:=(S11.out.es _ (.tail _ (.tail _ (.tail _ (.tail _ (.head _)))))).at_ (by omega);obtain⟨X1,X2,X3,x1,x2,x3,ha7⟩:=hata 1 _ EA.out.2;obtain⟨Y1,Y2,Y3,y1,y2,y3,hb7⟩:=hatb 0 _ EB.out.2;have ga:=ha7.k6;have gb:=hb7.k3;clear ha7 hb7 hata hatb;obtain⟨a0,a1,a2,a3⟩:=four (S11.out.bl _ (.tail _ (.tail _ (.tail _ (.head _)))));obtain⟨b0,b1,b2,b3⟩:=four (S11.out.bl _ (.tail _ (.tail _ (.head _))));obtain⟨c0,c1,c2,c3⟩:=four (S11.out.bl _ (.tail _ (.head _)));obtain⟨d0,d1,d2,d3⟩:=four (S11.out.bl _ (.head _));unfold maxLen at hma hmb;go_wp2;go_ret;exact⟨rfl,S11.out.f⟩
theorem z1a(t:ByteArray)(ht:t=⟨#[112,105,110,103]⟩∨t=⟨#[103,101,116]⟩∨t=⟨#[115,116,114,108,101,110]⟩∨t=⟨#[103,101,116,114,97,110,103,101]⟩∨t=⟨#[101,120,105,115,116,115]⟩∨t=⟨#[116,121,112,101]⟩∨t=⟨#[107,101,121,115]⟩∨t=⟨#[116,116,108]⟩∨t=⟨#[108,114,97,110,103,101]⟩∨t=⟨#[115,105,115,109,101,109,98,101,114]⟩∨t=⟨#[115,109,101,109,98,101,114,115]⟩∨t=⟨#[115,105,110,116,101,114]⟩∨t=⟨#[115,117,110,105,111,110]⟩∨t=⟨#[115,100,105,102,102]⟩∨t=⟨#[104,103,101,116]⟩∨t=⟨#[104,103,101,116,97,108,108]⟩∨t=⟨#[122,115,99,111,114,101]⟩∨t=⟨#[122,114,97,110,107]⟩∨t=⟨#[122,114,97,110,103,101]⟩∨t=⟨#[122,114,97,110,103,101,98,121,115,99,111,114,101]⟩)(w:World):Calls prog 38 #[.string t] w fun e w'=>e=.returned (.bool true)∧Fr [] w w':=by
 rcases ht with rfl|rfl|rfl|rfl|rfl|rfl|rfl|rfl|rfl|rfl|rfl|rfl|rfl|rfl|rfl|rfl|rfl|rfl|rfl|rfl
 all_goals
  go_enter Tryz.func38,Tryz.ntmps38;go_wp2;go_ret;exact⟨rfl,Fr.refl _ _⟩
theorem zvz(s:ByteArray)(w:World)(h:∀c:Cm,c.reads=true→s.data.toList≠c.bs):Calls prog 38 #[.string s] w fun e w'=>e=.returned (.bool false)∧Fr [] w w':=by
 have q_ping:=z3o (show s.data.toList≠[112,105,110,103] from h .ping rfl);have q_get:=z3o (show s.data.toList≠[103,101,116] from h .get rfl);have q_strlen:=z3o (show s.data.toList≠[115,116,114,108,101,110] from h .strlen rfl);have q_getrange:=z3o (show s.data.toList≠[103,101,116,114,97,110,103,101] from h .getrange rfl);have q_exists_:=z3o (show s.data.toList≠[101,120,105,115,116,115] from h .exists_ rfl);have q_type_:=z3o (show s.data.toList≠[116,121,112,101] from h .type_ rfl);have q_keys_:=z3o (show s.data.toList≠[107,101,121,115] from h .keys_ rfl);have q_ttl:=z3o (show s.data.toList≠[116,116,108] from h .ttl rfl);have q_lrange:=z3o (show s.data.toList≠[108,114,97,110,103,101] from h .lrange rfl);have q_sismember:=z3o (show s.data.toList≠[115,105,115,109,101,109,98,101,114] from h .sismember rfl);have q_smembers:=z3o (show s.data.toList≠[115,109,101,109,98,101,114,115] from h .smembers rfl);have q_sinter:=z3o (show s.data.toList≠[115,105,110,116,101,114] from h .sinter rfl);have q_sunion:=z3o (show s.data.toList≠[115,117,110,105,111,110] from h .sunion rfl);have q_sdiff:=z3o (show s.data.toList≠[115,100,105,102,102] from h .sdiff rfl);have q_hget:=z3o (show s.data.toList≠[104,103,101,116] from h .hget rfl);have q_hgetall:=z3o (show s.data.toList≠[104,103,101,116,97,108,108] from h .hgetall rfl);have q_zscore:=z3o (show s.data.toList≠[122,115,99,111,114,101] from h .zscore rfl);have q_zrank:=z3o (show s.data.toList≠[122,114,97,110,107] from h .zrank rfl);have q_zrange:=z3o (show s.data.toList≠[122,114,97,110,103,101] from h .zrange rfl);have q_zrangebyscore:=z3o (show s.data.toList≠[122,114,97,110,103,101,98,121,115,99,111,114,101] from h .zrangebyscore rfl);clear h;go_enter Tryz.func38,Tryz.ntmps38;go_wp2;go_ret;exact⟨rfl,Fr.refl _ _⟩
theorem zsy(s:ByteArray)(w:World):Calls prog 38 #[.string s] w fun e w'=>e=.returned (.bool (z9o s))∧Fr [] w w':=by
 by_cases hr:z9o s=true
 ·rw[hr];unfold z9o at hr;rcases hc:zwx s.data.toList with _|c
  ·rw[hc] at hr;cases hr
  ·rw[hc] at hr
   have hs:s=toB c.bs:=by
    have:=z9k hc;apply ByteArray.ext;apply Array.ext';exact this
   subst hs;clear hc;cases c
   all_goals first|(cases hr;done)|skip
   case ping=>exact z1a _ (.inl rfl) w
   case get=>exact z1a _ (.inr (.inl rfl)) w
   case strlen=>exact z1a _ (.inr (.inr (.inl rfl))) w
   case getrange=>exact z1a _ (.inr (.inr (.inr (.inl rfl)))) w
   case exists_=>exact z1a _ (.inr (.inr (.inr (.inr (.inl rfl))))) w
   case type_=>exact z1a _ (.inr (.inr (.inr (.inr (.inr (.inl rfl)))))) w
   case keys_=>exact z1a _ (.inr (.inr (.inr (.inr (.inr (.inr (.inl rfl))))))) w
   case ttl=>exact z1a _ (.inr (.inr (.inr (.inr (.inr (.inr (.inr (.inl rfl)))))))) w
   case lrange=>exact z1a _ (.inr (.inr (.inr (.inr (.inr (.inr (.inr (.inr (.inl rfl))))))))) w
   case sismember=>exact z1a _ (.inr (.inr (.inr (.inr (.inr (.inr (.inr (.inr (.inr (.inl rfl)))))))))) w
   case smembers=>exact z1a _ (.inr (.inr (.inr (.inr (.inr (.inr (.inr (.inr (.inr (.inr (.inl rfl))))))))))) w
   case sinter=>exact z1a _ (.inr (.inr (.inr (.inr (.inr (.inr (.inr (.inr (.inr (.inr (.inr (.inl rfl)))))))))))) w
   case sunion=>exact z1a _ (.inr (.inr (.inr (.inr (.inr (.inr (.inr (.inr (.inr (.inr (.inr (.inr (.inl rfl))))))))))))) w
   case sdiff=>exact z1a _ (.inr (.inr (.inr (.inr (.inr (.inr (.inr (.inr (.inr (.inr (.inr (.inr (.inr (.inl rfl)))))))))))))) w
   case hget=>exact z1a _ (.inr (.inr (.inr (.inr (.inr (.inr (.inr (.inr (.inr (.inr (.inr (.inr (.inr (.inr (.inl rfl))))))))))))))) w
   case hgetall=>exact z1a _ (.inr (.inr (.inr (.inr (.inr (.inr (.inr (.inr (.inr (.inr (.inr (.inr (.inr (.inr (.inr (.inl rfl)))))))))))))))) w
   case zscore=>exact z1a _ (.inr (.inr (.inr (.inr (.inr (.inr (.inr (.inr (.inr (.inr (.inr (.inr (.inr (.inr (.inr (.inr (.inl rfl))))))))))))))))) w
   case zrank=>exact z1a _ (.inr (.inr (.inr (.inr (.inr (.inr (.inr (.inr (.inr (.inr (.inr (.inr (.inr (.inr (.inr (.inr (.inr (.inl rfl)))))))))))))))))) w
   case zrange=>exact z1a _ (.inr (.inr (.inr (.inr (.inr (.inr (.inr (.inr (.inr (.inr (.inr (.inr (.inr (.inr (.inr (.inr (.inr (.inr (.inl rfl))))))))))))))))))) w
   case zrangebyscore=>exact z1a _ (.inr (.inr (.inr (.inr (.inr (.inr (.inr (.inr (.inr (.inr (.inr (.inr (.inr (.inr (.inr (.inr (.inr (.inr (.inr (rfl)))))))))))))))))))) w
 ·have hf:z9o s=false:=by simpa using hr
  rw[hf];refine zvz s w (fun c hc he=>hr ?_);unfold z9o;rw[he,zxf];exact hc
end Go.Proofs.YtmalkppcahogjaaGreatDoor
