/- Contracts; no condition but each theorem's own. -/
import Derived.Test.YtmkhmejempcimaaGreatDoorSlU31
set_option linter.unusedVariables false
set_option linter.unusedSimpArgs false
set_option maxHeartbeats 8000000
set_option maxRecDepth 100000
namespace Go.Proofs.YtmkhmejempcimaaGreatDoor
open Lib (hid)
open Go.Proofs.Tryz (prog)
open Go.RowKit
def UnO(s t:Sto)(c:Int):Prop:=t.Small∧(c=0→z07 t=0∧z0k t=z0k s)
theorem z8c:noS.Small:=z0n (zfg (by decide +kernel))
theorem zkg{s:Sto}(h:z07 s=0)(k:ByteArray):UnO s (z29 s k).1 (z29 s k).2:=by
 unfold z29;rw[if_pos h];by_cases hc:(z38 s k).2=0
 ·have:=zhz (t:=(z38 s k).1) (k:=k) (zfg h) (by rw[←hc]);exact⟨z0n this.1,fun _=>⟨z3a this.1,this.2⟩⟩
 ·rw[zcm hc];exact⟨z8c,fun e=>absurd e hc⟩
theorem zlu{s:Sto}(h:z07 s=0)(k:ByteArray):UnO s (z2f s k).1 (z2f s k).2:=by
 unfold z2f;rw[if_pos h];by_cases hc:(z3s s k).2=0
 ·have:=ziy (t:=(z3s s k).1) (k:=k) (zfg h) (by rw[←hc]);exact⟨z0n this.1,fun _=>⟨z3a this.1,this.2⟩⟩
 ·rw[zci hc];exact⟨z8c,fun e=>absurd e hc⟩
theorem zle{s:Sto}(h:z07 s=0)(n:Int):UnO s (z1p s n).1 (z1p s n).2.2:=by
 unfold z1p;rw[if_pos h];by_cases hc:(z0z s n).2.2=0
 ·have:=zdy (t:=(z0z s n).1) (n:=n) (c:=(z0z s n).2.1) (zfg h) (by rw[←hc]);exact⟨z0n this.1,fun _=>⟨z3a this.1,this.2⟩⟩
 ·rw[(z62 hc).1];exact⟨z8c,fun e=>absurd e hc⟩
theorem z9z(hb:∀W:World,Vars W→Calls prog 6 #[] W fun e w'=>e=.returned (.bool true)∧Fr [] W w')(s:Sto)(v:Value)(key:ByteArray)(n:Int)(w:World)(B:Nat)(hB:B≤w.heap.size)(h:z2h w B v s)(hs:s.Small)(hv:Vars w):
  Calls prog 3 #[v,.string key,.int .i64 n] w fun e w'=>e=.returned (.bool true)∧Fr [] w w':=by
 obtain⟨A0,n0,R0,r0,rfl⟩:=h.form;have S0:=hid ((((LC.start hv).sto (h.more hB)).box [.slice A0 s.slots.length n0,.slice R0 s.segs.length r0] 25));have BG:=hid hb;have VS:=hid (fun W v (h:z2h W W.heap.size v s)=>zmb s v W hs h);have CO:=hid (fun W v (h:z2h W W.heap.size v s)=>zp2 s v key W hs h);have WA:=hid (fun W v (h:z2h W W.heap.size v s)=>zpv s v key W hs h);have GA:=hid (fun W v (h:z2h W W.heap.size v s)=>zki s v n W hs h)
 have VV:=hid (fun(t:Sto) (c:Int) W v (hu:UnO s t c) (hc:c=0) (h:z2h W W.heap.size v t)=>(show Calls prog 7 #[v] W (VvP (z0k s) 0 W) from by
  have:=zmb t v W hu.1 h;unfold z96 at this;rw[(hu.2 hc).1,if_pos rfl,(hu.2 hc).2] at this;exact this))
 have CH:=hid (fun(t:Sto) (c:Int) W v (hu:UnO s t c) (hc:c=0) (h:z2h W W.heap.size v t)=>(show Calls prog 11 #[v] W (fun e w'=>e=.returned (.int .i64 0)∧Fr [] W w') from by
  have:=z27 t v W _ hu.1 (Nat.le_refl _) h;rw[(hu.2 hc).1] at this;exact this))
 have SP:=hid (fun(ok:z2t s) W v u (h:z1g W W.heap.size v (z0k s)) (k:z1g W W.heap.size u (z0k s))=>z5r _ v u W _ (zhk (zhm ok)) (by have:=(zhm ok).le;omega) (Nat.le_refl _) h k);have VN:=hid (fun(hc:z07 s≠0)=>(show z96 s=[] from by unfold z96;rw[if_neg hc]));have VY:=hid (fun(hc:z07 s=0)=>(show z96 s=z0k s from by unfold z96;rw[if_pos hc]));have UC:=hid (fun(hc:z07 s=0)=>zkg hc key);have UW:=hid (fun(hc:z07 s=0)=>zlu hc key);have UG:=hid (fun(hc:z07 s=0)=>zle hc n);have OK:=hid (fun(hc:z07 s=0)=>zfg hc);clear h hs hv hb;go_enter Tryz.func3,Tryz.ntmps3;have C1:=hid (BG.out _ S0.out.v);go_wp2_with fail;refine C1.out.mono ?_;rintro e w1 ⟨rfl,f1⟩;have S1:=hid (S0.out.go f1);clear f1 S0 C1;have g:=z2g (S1.out.bl _ (.head _));have g0:=g.1;have g1:=g.2;clear g;have C2:=hid (VS.out _ _ (S1.out.st _ (.head _)));go_wp2_with fail;refine C2.out.mono ?_;rintro e w2 ⟨A2,n2,rfl,o2,f2⟩;have S2:=hid ((S1.out.go f2).ents o2);clear o2 f2 S1 C2 g0 g1;by_cases hk:z07 s=0
 rotate_left
 ·have q1:(z07 s != 0)=true:=by simpa using hk
  have VN':=VN.out hk;generalize z07 s=sc at *;generalize z96 s=ve at *;subst VN';go_wp2;go_ret;exact⟨rfl,S2.out.f⟩
 have VY':=VY.out hk;have ok:=hid (OK.out hk);have UC':=hid (UC.out hk);have UW':=hid (UW.out hk);have UG':=hid (UG.out hk);clear VN VY UC UW UG OK VS;have g:=z2g (S2.out.bl _ (.head _));have g0:=g.1;have g1:=g.2;clear g;generalize (z29 s key).1=ta at *;generalize (z29 s key).2=ca at *;generalize (z2f s key).1=tb at *;generalize (z2f s key).2=cb at *;generalize (z1p s n).1=tc at *;generalize (z1p s n).2.1=kc at *;generalize (z1p s n).2.2=cc at *;generalize z07 s=sc at *;subst hk;generalize z96 s=ve at *;subst VY';generalize z0k s=vs at *;have C3:=hid (CO.out _ _ (S2.out.st _ (.head _)));go_wp2_with fail;refine C3.out.mono ?_;rintro e w3 ⟨A3,n3,R3,r3,rfl,o3,f3⟩;have S3:=hid (((S2.out.go f3).sto o3).box [.slice A3 ta.slots.length n3,.slice R3 ta.segs.length r3] 25);clear o3 f3 S2 C3 g0 g1;have g:=z2g (S3.out.bl _ (.tail _ (.head _)));have g0:=g.1;have g1:=g.2;clear g;have C4:=hid (WA.out _ _ (S3.out.st _ (.tail _ (.head _))));go_wp2_with fail;refine C4.out.mono ?_;rintro e w4 ⟨A4,n4,R4,r4,rfl,o4,f4⟩;have S4:=hid (((S3.out.go f4).sto o4).box [.slice A4 tb.slots.length n4,.slice R4 tb.segs.length r4] 25);clear o4 f4 S3 C4 g0 g1;have g:=z2g (S4.out.bl _ (.tail _ (.tail _ (.head _))));have g0:=g.1;have g1:=g.2;clear g;have C5:=hid (GA.out _ _ (S4.out.st _ (.tail _ (.tail _ (.head _)))));go_wp2_with fail;refine C5.out.mono ?_;rintro e w5 ⟨A5,n5,R5,r5,rfl,o5,f5⟩;have S5:=hid (((S4.out.go f5).sto o5).box [.slice A5 tc.slots.length n5,.slice R5 tc.segs.length r5] 25);clear o5 f5 S4 C5 g0 g1;have ga:=z2g (S5.out.bl _ (.tail _ (.tail _ (.head _))));have gb:=z2g (S5.out.bl _ (.tail _ (.head _)));have gc:=z2g (S5.out.bl _ (.head _));have ga0:=ga.1;have ga1:=ga.2;have gb0:=gb.1;have gb1:=gb.2;have gc0:=gc.1;have gc1:=gc.2;clear ga gb gc CO WA GA;have S6:=hid ((S5.out.box [.slice A3 ta.slots.length n3,.slice R3 ta.segs.length r3,.slice A4 tb.slots.length n4,.slice R4 tb.segs.length r4,.slice A5 tc.slots.length n5,.slice R5 tc.segs.length r5] 25).box [.int .i64 ca,.int .i64 cb,.int .i64 cc] 29)
 have BA:=hid (show Whole (((w5.alloc (.cells #[.slice A5 tc.slots.length n5,.slice R5 tc.segs.length r5] 25)).alloc (.cells #[.slice A3 ta.slots.length n3,.slice R3 ta.segs.length r3,.slice A4 tb.slots.length n4,.slice R4 tb.segs.length r4,.slice A5 tc.slots.length n5,.slice R5 tc.segs.length r5] 25)).alloc (.cells #[.int .i64 ca,.int .i64 cb,.int .i64 cc] 29)) (w5.heap.size+1) 25 [.slice A3 ta.slots.length n3,.slice R3 ta.segs.length r3,.slice A4 tb.slots.length n4,.slice R4 tb.segs.length r4,.slice A5 tc.slots.length n5,.slice R5 tc.segs.length r5] from by
  have:=S6.out.bl _ (.tail _ (.head _));simpa using this)
 have BE:=hid (show Whole (((w5.alloc (.cells #[.slice A5 tc.slots.length n5,.slice R5 tc.segs.length r5] 25)).alloc (.cells #[.slice A3 ta.slots.length n3,.slice R3 ta.segs.length r3,.slice A4 tb.slots.length n4,.slice R4 tb.segs.length r4,.slice A5 tc.slots.length n5,.slice R5 tc.segs.length r5] 25)).alloc (.cells #[.int .i64 ca,.int .i64 cb,.int .i64 cc] 29)) (w5.heap.size+1+1) 29 [.int .i64 ca,.int .i64 cb,.int .i64 cc] from by
  have:=S6.out.bl _ (.head _);simpa using this)
 go_wp2;go_loopg [17] 3 (fun g i wr=>∃(k:Nat),g=3 - k∧k≤3∧i=.int .i64 k∧Fr [] (((w5.alloc (.cells #[.slice A5 tc.slots.length n5,.slice R5 tc.segs.length r5] 25)).alloc (.cells #[.slice A3 ta.slots.length n3,.slice R3 ta.segs.length r3,.slice A4 tb.slots.length n4,.slice R4 tb.segs.length r4,.slice A5 tc.slots.length n5,.slice R5 tc.segs.length r5] 25)).alloc (.cells #[.int .i64 ca,.int .i64 cb,.int .i64 cc] 29)) wr)
 case atStart=>exact⟨0,rfl,by omega,rfl,Fr.refl _ _⟩
 case round=>
  obtain⟨k,rfl,hk,rfl,hf⟩:=hrel;have S7:=hid (S6.out.go hf);have HF:=hid hf;by_cases hlt:k < 3
  ·obtain⟨x,y,t,c,kx,ky,kc,hu,hst⟩:∃(x y:Value) (t:Sto) (c:Int),wr.cell? ⟨w5.heap.size+1,k * 2,none⟩=some x∧wr.cell? ⟨w5.heap.size+1,k * 2+1,none⟩=some y∧wr.cell? ⟨w5.heap.size+1+1,k,none⟩=some (.int .i64 c)∧UnO s t c∧z2h wr wr.heap.size (.agg #[x,y]) t:=by
    have a:=BA.out.fr hf (by simp);have e:=BE.out.fr hf (by simp);rcases k with _|_|_|k
    ·exact⟨_,_,ta,ca,a.cell 0,a.cell 1,e.cell 0,UC'.out,S7.out.st _ (.tail _ (.tail _ (.head _)))⟩
    ·exact⟨_,_,tb,cb,a.cell 2,a.cell 3,e.cell 1,UW'.out,S7.out.st _ (.tail _ (.head _))⟩
    ·exact⟨_,_,tc,cc,a.cell 4,a.cell 5,e.cell 2,UG'.out,S7.out.st _ (.head _)⟩
    ·omega
   have HU:=hid hu;have HST:=hid hst;clear hf hu hst;by_cases hc0:c=0
   ·have CV:=hid (VV.out t c _ _ HU.out hc0 HST.out);subst hc0;have CC:=hid (fun W (hW:Fr [] wr W)=>CH.out t 0 W _ HU.out rfl (HST.out.go hW));go_wp2_with fail;refine CV.out.mono ?_;rintro e8 w8 ⟨A8,n8,rfl,o8,f8⟩;have O8:=hid o8;have F8:=hid f8;have kx8:=f8.cell kx (by simp);have ky8:=f8.cell ky (by simp);clear o8 f8 kx ky kc CV;have C9:=hid (CC.out _ F8.out);go_wp2_with fail;refine C9.out.mono ?_;rintro e9 w9 ⟨rfl,f9⟩;have F9:=hid (F8.out.trans f9);have C10:=hid (SP.out ok.out w9 _ _ (O8.out.go f9) ((S7.out.go F9.out).es _ (.head _)));clear f9 C9 kx8 ky8;go_wp2_with fail;refine C10.out.mono ?_;rintro e10 w10 ⟨rfl,f10⟩;have F10:=hid (F9.out.trans f10);clear f10 C10;go_wp2;go_roundg (3 - (k+1))
    case measure=>omega
    case rel=>exact⟨k+1,rfl,by omega,by go_num,HF.out.trans F10.out⟩
   ·have q1:(c != 0)=true:=by simpa using hc0
    clear hc0 kx ky;go_wp2;go_roundg (3 - (k+1))
    case measure=>omega
    case rel=>exact⟨k+1,rfl,by omega,by go_num,HF.out⟩
  ·obtain rfl:k=3:=by omega
   go_wp2;go_ret;exact⟨rfl,S7.out.f⟩
end Go.Proofs.YtmkhmejempcimaaGreatDoor
