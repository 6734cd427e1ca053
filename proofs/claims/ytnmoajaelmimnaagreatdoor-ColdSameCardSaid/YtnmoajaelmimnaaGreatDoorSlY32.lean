/- Contracts; no condition but each theorem's own. -/
import Derived.Test.YtnmoajaelmimnaaGreatDoorSlY31
set_option linter.unusedVariables false
set_option linter.unusedSimpArgs false
set_option maxHeartbeats 8000000
set_option maxRecDepth 100000
namespace Go.Proofs.YtnmoajaelmimnaaGreatDoor
open Go.Proofs.Tryz
section
open Go.RowKit
theorem zzr{s:List Ent}(ok:z22 s)(now:Int)(k):0≤(z00 s now k).til∧(z00 s now k).til≤1000000:=by
 rcases z7r s now k with⟨a,_⟩|⟨a,_⟩
 ·rw[a];decide
 ·exact ok.times _ a
theorem zzl(x:Itm)(v)(B:Nat)(w)(hk:0≤x.kind∧x.kind≤5)(h:z0p w B v x):Calls prog 205 #[v] w fun e w'=>e=.returned (.string (zmw x.kind))∧Fr [] w w':=by
 obtain⟨b,c1,g,c2,d,k,rfl⟩:=h.form;have j:=hid (((Fr.refl [] w).alloc (.cells #[.int .i64 x.kind,.string x.text,.slice b x.list.length c1,.slice g x.pairs.length c2,.slice d x.scores.length k] 68)).alloc (.cells #[.string ⟨#[110,111,110,101]⟩,.string ⟨#[115,116,114,105,110,103]⟩,.string ⟨#[108,105,115,116]⟩,.string ⟨#[115,101,116]⟩,.string ⟨#[104,97,115,104]⟩,.string ⟨#[122,115,101,116]⟩] 9));have E:=hid (show zmw x.kind=if x.kind=0 then toB [110,111,110,101] else if x.kind=1 then toB [115,116,114,105,110,103] else if x.kind=2 then toB [108,105,115,116] else if x.kind=3 then toB [115,101,116] else if x.kind=4 then toB [104,97,115,104] else toB [122,115,101,116] from rfl);clear h;generalize x.kind=a at *;generalize x.text=p at *;generalize x.list.length=l at *;generalize x.pairs.length=m at *;generalize x.scores.length=n at *;have f:a=0∨a=1∨a=2∨a=3∨a=4∨a=5:=by omega
 rw[E.o];clear E hk;rcases f with rfl|rfl|rfl|rfl|rfl|rfl
 all_goals
  go_enter func205,ntmps205;go_wp2;go_ret;exact⟨rfl,j.o⟩
theorem tw6x:(∀(t) (n:Int) (g B0:Nat) (sv) (now:Int) (lv) (l:YX) (s) (w) (ok:z22 s) (hn:1≤l.length) (h:Dr g B0 sv now lv l s w) (ht:(t=⟨#[116,116,108]⟩∧n=-2∧z26 s now (wd l 0)=false)∨(t=⟨#[116,116,108]⟩∧n=-1∧z26 s now (wd l 0)=true∧(z00 s now (wd l 0)).til=0)∨(t=⟨#[112,101,114,115,105,115,116]⟩∧n=0∧z26 s now (wd l 0)=false)∨(t=⟨#[112,101,114,115,105,115,116]⟩∧n=0∧z26 s now (wd l 0)=true∧(z00 s now (wd l 0)).til=0)∨(t=⟨#[101,120,112,105,114,101]⟩∧n=0∧z26 s now (wd l 0)=false)),Calls prog 154 #[.pointer (some ⟨g,0,none⟩),.string t] w (ChD g B0 B0 sv now lv l (s,z0s n) w))∧(∀(g B0:Nat) (sv) (now:Int) (lv) (l:YX) (s) (c0) (w) (ok:z22 s) (hn:1≤l.length) (h12:l.length≤11) (hz:∀t∈l,t.size≤60) (h0:0≤now∧now≤1000000) (hk:(z26 s now (wd l 0)=true∧(z00 s now (wd l 0)).til≠0)) (h:Dr g B0 sv now lv l s w),Calls prog 154 #[.pointer (some ⟨g,0,none⟩),.string ⟨#[116,116,108]⟩] w (ChD g B0 B0 sv now lv l (doC .ttl s now (c0 :: l)) w)):=by
 refine⟨?_,?_⟩;have F:=hid trivial
 rotate_left
 have ab:=hid trivial
 all_goals
  first
  | (guard_hyp F
     intro t n g B0 sv now lv l s w ok hn h ht)
  | (intro g B0 sv now lv l s c0 w ok hn h12 hz h0 hk h)
  have hr:=ok.rise;have a6:=ok.le
  first
  | (guard_hyp F
     skip)
  | (have LT:=z3a ok now (wd l 0)
     have EP:doC .ttl s now (c0 :: l)=(s,z0s ((z00 s now (wd l 0)).til - now)):=by
      show(s,z0s (if (z00 s now (wd l 0)).item.kind=0 then -2 else if (z00 s now (wd l 0)).til=0 then -1 else (z00 s now (wd l 0)).til - now))=_;rw[hk.1] at LT;rw[Xc (by simpa using LT.symm)];rw[Xc hk.2]
     have bt:0≤(z00 s now (wd l 0)).til∧(z00 s now (wd l 0)).til≤1000000:=zzr ok now (wd l 0);rw[EP];clear EP LT)
  have LK:=hid (fun W (hW:Fr [] w W)=>z3n s sv now (wd l 0) W B0 hr (by omega) (h.e.fr hW));have H:=hid h;have a9:=h.lt;have p:=h.bz;obtain⟨SA,sc,rfl⟩:=h.sform;obtain⟨LA,lc,rfl⟩:=h.lform;obtain⟨b,off,rfl,hb,C,hm,T⟩:=h.word (by omega);have D:=hid T;have DG:=hid (fun W (hW:Fr [] w W)=>(h.go hW).three);unfold maxLen at hm;clear h hr T ok;generalize z00 s now (wd l 0)=y at *;generalize z26 s now (wd l 0)=bb at *;have ac:(0:Int) < (l.length:Int):=by omega
  first
  | (guard_hyp F
     have N:=hid ht;clear ht)
  | (have HB:=hid hk.1
     have q3:(y.til==0)=false:=by simpa using hk.2
     clear hk)
  have M:=zF2 w g;have P:=zP0 w g;have Q0:=zQ0 w g;have Z:=zF3 M;have V1:=zV1 w g;have a0:¬g=w.heap.size+1+1:=by omega
  have a5:¬w.heap.size+1+1=g:=by omega
  have a1:¬b=w.heap.size+1+1:=by omega
  have a4:¬w.heap.size+1+1=b:=by omega
  have a2:¬w.heap.size=w.heap.size+1+1:=by omega
  have a3:¬w.heap.size+1+1=w.heap.size:=by omega
  have a7:0 < l.length:=by omega
  have p0:=P.o.cell 0;have p1:=(zP1 P).cell 0;obtain⟨d0,Y,d2⟩:=DG.o _ M.o;obtain⟨d3,d4,d5⟩:=DG.o _ Z.o;have d6:=M.o.cell (D.o 0 (by omega)) (by simp);have d7:=Z.o.cell (D.o 0 (by omega)) (by simp);rw[Ye] at d6 d7;go_enter func154,ntmps154;go_upto_region 1 with fail;go_cut [5,6] (fun pb po x=>po=.bool bb∧zh1 B0 y ((w.alloc (.cells #[.pointer (some ⟨g,0,none⟩)] 139)).alloc (.cells yRza 27)) pb x)
  case first=>
   go_region_held3 (fun x=>x.cell? ⟨w.heap.size,0,none⟩=some (.pointer (some ⟨g,0,none⟩))∧x.cell? ⟨g,0,none⟩=some (.slice SA s.length sc)∧x.cell? ⟨g,1,none⟩=some (.int .i64 now)∧x.cell? ⟨g,2,none⟩=some (.slice (some ⟨b,off,none⟩) l.length lc)∧x.cell? ⟨b,off,none⟩=some (.string (wd l 0))) (go_keep) ((go_at_call 201;first|(refine(LK.o _ M.o.drew).mono ?_;rintro e1 w1 ⟨A1,c1,A2,c2,A3,c3,rfl,C,G⟩;have O:=hid (z01 G);have R:=hid (M.o.trans O.o);have HC:=hid C;obtain⟨I,K,L⟩:=DG.o _ R.o;have E:=R.o.cell (D.o 0 (by omega)) (by simp);rw[Ye] at E;have z4:=(P.o.f0 O.o).cell 0;clear G C)|(refine(LK.o _ Z.o.drew).mono ?_;rintro e1 w1 ⟨A1,c1,A2,c2,A3,c3,rfl,C,G⟩;have O:=hid (z3v (z01 G));have R:=hid (Z.o.trans (z01 G));have HC:=hid C;have V2:=hid (V1.o.f0 (z01 G));obtain⟨I,K,L⟩:=DG.o _ R.o;have E:=R.o.cell (D.o 0 (by omega)) (by simp);rw[Ye] at E;have z4:=((P.o.alloc (.cells yEza 70)).f0 (z01 G)).cell 0;have y7:=seven V2.o;have z7:=zbi V2.o;clear G C)))
   all_goals
    go_wp2;go_meet
    case rel=>first|with_reducible exact⟨rfl,zh1.new HC.o O.o⟩|exact⟨rfl,zh1.put HC.o O.o (by simp) V2.o⟩
  clear d0 Y d2 d3 d4 d5 d6 d7 p0 p1;obtain⟨rfl,X,A1,c1,A2,c2,A3,c3,rfl,V,hw,C,hf⟩:=hcut;have HC:=hid C;have S:w.heap.size+1 < X:=by simp at V;omega
  have m:=zKW H P Q0 M hf hw S;clear hf hw C V a0 a5 a1 a4 a2 a3
  first
  | (guard_hyp F
     rcases N.o with⟨rfl,rfl,j⟩|⟨rfl,rfl,j,q9⟩|⟨rfl,rfl,j⟩|⟨rfl,rfl,j,q9⟩|⟨rfl,rfl,j⟩
     ·
      clear N;subst j;have J:=(m.o.bl _ (.tail _ (.tail _ (.head _)))).cell 6;go_wp2_with fail;refine(z1c _ _).mono ?_;rintro U Q ⟨rfl,k⟩;have a:=hid (m.o.go k);clear k;obtain⟨A,z,B,u⟩:=four (a.o.bl _ (.tail _ (.head _)));obtain⟨I,K,L,E⟩:=z1p (a.o.bl _ (.tail _ (.head _)));go_wp2;refine Xg (v:=.agg #[.int .i64 3,.string ⟨#[]⟩,.int .i64 (-2),.slice none 0 0]) (by simp[results,results154,go_sem,A,z,B,u]) rfl ?_;exact ChD.fin4o (r:=z0s (-2)) (Uh _) (z1i.bare _ _ _ _ _) a.o.f.up (a.o.bl _ (.tail _ (.head _))) p (fun _=>⟨_,a.o.d⟩)
     ·
      clear N;subst j;have q3:(y.til==0)=true:=by simpa using q9
      clear q9;have J:=(m.o.bl _ (.tail _ (.tail _ (.head _)))).cell 6;go_wp2_with fail;refine(z1c _ _).mono ?_;rintro U Q ⟨rfl,k⟩;have a:=hid (m.o.go k);clear k;obtain⟨A,z,B,u⟩:=four (a.o.bl _ (.tail _ (.head _)));obtain⟨I,K,L,E⟩:=z1p (a.o.bl _ (.tail _ (.head _)));go_wp2;refine Xg (v:=.agg #[.int .i64 3,.string ⟨#[]⟩,.int .i64 (-1),.slice none 0 0]) (by simp[results,results154,go_sem,A,z,B,u]) rfl ?_;exact ChD.fin4o (r:=z0s (-1)) (Uh _) (z1i.bare _ _ _ _ _) a.o.f.up (a.o.bl _ (.tail _ (.head _))) p (fun _=>⟨_,a.o.d⟩)
     ·
      clear N;subst j;have J:=(m.o.bl _ (.tail _ (.tail _ (.head _)))).cell 6;go_wp2_with fail;refine(z1c _ _).mono ?_;rintro U Q ⟨rfl,k⟩;have a:=hid (m.o.go k);clear k;obtain⟨A,z,B,u⟩:=four (a.o.bl _ (.tail _ (.head _)));obtain⟨I,K,L,E⟩:=z1p (a.o.bl _ (.tail _ (.head _)));go_wp2;refine Xg (v:=.agg #[.int .i64 3,.string ⟨#[]⟩,.int .i64 0,.slice none 0 0]) (by simp[results,results154,go_sem,A,z,B,u]) rfl ?_;exact ChD.fin4o (r:=z0s 0) (Uh _) (z1i.bare _ _ _ _ _) a.o.f.up (a.o.bl _ (.tail _ (.head _))) p (fun _=>⟨_,a.o.d⟩)
     ·
      clear N;subst j;have q3:(y.til==0)=true:=by simpa using q9
      clear q9;have J:=(m.o.bl _ (.tail _ (.tail _ (.head _)))).cell 6;go_wp2_with fail;refine(z1c _ _).mono ?_;rintro U Q ⟨rfl,k⟩;have a:=hid (m.o.go k);clear k;obtain⟨A,z,B,u⟩:=four (a.o.bl _ (.tail _ (.head _)));obtain⟨I,K,L,E⟩:=z1p (a.o.bl _ (.tail _ (.head _)));go_wp2;refine Xg (v:=.agg #[.int .i64 3,.string ⟨#[]⟩,.int .i64 0,.slice none 0 0]) (by simp[results,results154,go_sem,A,z,B,u]) rfl ?_;exact ChD.fin4o (r:=z0s 0) (Uh _) (z1i.bare _ _ _ _ _) a.o.f.up (a.o.bl _ (.tail _ (.head _))) p (fun _=>⟨_,a.o.d⟩)
     ·
      clear N;subst j;have J:=(m.o.bl _ (.tail _ (.tail _ (.head _)))).cell 6;go_wp2_with fail;refine(z1c _ _).mono ?_;rintro U Q ⟨rfl,k⟩;have a:=hid (m.o.go k);clear k;obtain⟨A,z,B,u⟩:=four (a.o.bl _ (.tail _ (.head _)));obtain⟨I,K,L,E⟩:=z1p (a.o.bl _ (.tail _ (.head _)));go_wp2;refine Xg (v:=.agg #[.int .i64 3,.string ⟨#[]⟩,.int .i64 0,.slice none 0 0]) (by simp[results,results154,go_sem,A,z,B,u]) rfl ?_;exact ChD.fin4o (r:=z0s 0) (Uh _) (z1i.bare _ _ _ _ _) a.o.f.up (a.o.bl _ (.tail _ (.head _))) p (fun _=>⟨_,a.o.d⟩))
  | (have j:=HB.o
     clear HB;subst j;have jw:IntKind.i64.wrap (y.til - now)=y.til - now:=IntWalk.i64_in _ (by omega);have KD:=hid m.o.drew;have J:=(m.o.bl _ (.tail _ (.tail _ (.head _)))).cell 6;have p0:=(m.o.bl _ (.head _)).cell 0;have Y:=m.o.d.three.2.1;have hz1:¬w.heap.size=w.heap.size+1:=by omega
     have hz2:¬g=w.heap.size+1:=by omega
     have a8:¬X=w.heap.size+1:=by omega
     have ad:¬w.heap.size+1=X:=by omega
     have aa:¬w.heap.size+1=g:=by omega
     go_upto_region 16 with fail;go_region_held3 (fun x=>x.cell? ⟨w.heap.size,0,none⟩=some (.pointer (some ⟨g,0,none⟩))∧x.cell? ⟨g,1,none⟩=some (.int .i64 now)∧x.cell? ⟨X,6,none⟩=some (.int .i64 y.til)) (go_keep) ((go_at_call 197;refine(z1c _ _).mono ?_;rintro U Q ⟨rfl,k⟩;have a:=hid (KD.o.go k);clear k J p0 Y;have J:=(a.o.bl _ (.tail _ (.tail _ (.head _)))).cell 6;have p0:=(a.o.bl _ (.head _)).cell 0;have Y:=a.o.d.three.2.1;obtain⟨A,z,B,u⟩:=four (a.o.bl _ (.tail _ (.head _)));obtain⟨I,K,L,E⟩:=z1p (a.o.bl _ (.tail _ (.head _)))));go_wp2;refine Xg (v:=.agg #[.int .i64 3,.string ⟨#[]⟩,.int .i64 (y.til - now),.slice none 0 0]) (by simp[results,results154,go_sem,A,z,B,u]) rfl ?_;exact ChD.fin4o (r:=z0s (y.til - now)) (Uh _) (z1i.bare _ _ _ _ _) a.o.f.up (a.o.bl _ (.tail _ (.head _))) p (fun _=>⟨_,a.o.d⟩))
abbrev zam:=@And.left _ _ tw6x
abbrev q2z:=@And.right _ _ tw6x
section
variable (g B0:Nat) (sv:Value) (now:Int) (lv:Value) (l:YX) (s:List Ent) (c0:YY) (w:World)
theorem q2x(ok:z22 s)(hn:1≤l.length)(h12:l.length≤11)(hz:∀t∈l,t.size≤60)(h0:0≤now∧now≤1000000)(hk:z26 s now (wd l 0)=false)(h:Dr g B0 sv now lv l s w):
  Calls prog 154 #[.pointer (some ⟨g,0,none⟩),.string ⟨#[116,116,108]⟩] w (ChD g B0 B0 sv now lv l (doC .ttl s now (c0 :: l)) w):=by
 have a:=z3a ok now (wd l 0)
 have b:doC .ttl s now (c0 :: l)=(s,z0s (-2)):=by
  show(s,z0s (if (z00 s now (wd l 0)).item.kind=0 then -2 else if (z00 s now (wd l 0)).til=0 then -1 else (z00 s now (wd l 0)).til - now))=_;rw[hk] at a;rw[Xf (by simpa using a.symm)]
 rw[b];exact zam _ (-2) g B0 sv now lv l s w ok (by omega) h (.inl ⟨rfl,rfl,hk⟩)
theorem q2y(ok:z22 s)(hn:1≤l.length)(h12:l.length≤11)(hz:∀t∈l,t.size≤60)(h0:0≤now∧now≤1000000)(hk:(z26 s now (wd l 0)=true∧(z00 s now (wd l 0)).til=0))(h:Dr g B0 sv now lv l s w):
  Calls prog 154 #[.pointer (some ⟨g,0,none⟩),.string ⟨#[116,116,108]⟩] w (ChD g B0 B0 sv now lv l (doC .ttl s now (c0 :: l)) w):=by
 have a:=z3a ok now (wd l 0)
 have b:doC .ttl s now (c0 :: l)=(s,z0s (-1)):=by
  show(s,z0s (if (z00 s now (wd l 0)).item.kind=0 then -2 else if (z00 s now (wd l 0)).til=0 then -1 else (z00 s now (wd l 0)).til - now))=_;rw[hk.1] at a;rw[Xc (by simpa using a.symm)];rw[Xf hk.2]
 rw[b];exact zam _ (-1) g B0 sv now lv l s w ok (by omega) h (.inr (.inl ⟨rfl,rfl,hk⟩))
theorem q5w(ok:z22 s)(hn:1≤l.length)(h12:l.length≤11)(hz:∀t∈l,t.size≤60)(h0:0≤now∧now≤1000000)(h:Dr g B0 sv now lv l s w):
  Calls prog 154 #[.pointer (some ⟨g,0,none⟩),.string ⟨#[116,116,108]⟩] w (ChD g B0 B0 sv now lv l (doC .ttl s now (c0 :: l)) w):=by
 rcases hb:z26 s now (wd l 0) with _|_
 ·exact q2x g B0 sv now lv l s c0 w ok hn h12 hz h0 hb h
 ·by_cases ht:(z00 s now (wd l 0)).til=0
  ·exact q2y g B0 sv now lv l s c0 w ok hn h12 hz h0 ⟨hb,ht⟩ h
  ·exact q2z g B0 sv now lv l s c0 w ok hn h12 hz h0 ⟨hb,ht⟩ h
def RawN(l:List Ent)(base:Nat)(v:Value)(w:World)(r:Ending)(w':World):Prop:=∃u,r=.returned (.tuple #[u,.int .i64 0])∧z2a w' base u l∧Fr (z1w v) w w'∧∀k,k∈z1w u→k∈z1w v∨w.heap.size≤k
theorem zil(l)(v)(now:Int)(s:YY)(x:Itm)(xv)(u:Int)(base:Nat)(w)(hr:rises (ltK Ent.key) l=true)(hl:l.length≤1000)(hsx:x.Small)(hn:z0v x=true)(h:z2a w base v l)(hx:z0k w base xv x)(hb:base≤w.heap.size):
  Calls prog 252 #[v,.int .i64 now,.string s,xv,.int .i64 u] w (RawN (z5q l s) base v w):=by
 obtain⟨A,c,rfl⟩:=h.form;obtain⟨B,z,C,y,t,p,rfl⟩:=hx.form;have P:=hid (BX.new w (.int .i64 x.kind) (.string x.text) (.slice B x.list.length z) (.slice C x.pairs.length y) (.slice t x.scores.length p));have S:=hid (fun W (hW:Fr [] w W)=>ze0 l s A c w.heap.size W hr (by omega) hW.size ((h.v.fr hW (Xb _) (by simp))));unfold z3e at S;have X:=hid h;have HX:=hid hx;have N:=hid hsx;have Y:=zvs l s
 have F:∀k,k∈z1w (.slice A l.length c)→k < w.heap.size:=fun k J=>by
  obtain⟨a1,_,_,M⟩:=h;exact zi0 M k J
 have H:=hid F;have V:=hid hr;clear h hx hsx F hr;go_enter func252,ntmps252;go_wp2_with fail;refine(S.o _ P.o.f).mono ?_;rintro e1 w1 ⟨rfl,T⟩;have g:=hid (P.o.go T);have d:=hid (X.o.fr g.o.f);have n:=hid (HX.o.go g.o.f);clear T
 go_upto_if 20 with fail
 go_cut [0,13] (fun sv _ wx=>CutR (z5q l s) base (.slice A l.length c) (.agg (yIa x B z C y t p)) x (yIl x B z C y t p) w sv wx)
 case first=>
  rcases hh:z4o Ent.key l s with _|_
  ·have E:=hid (zn6 V.o hh);go_wp2;go_meet
   case rel=>
    rw[E.o];exact⟨A,c,rfl,d.o,g.o.f.up,fun k J=>.inl J,g.o.b,n.o⟩
  ·have E:=hid (zn7 V.o hh)
   have I:z1e Ent.key l s < l.length:=by
    obtain⟨e,he,_⟩:=(z2s Ent.key).1 hh;exact(Xe.1 he).1
   have DE:=hid (zub l (z1e Ent.key l s) base (.slice A l.length c) w1 (by omega) I d.o);rw[←E.o] at DE;generalize z1e Ent.key l s=k at *;go_wp2_with fail;refine DE.o.mono ?_;rintro e2 w2 ⟨v2,rfl,r,m,a⟩;obtain⟨A2,c2,G⟩:=r.form
   have HH:=hid (show CutR (z5q l s) base (.slice A l.length c) (.agg (yIa x B z C y t p)) x (yIl x B z C y t p) w v2 w2 from by
    subst G;obtain⟨a0,_,_,Q⟩:=d.o;exact⟨A2,c2,rfl,r,g.o.f.up.trans m,fun q hq=>(a q hq).imp id (fun h=>Xd g.o.f.size h),g.o.b.fr m (fun hm=>by have:=H.o _ hm;omega),ze7 n.o Q z2f m⟩)
   clear r m a G;go_wp2;go_meet
   case rel=>exact HH.o
 case rest=>
  obtain⟨A2,c2,rfl,r,m,a,j,D⟩:=hcut;have L:=hid r;have F2:=hid m;have O:=hid a;have R:=hid j;have K:=hid D;have hz2:=j.lt;clear r m a j D S X d HX n P g;obtain⟨d0,d1,d2,d3,d4⟩:=five R.o;have U:=hid (z7u x (.agg (yIa x B z C y t p)) _ _ N.o (Xb _) K.o.item);rw[hn] at U;clear hn;go_wp2_with fail;refine U.o.mono ?_;rintro e3 w3 ⟨rfl,f3⟩;have Z:=hid f3;clear f3;go_wp2;go_ret2;exact⟨_,rfl,L.o.fr Z.o,F2.o.trans Z.o.up,O.o⟩
def PutN(g B0:Nat)(sv:Value)(now:Int)(lv:Value)(l:YX)(s':List Ent)(w:World)(e:Ending)(w':World):Prop:=
 e=.returned (.int .i64 0)∧Fr (g :: z1w sv) w w'∧∃sv',Dr g B0 sv' now lv l s' w'∧∀k,k∈z1w sv'→k∈z1w sv∨w.heap.size≤k
theorem zu5(g B0:Nat)(sv)(now:Int)(lv)(l)(s)(k:YY)(w)(hr:rises (ltK Ent.key) s=true)(hl:s.length≤1000)(h:Dr g B0 sv now lv l s w):
  Calls prog 193 #[.pointer (some ⟨g,0,none⟩),.string k,.agg #[.int .i64 0,.string ⟨#[]⟩,.slice none 0 0,.slice none 0 0,.slice none 0 0],.int .i64 0] w (PutN g B0 sv now lv l (z5q s k) w):=by
 have T:=hid (fun W (hW:Fr [] w W)=>zil s sv now k (z2q 0) (.agg yIza) 0 B0 W hr hl za5 z44 (h.e.fr hW) (z0k.nothing _ _) (Xd h.bz hW.size));have r:=hid ((Fr.refl [] w).alloc (.cells yIza 68));have L:=hid (Whole.new w 68 yIzl);have H:=hid h;have b:=h.off;have a:=h.low;have n:w.heap.size∉z1w sv:=fun X=>by have:=(a _ (.tail _ X)).2;omega
 have A:=hid b;have x:=hid n;have S:=h.lt;have y:=h.bz;obtain⟨N,Q,rfl⟩:=h.sform;obtain⟨D,z,R⟩:=(h.go r.o).three;obtain⟨F,I,J,B,C⟩:=five L.o;clear R h hr b a n;generalize z5q s k=Z at *;go_enter func193,ntmps193;go_wp2;go_region_held3 (fun m=>m.cell? ⟨g,0,none⟩=some (.slice N s.length Q)∧m.cell? ⟨g,1,none⟩=some (.int .i64 now)∧m.cell? ⟨w.heap.size,0,none⟩=some (.int .i64 0)∧m.cell? ⟨w.heap.size,1,none⟩=some (.string ⟨#[]⟩)∧m.cell? ⟨w.heap.size,2,none⟩=some (.slice none 0 0)∧m.cell? ⟨w.heap.size,3,none⟩=some (.slice none 0 0)∧m.cell? ⟨w.heap.size,4,none⟩=some (.slice none 0 0)) (go_keep) ((go_at_call 252;refine(T.o _ r.o.drew).mono ?_;rintro e1 u ⟨uv,rfl,G,t,P⟩;have U:=hid P;have M:=hid (r.o.up.trans t.dr);have V:=hid (L.o.fr t.dr x.o);have E:=hid ((H.o.go r.o).d.fr t.dr A.o);obtain⟨UA,uc,rfl⟩:=G.form;have Y:=hid G;clear G t P D z F I J B C;obtain⟨F,I,J,B,C⟩:=five V.o;have D:=E.o.cell 0;have z:=E.o.cell 1));have f:=E.o;have O:=f.lt;obtain⟨y0,y1,y2⟩:u.cell? ⟨g,0,none⟩=some (.slice N s.length Q)∧u.cell? ⟨g,1,none⟩=some (.int .i64 now)∧u.cell? ⟨g,2,none⟩=some lv:=⟨f.cell 0,f.cell 1,f.cell 2⟩;have y3:=f.frozen 0;clear D z F I J B C;go_wp2;go_ret;refine⟨rfl,(ze2 M.o).setCell (p:=⟨g,0,none⟩) (.inl (.head _)) _,_,⟨f.set_ 0 _,Y.o.setW f (by decide) _,?_,H.o.gb⟩,fun j K=>(U.o j K).imp id (fun h=>Xd (Uh _) (by simpa using h))⟩;exact H.o.l.fr ((ze2 M.o).setCell (p:=⟨g,0,none⟩) (.inl (.head _)) _) y (fun j K=>(H.o.low j K).1)
theorem zth(g B0 q:Nat)(sv)(now:Int)(lv)(l)(s)(k:YY)(w)(hr:rises (ltK Ent.key) s=true)(hl:s.length≤1000)(h:Dr g B0 sv now lv l s w)(hq:Whole w q 139 [.pointer (some ⟨g,0,none⟩)]):
  Calls prog 203 (#[.string k]++#[.pointer (some ⟨q,0,none⟩)]) w fun e w'=>e=.returned (.bool (z26 s now k))∧Fr (g :: z1w sv) w w'∧∃sv',Dr g B0 sv' now lv l (z5q s k) w'∧∀k,k∈z1w sv'→k∈z1w sv∨w.heap.size≤k:=by
 have t:=hid (zgf g B0 sv now lv l s k w hr hl h);have u:=hid (fun W (hd:Dr g B0 sv now lv l s W)=>zu5 g B0 sv now lv l s k W hr hl hd);have H:=hid h;have y:=hid hq;have A:=hq.cell 0;have G:=hq.lt;clear h hq hr;generalize z26 s now k=E at *;generalize z5q s k=D at *;go_enter func203,ntmps203;go_wp2_with fail;refine t.o.mono ?_;rintro I C ⟨rfl,f⟩;have p:=hid f;have z:=(y.o.f0 f).cell 0;clear f A;go_wp2_with fail;refine(u.o _ (H.o.go p.o)).mono ?_;rintro F J ⟨rfl,r,n,a,b⟩;have x:=hid (p.o.up.trans r);have d:=hid a;have m:=hid b;clear r a b z;go_wp2;go_ret;exact⟨rfl,x.o,n,d.o,fun j B=>(m.o j B).imp id (fun h=>Xd p.o.size h)⟩
theorem zml{p:YY→Bool}{l:YX}{k:Nat}{t:YY}(h:l[k]? = some t):((l.take (k+1)).filter p).length=((l.take k).filter p).length+if p t=true then 1 else 0:=by
 rw[Xz,h];simp only[Uo,Vb,Xk,Vi,List.filter_nil];split <;> simp
theorem zjd(g B0:Nat)(sv)(now:Int)(lv)(l:YX)(s)(w)(hr:rises (ltK Ent.key) s=true)(hl:s.length≤1000)(h12:l.length≤11)(h:Dr g B0 sv now lv l s w):
  Calls prog 202 #[.pointer (some ⟨g,0,none⟩),.func (Fn.func 204) #[.pointer (some ⟨g,0,none⟩)] #[]] w (zit 3 ⟨#[]⟩ ((l.filter fun k=>z26 s now k).length:Nat) w):=by
 have C:=hid (fun W k (hW:Fr [] w W)=>zgf g B0 sv now lv l s k W hr hl (h.go hW));have H:=hid h;have I:=h.bz;obtain⟨LA,X,rfl⟩:=h.lform;obtain⟨z,T,L⟩:=(h.go ((Fr.refl [] w).alloc (.cells yRza 27))).three;have G:=zF w;have K:=zQ w;have V:=hid (fun k t (m:l[k]? = some t)=>zml (p:=fun k=>z26 s now k) m);clear h hr;go_enter func202,ntmps202;go_wp2;go_loopg [5,13] l.length (fun y n i wr=>∃(k:Nat),y=l.length - k∧k≤l.length∧n=.int .i64 (((l.take k).filter fun k=>z26 s now k).length:Nat)∧i=.int .i64 k∧Whole wr w.heap.size 27 [.int .i64 0,.string ⟨#[]⟩,.int .i64 0,.slice none 0 0]∧Fr [] w wr)
 case atStart=>exact⟨0,rfl,Xt _,rfl,rfl,K.o,G.o⟩
 case round=>
  obtain⟨k,rfl,m,rfl,rfl,r,u⟩:=hrel;have Q:=hid r;have F:=hid u;clear r u z T L;have S:((l.take k).filter fun k=>z26 s now k).length≤k:=Xd (Xv _ _) (by simp;omega);by_cases hlt:k < l.length
  ·obtain⟨b,off,rfl,Y,hc,N,d⟩:=H.o.word (by omega);have P:=F.o.cell (d k hlt) (by simp);have x:l[k]? = some (wd l k):=by unfold wd;rw[Xs,Xa hlt];rfl
   have j:=hid (V.o k _ x);have R:=hid (fun W (hW:Fr [] w W)=>C.o W (wd l k) hW);unfold maxLen at N;clear d x;generalize wd l k=t at *;generalize hlb:z26 s now t=D at *;generalize ((l.take k).filter fun k=>z26 s now k).length=nn at *;clear hlb;go_wp2_with fail;refine(R.o _ F.o).mono ?_;rintro O A ⟨rfl,a⟩;have f:=hid (F.o.trans a);have e:=hid (Q.o.f0 a);clear a P;rcases D with _|_
   all_goals
    go_wp2;go_roundg (l.length - (k+1))
    case measure=>omega
    case rel=>exact⟨k+1,rfl,by omega,by rw[j.o];first|rfl|go_num,by go_num,e.o,f.o⟩
  ·obtain rfl:k=l.length:=by omega
   go_wp2_with fail;refine(z1c _ _).mono ?_;rintro O A ⟨rfl,a⟩;have f:=hid (F.o.trans a);have e:=hid (Q.o.f0 a);have B:=hid (show(l.take l.length).filter (fun k=>z26 s now k)=l.filter (fun k=>z26 s now k) from by rw[Ym]);rw[B.o];clear a;obtain⟨M,E,U,J⟩:=four e.o;obtain⟨z0,z1,Z,z3⟩:=z1p e.o;go_wp2;refine Xg (v:=.agg #[.int .i64 3,.string ⟨#[]⟩,.int .i64 ((l.filter fun k=>z26 s now k).length:Nat),.slice none 0 0]) (by simp[results,results202,go_sem,M,E,U,J]) rfl ?_;exact⟨rfl,z2d f.o (Xb _) _ _ _ _⟩
theorem q3i{l:List UInt8}{v:Int}(h:z5l l=some v):-999999999≤v∧v≤999999999:=by
 have:=(z7o.1 h).1;simp only[z0o,Yf,decide_eq_true_eq] at this;omega
theorem zmc(ok:z22 s)(hn:1≤l.length)(h12:l.length≤11)(hz:∀t∈l,t.size≤60)(hk:z26 s now (wd l 0)=false)(h:Dr g B0 sv now lv l s w):
  Calls prog 154 #[.pointer (some ⟨g,0,none⟩),.string ⟨#[112,101,114,115,105,115,116]⟩] w (ChD g B0 B0 sv now lv l (doC .persist s now (c0 :: l)) w):=by
 have a:=z3a ok now (wd l 0)
 have b:doC .persist s now (c0 :: l)=(s,z0s 0):=by
  show(if (z00 s now (wd l 0)).item.kind=0∨(z00 s now (wd l 0)).til=0 then (s,z0s 0) else _)=_;rw[hk] at a;rw[Xf (.inl (by simpa using a.symm))]
 rw[b];exact zam _ 0 g B0 sv now lv l s w ok (by omega) h (.inr (.inr (.inl ⟨rfl,rfl,hk⟩)))
theorem zmd(ok:z22 s)(hn:1≤l.length)(h12:l.length≤11)(hz:∀t∈l,t.size≤60)(hk:(z26 s now (wd l 0)=true∧(z00 s now (wd l 0)).til=0))(h:Dr g B0 sv now lv l s w):
  Calls prog 154 #[.pointer (some ⟨g,0,none⟩),.string ⟨#[112,101,114,115,105,115,116]⟩] w (ChD g B0 B0 sv now lv l (doC .persist s now (c0 :: l)) w):=by
 have b:=z3a ok now (wd l 0)
 have a:doC .persist s now (c0 :: l)=(s,z0s 0):=by
  show(if (z00 s now (wd l 0)).item.kind=0∨(z00 s now (wd l 0)).til=0 then (s,z0s 0) else _)=_;rw[Xf (.inr hk.2)]
 rw[a];exact zam _ 0 g B0 sv now lv l s w ok (by omega) h (.inr (.inr (.inr (.inl ⟨rfl,rfl,hk⟩))))
theorem q7f:(∀(g B0:Nat) (sv) (now:Int) (lv) (l:YX) (s) (c0) (w) (ok:z22 s) (hn:1≤l.length) (h12:l.length≤11) (hz:∀t∈l,t.size≤60) (hk:(z26 s now (wd l 0)=true∧(z00 s now (wd l 0)).til≠0)) (h:Dr g B0 sv now lv l s w),Calls prog 154 #[.pointer (some ⟨g,0,none⟩),.string ⟨#[112,101,114,115,105,115,116]⟩] w (ChD g B0 B0 sv now lv l (doC .persist s now (c0 :: l)) w))∧(∀(g B0:Nat) (sv) (now:Int) (lv) (l:YX) (s) (c0) (w) (ok:z22 s) (hn:2≤l.length) (h12:l.length≤11) (hz:∀t∈l,t.size≤60) (n1:Int) (h1:z5l (wd l 1).data.toList=some n1) (hv:Vars w) (h0:0≤now∧now≤1000000) (hk:z26 s now (wd l 0)=true) (h:Dr g B0 sv now lv l s w),Calls prog 154 #[.pointer (some ⟨g,0,none⟩),.string ⟨#[101,120,112,105,114,101]⟩] w (ChD g B0 B0 sv now lv l (doC .expire s now (c0 :: l)) w))∧(∀(g B0:Nat) (sv) (now:Int) (lv) (l:YX) (s) (c0) (w) (ok:z22 s) (hn:1≤l.length) (h12:l.length≤11) (hz:∀t∈l,t.size≤60) (h0:0≤now∧now≤1000000) (h:Dr g B0 sv now lv l s w),Calls prog 154 #[.pointer (some ⟨g,0,none⟩),.string ⟨#[107,101,121,115]⟩] w (ChD g B0 B0 sv now lv l (doC .keys_ s now (c0 :: l)) w))∧(∀(g B0:Nat) (sv) (now:Int) (lv) (l:YX) (s) (c0) (w) (ok:z22 s) (hn:1≤l.length) (h12:l.length≤11) (hz:∀t∈l,t.size≤60) (h:Dr g B0 sv now lv l s w),Calls prog 154 #[.pointer (some ⟨g,0,none⟩),.string ⟨#[116,121,112,101]⟩] w (ChD g B0 B0 sv now lv l (doC .type_ s now (c0 :: l)) w))∧(∀(g B0:Nat) (sv) (now:Int) (lv) (l:YX) (s) (c0) (w) (ok:z22 s) (hn:1≤l.length) (h12:l.length≤11) (hz:∀t∈l,t.size≤60) (h:Dr g B0 sv now lv l s w),Calls prog 154 #[.pointer (some ⟨g,0,none⟩),.string ⟨#[101,120,105,115,116,115]⟩] w (ChD g B0 B0 sv now lv l (doC .exists_ s now (c0 :: l)) w)):=by
 refine⟨?_,?_,?_,?_,?_⟩;have V:=hid trivial
 rotate_left
 have U:=hid trivial
 rotate_left
 have a0:=hid trivial
 rotate_left
 have ai:=hid trivial
 rotate_left
 have bc:=hid trivial
 all_goals
  first
  | (guard_hyp V
     intro g B0 sv now lv l s c0 w ok hn h12 hz hk h)
  | (guard_hyp U
     intro g B0 sv now lv l s c0 w ok hn h12 hz n1 h1 hv h0 hk h)
  | (guard_hyp a0
     intro g B0 sv now lv l s c0 w ok hn h12 hz h0 h)
  | (intro g B0 sv now lv l s c0 w ok hn h12 hz h)
  have hr:=ok.rise;have b8:=ok.le
  first
  | (guard_hyp V
     have LS:=hid (z2n (z17 ok) now (wd l 0)).item;have LT:=z3a ok now (wd l 0)
     have KY:(z00 s now (wd l 0)).key=wd l 0:=by
      rcases z62 ok now (wd l 0) with⟨_,h2⟩|⟨_,_,_,h4⟩
      ·
       rw[hk.1] at h2;cases h2
      ·
       exact h4
     have G:doC .persist s now (c0 :: l)=(if z2r s now (z00 s now (wd l 0)).key (z00 s now (wd l 0)).item 0=0 then zb7 s now (z00 s now (wd l 0)).key (z00 s now (wd l 0)).item 0 else s,orR (z0s 1) (z2r s now (z00 s now (wd l 0)).key (z00 s now (wd l 0)).item 0) false):=by
      show(if (z00 s now (wd l 0)).item.kind=0∨(z00 s now (wd l 0)).til=0 then (s,z0s 0) else fin s now (wd l 0) (z00 s now (wd l 0)).item 0 true false 0 (z0s 1))=_;rw[hk.1] at LT;rw[Xc (fun h=>h.elim (by simpa using LT.symm) hk.2)];rw[KY];unfold fin orR;rw[Xf rfl,Xf rfl];split
      ·
       rfl
      ·
       rw[Xc (fun h=>by cases h.2)]
     have PT:=hid (fun W yv (hd:Dr g B0 sv now lv l s W) (hy:z0k W B0 yv (z00 s now (wd l 0)).item)=>zan g B0 sv now lv l s (z00 s now (wd l 0)).key (z00 s now (wd l 0)).item yv 0 W hr (by omega) LS.o hd hy);obtain⟨pp,a7⟩:∃pp,pp=(if z2r s now (z00 s now (wd l 0)).key (z00 s now (wd l 0)).item 0=0 then zb7 s now (z00 s now (wd l 0)).key (z00 s now (wd l 0)).item 0 else s,orR (z0s 1) (z2r s now (z00 s now (wd l 0)).key (z00 s now (wd l 0)).item 0) false):=⟨_,rfl⟩;rw[G,←a7];have b2:=hid a7;clear G LT KY a7)
  | (guard_hyp U
     have LS:=hid (z2n (z17 ok) now (wd l 0)).item;have LT:=z3a ok now (wd l 0);have a9:=q3i h1;have ar:wn (c0 :: l) 2=n1:=by show(z5l (wd l 1).data.toList).getD 0=n1;rw[h1];rfl
     have bd:=zgj h1;have I1:=zI1 (by omega) hz h1 hv h;clear h1 hv
     have KY:(z00 s now (wd l 0)).key=wd l 0:=by
      rcases z62 ok now (wd l 0) with⟨_,h2⟩|⟨_,_,_,h4⟩
      ·
       rw[hk] at h2;cases h2
      ·
       exact h4
     have G:doC .expire s now (c0 :: l)=q50 s now (z00 s now (wd l 0)) n1:=by
      show(if (z00 s now (wd l 0)).item.kind=0 then (s,z0s 0) else if wn (c0 :: l) 2 < 1 then fin s now (wd l 0) (z2q 0) (now+wn (c0 :: l) 2) true false 0 (z0s 1) else fin s now (wd l 0) (z00 s now (wd l 0)).item (now+wn (c0 :: l) 2) true false (if 1000000 < now+wn (c0 :: l) 2 then 3 else 0) (z0s 1))=_;rw[hk] at LT;rw[Xc (by simpa using LT.symm),ar];unfold q50;rw[KY];by_cases a1:n1 < 1
      ·
       rw[Xf a1,Xf a1];unfold fin;rw[Xf rfl,Xf rfl,Xf (zb8 _ _ _ _).2,(zb8 _ _ _ _).1]
      ·
       rw[Xc a1,Xc a1];by_cases a2:1000000 < now+n1
       ·
        rw[Xf a2,Xf a2];rfl
       ·
        rw[Xc a2,Xc a2];unfold fin orR;rw[Xf rfl,Xf rfl];split
        ·
         rfl
        ·
         rw[Xc (fun h=>by cases h.2)]
     have XP:=hid (fun W A1 c1 A2 c2 A3 c3 (hd:Dr g B0 sv now lv l s W) (T:z38 W B0 (z9p (z00 s now (wd l 0)) A1 c1 A2 c2 A3 c3) (z00 s now (wd l 0)))=>zm9 g B0 sv now lv l s (z00 s now (wd l 0)) A1 c1 A2 c2 A3 c3 n1 W hr (by omega) LS.o h0 a9 hd T);rw[G];clear G LT KY a9 ar)
  | (guard_hyp a0
     have af:∀i,(wd l i).size≤60:=zfl hz
     have a4:z6h s now ⟨#[]⟩=0:=by
      unfold z6h;have ht:z30 now=true:=by unfold z30;rw[Xi h0.1,Xi h0.2];rfl
      rw[Xc (by simpa using zwx ok),Xc (by rw[ht];decide),Xc (by decide)]
     have G:doC .keys_ s now (c0 :: l)=(s,orR (z2h (zeb s now (wd l 0))) (zkb s now (wd l 0)) false):=by
      show fin s now (wd l 0) (z00 s now (wd l 0)).item (z00 s now (wd l 0)).til false false (z0z (wd l 0)) (z2h (zea s now (wd l 0)))=_;have an:zkb s now (wd l 0)=z0z (wd l 0):=Xf a4;rw[z2g,an];refine congrArg (Prod.mk s) (z8v fun h=>?_);unfold zeb;rw[Xf (an.trans h)]
     have ab:(zeb s now (wd l 0)).length≤1000:=by have:=zv0 s now (wd l 0);omega
     have DL:=hid (fun(W:World) u (q:Sl W W.heap.size 1 u (zeb s now (wd l 0)).length (z03 (zeb s now (wd l 0))))=>z3g (zeb s now (wd l 0)) u (zkb s now (wd l 0)) W ab q);have SK:=hid (fun W v (q:z1f W W.heap.size v s)=>zik s v now (wd l 0) W W.heap.size (z17 ok) (by omega) (by have:=af 0;omega) (Xb _) q);rw[G];clear G ab a4)
  | (guard_hyp ai
     have aj:0≤(z00 s now (wd l 0)).item.kind∧(z00 s now (wd l 0)).item.kind≤5:=by
      rcases z62 ok now (wd l 0) with⟨h1,_⟩|⟨h1,_⟩
      ·
       rw[h1];decide
      ·
       have:=(z2t h1).kind;omega
     have G:doC .type_ s now (c0 :: l)=(s,z4b (zmw (z00 s now (wd l 0)).item.kind)):=rfl;have L:=hid (fun W v B (k:z0p W B v (z00 s now (wd l 0)).item)=>zzl (z00 s now (wd l 0)).item v B W aj k);rw[G];clear G aj)
  | (have G:doC .exists_ s now (c0 :: l)=(s,z0s ((l.filter fun k=>z26 s now k).length:Nat)):=by
      show(s,z0s (((l.filter fun k=>zbl s now k).length:Nat)))=_;have:(fun k=>zbl s now k)=fun k=>z26 s now k:=funext fun k=>(z3a ok now k).symm;rw[this]
     have DT:=hid (fun W (hW:Fr [] w W)=>zjd g B0 sv now lv l s W hr (by omega) h12 (h.go hW));rw[G];clear G;generalize (l.filter fun k=>z26 s now k).length=nn at *)
  have LK:=hid (fun W (hW:Fr [] w W)=>z3n s sv now (wd l 0) W B0 hr (by omega) (h.e.fr hW));have H:=hid h;have ba:=h.lt;have Q:=h.bz;obtain⟨SA,sc,rfl⟩:=h.sform;obtain⟨LA,lc,rfl⟩:=h.lform;obtain⟨b,off,rfl,hb,T,hm,X⟩:=h.word (by omega);have D:=hid X;have DG:=hid (fun W (hW:Fr [] w W)=>(h.go hW).three);unfold maxLen at hm
  first
  | (guard_hyp V
     clear h hr X ok;generalize zb7 s now (z00 s now (wd l 0)).key (z00 s now (wd l 0)).item 0=s2 at *;generalize z2r s now (z00 s now (wd l 0)).key (z00 s now (wd l 0)).item 0=F at *)
  | (guard_hyp U
     clear h hr X ok;generalize q50 s now (z00 s now (wd l 0)) n1=pp at *)
  | (guard_hyp a0
     clear h hr X af ok;generalize zeb s now (wd l 0)=rr at *;generalize zkb s now (wd l 0)=cc at *;generalize orR (z2h rr) cc false=q9 at *)
  | (clear h hr X ok)
  generalize z00 s now (wd l 0)=y at *;generalize z26 s now (wd l 0)=bb at *;have be:(0:Int) < (l.length:Int):=by omega
  first
  | (guard_hyp V
     have HB:=hid hk.1;have q3:(y.til==0)=false:=by simpa using hk.2
     clear hk)
  | (guard_hyp U
     have HB:=hid hk;clear hk)
  | (skip)
  have F0:=zF2 w g;have P0:=zP0 w g;have Q0:=zQ0 w g;have F1:=zF3 F0;have V1:=zV1 w g;have au:¬g=w.heap.size+1+1:=by omega
  have b7:¬w.heap.size+1+1=g:=by omega
  have av:¬b=w.heap.size+1+1:=by omega
  have b3:¬w.heap.size+1+1=b:=by omega
  have ax:¬w.heap.size=w.heap.size+1+1:=by omega
  have b0:¬w.heap.size+1+1=w.heap.size:=by omega
  have al:0 < l.length:=by omega
  have z:=P0.o.cell 0;have p1:=(zP1 P0).cell 0;obtain⟨d0,d1,d2⟩:=DG.o _ F0.o;obtain⟨Z,d4,d5⟩:=DG.o _ F1.o;have d6:=F0.o.cell (D.o 0 (by omega)) (by simp);have d7:=F1.o.cell (D.o 0 (by omega)) (by simp);rw[Ye] at d6 d7;go_enter func154,ntmps154;go_upto_region 1 with fail;go_cut [5,6] (fun pb po a=>po=.bool bb∧zh1 B0 y ((w.alloc (.cells #[.pointer (some ⟨g,0,none⟩)] 139)).alloc (.cells yRza 27)) pb a)
  case first=>
   go_region_held3 (fun a=>a.cell? ⟨w.heap.size,0,none⟩=some (.pointer (some ⟨g,0,none⟩))∧a.cell? ⟨g,0,none⟩=some (.slice SA s.length sc)∧a.cell? ⟨g,1,none⟩=some (.int .i64 now)∧a.cell? ⟨g,2,none⟩=some (.slice (some ⟨b,off,none⟩) l.length lc)∧a.cell? ⟨b,off,none⟩=some (.string (wd l 0))) (go_keep) ((go_at_call 201;first|(refine(LK.o _ F0.o.drew).mono ?_;rintro C w1 ⟨A1,c1,A2,c2,A3,c3,rfl,T,f1⟩;have F2:=hid (z01 f1);have F3:=hid (F0.o.trans F2.o);have O:=hid T;obtain⟨z0,z1,z2⟩:=DG.o _ F3.o;have z3:=F3.o.cell (D.o 0 (by omega)) (by simp);rw[Ye] at z3;have z4:=(P0.o.f0 F2.o).cell 0;clear f1 T)|(refine(LK.o _ F1.o.drew).mono ?_;rintro C w1 ⟨A1,c1,A2,c2,A3,c3,rfl,T,f1⟩;have F2:=hid (z3v (z01 f1));have F3:=hid (F1.o.trans (z01 f1));have O:=hid T;have V2:=hid (V1.o.f0 (z01 f1));obtain⟨z0,z1,z2⟩:=DG.o _ F3.o;have z3:=F3.o.cell (D.o 0 (by omega)) (by simp);rw[Ye] at z3;have z4:=((P0.o.alloc (.cells yEza 70)).f0 (z01 f1)).cell 0;have y7:=seven V2.o;have z7:=zbi V2.o;clear f1 T)))
   all_goals
    go_wp2;go_meet
    case rel=>first|with_reducible exact⟨rfl,zh1.new O.o F2.o⟩|exact⟨rfl,zh1.put O.o F2.o (by simp) V2.o⟩
  clear d0 d1 d2 Z d4 d5 d6 d7 z p1;obtain⟨rfl,I,A1,c1,A2,c2,A3,c3,rfl,aq,hw,T,hf⟩:=hcut;have O:=hid T;have am:w.heap.size+1 < I:=by simp at aq;omega
  have m:=zKW H P0 Q0 F0 hf hw am;clear hf hw T aq au b7 av b3 ax b0
  first
  | (guard_hyp V
     have a5:=HB.o;clear HB;subst a5;have hz1:¬w.heap.size=w.heap.size+1:=by omega
     have hz2:¬g=w.heap.size+1:=by omega
     have ac:¬I=w.heap.size+1:=by omega
     have ao:¬w.heap.size+1=I:=by omega
     have ag:¬w.heap.size+1=g:=by omega
     have ad:¬b=w.heap.size+1:=by omega
     have ah:¬w.heap.size+1=b:=by omega
     have z:=(m.o.bl _ (.head _)).cell 0;obtain⟨K,C,M,P,N,E,J⟩:=seven (m.o.bl _ (.tail _ (.tail _ (.head _))));go_upto_region 20 with fail;have L:=hid m.o.drew;have HD:=hid (O.o.fr (Fr.refl [] _).drew);clear m O;have m:=L;have O:=HD;clear L HD;go_region_held3 (fun a=>a.cell? ⟨w.heap.size,0,none⟩=some (.pointer (some ⟨g,0,none⟩))∧a.cell? ⟨I,0,none⟩=some (.string y.key)∧a.cell? ⟨I,1,none⟩=some (.int .i64 y.item.kind)∧a.cell? ⟨I,2,none⟩=some (.string y.item.text)∧a.cell? ⟨I,3,none⟩=some (.slice A1 y.item.list.length c1)∧a.cell? ⟨I,4,none⟩=some (.slice A2 y.item.pairs.length c2)∧a.cell? ⟨I,5,none⟩=some (.slice A3 y.item.scores.length c3)) (go_keep) ((first|(go_at_call 197;refine(z1c _ _).mono ?_;rintro E w5 ⟨rfl,f5⟩;have KN:=hid (m.o.go f5);have ae:=hid (O.o.fr f5);clear m O z K C M P N E J;have m:=KN;have O:=ae;clear KN ae f5;have z:=(m.o.bl _ (.head _)).cell 0;obtain⟨K,C,M,P,N,E,J⟩:=seven (m.o.bl _ (.tail _ (.tail _ (.head _)))))|(go_at_call 193;refine(PT.o _ _ m.o.d O.o.item).mono ?_;rintro J w6 ⟨rfl,f6,b9,ak,aa⟩;have WB:=hid (m.o.keep H.o f6);have F6:=hid (m.o.f.up.trans f6);have D6:=hid aa;have G6:=hid ak;clear f6 ak aa z K C M P N E J;have z:=(WB.o _ (.head _)).cell 0;obtain⟨K,C,M,P,N,E,J⟩:=seven (WB.o _ (.tail _ (.tail _ (.head _)))))|(go_at_call 191;refine(z6l (z0s 1) _ F false (w.heap.size+1+1) _ (z1i.bare _ _ _ _ _)).mono ?_;rintro e8 w8 ⟨rfl,A⟩;have F8:=hid (F6.o.trans A.up);have aw:=hid A;have j:=hid (fun p hp=>(WB.o p hp).f0 A);clear A z K C M P N E J;have z:=(j.o _ (.head _)).cell 0;obtain⟨K,C,M,P,N,E,J⟩:=seven (j.o _ (.tail _ (.tail _ (.head _))));obtain⟨y0,y1,y2,Y⟩:=four (j.o _ (.tail _ (.head _)));obtain⟨z0,z1,z2,z3⟩:=z1p (j.o _ (.tail _ (.head _)));have HV:=hid (show z1i w8 (w.heap.size+1+1) (orV (.agg #[.int .i64 3,.string ⟨#[]⟩,.int .i64 1,.slice none 0 0]) F false) (orR (z0s 1) F false) from zc2 (z1i.bare _ _ _ _ _) F false);obtain⟨S,a3,hS⟩:=HV.o.form;have ap:=hid hS;clear hS;rw[ap.o])))
     have ay:=hid (show z1i w8 (w.heap.size+1+1) (.agg #[.int .i64 (orR (z0s 1) F false).kind,.string (orR (z0s 1) F false).text,.int .i64 (orR (z0s 1) F false).n,.slice S (orR (z0s 1) F false).list.length a3]) (orR (z0s 1) F false) from by have:=HV.o;rw[ap.o] at this;exact this)
     have b6:=hid (show(orR (z0s 1) F false).kind≠2→∃sv',Dr g B0 sv' now (.slice (some ⟨b,off,none⟩) l.length lc) l (if F=0 then s2 else s) w8 from fun hk=>by
      by_cases hp:F=0
      ·
       rw[Xf hp];exact⟨_,(D6.o hp).go aw.o⟩
      ·
       exact absurd (show(orR (z0s 1) F false).kind=2 from by unfold orR;rw[Xc hp,Xc (fun h=>by cases h.2)];rfl) hk)
     generalize (if F=0 then s2 else s)=sf at *;generalize orR (z0s 1) F false=q9 at *;go_wp2;refine Xg (v:=.agg (yRa q9 S a3)) (by simp[results,results154,go_sem,y0,y1,y2,Y]) rfl ?_;rw[b2.o];exact ChD.fin4o (Uh _) ay.o F8.o (j.o _ (.tail _ (.head _))) Q b6.o)
  | (guard_hyp U
     have a5:=HB.o;clear HB;subst a5;have hz1:¬w.heap.size=w.heap.size+1:=by omega
     have hz2:¬g=w.heap.size+1:=by omega
     have ac:¬I=w.heap.size+1:=by omega
     have ao:¬w.heap.size+1=I:=by omega
     have ag:¬w.heap.size+1=g:=by omega
     have ad:¬b=w.heap.size+1:=by omega
     have ah:¬w.heap.size+1=b:=by omega
     have z:=(m.o.bl _ (.head _)).cell 0;obtain⟨K,C,M,P,N,E,J⟩:=seven (m.o.bl _ (.tail _ (.tail _ (.head _))));go_upto_region 23 with fail;have L:=hid m.o.drew;have HD:=hid (O.o.fr (Fr.refl [] _).drew);go_region_held3 (fun a=>a.cell? ⟨w.heap.size,0,none⟩=some (.pointer (some ⟨g,0,none⟩))∧yEc a I y A1 c1 A2 c2 A3 c3) ((simp only[yEc];go_keep)) ((first|(go_at_call 200;refine(I1.o _ L.o.f).mono ?_;rintro E w5 ⟨rfl,f5⟩;have K5:=hid (L.o.go f5);have b1:=hid (HD.o.fr f5);clear f5 z K C M P N E J;have z:=(K5.o.bl _ (.head _)).cell 0;obtain⟨K,C,M,P,N,E,J⟩:=seven (K5.o.bl _ (.tail _ (.tail _ (.head _)))))|(go_at_call 208;refine(XP.o _ _ _ _ _ _ _ K5.o.d b1.o).mono ?_;rintro e8 w8 ⟨u,rfl,hu,A,hd⟩;obtain⟨R,rc,rfl⟩:=hu.form;have j:=hid (K5.o.keep H.o A);have HU:=hid (hu.base (show w.heap.size+1+1≤_ from(by have:=(K5.o.bl _ (.tail _ (.head _))).lt;exact this)));have b5:=hid hd;have F8:=hid (K5.o.f.up.trans A);clear A hu hd z K C M P N E J;have z:=(j.o _ (.head _)).cell 0;obtain⟨K,C,M,P,N,E,J⟩:=seven (j.o _ (.tail _ (.tail _ (.head _))));obtain⟨y0,y1,y2,Y⟩:=four (j.o _ (.tail _ (.head _)));obtain⟨z0,z1,z2,z3⟩:=z1p (j.o _ (.tail _ (.head _))))))
     obtain⟨sp,pr⟩:=pp;go_wp2;refine Xg (v:=.agg (yRa pr R rc)) (by simp[results,results154,go_sem,y0,y1,y2,Y]) rfl ?_;exact ChD.fin4o (Uh _) HU.o F8.o (j.o _ (.tail _ (.head _))) Q b5.o)
  | (guard_hyp a0
     have hz1:¬w.heap.size=w.heap.size+1:=by omega
     have hz2:¬g=w.heap.size+1:=by omega
     have ac:¬I=w.heap.size+1:=by omega
     have ao:¬w.heap.size+1=I:=by omega
     have ag:¬w.heap.size+1=g:=by omega
     have ad:¬b=w.heap.size+1:=by omega
     have ah:¬w.heap.size+1=b:=by omega
     have al:0 < l.length:=by omega
     have L:=hid m.o.drew;have z:=(L.o.bl _ (.head _)).cell 0;obtain⟨d0,d1,d2⟩:=L.o.d.three;have Z:=L.o.f.cell (D.o 0 (by omega)) (by simp);rw[Ye] at Z;go_upto_region 10 with fail;go_region_held3 (fun a=>a.cell? ⟨w.heap.size,0,none⟩=some (.pointer (some ⟨g,0,none⟩))∧a.cell? ⟨g,0,none⟩=some (.slice SA s.length sc)∧a.cell? ⟨g,1,none⟩=some (.int .i64 now)∧a.cell? ⟨g,2,none⟩=some (.slice (some ⟨b,off,none⟩) l.length lc)∧a.cell? ⟨b,off,none⟩=some (.string (wd l 0))) (go_keep) ((first|(go_at_call 207;refine(SK.o _ _ L.o.d.e.v).mono ?_;rintro e7 w7 ⟨AK,nk,rfl,a8,f7⟩;have K7:=hid (L.o.go f7);have az:=hid (z0l a8);clear a8 f7 z d0 d1 d2 Z;have z:=(K7.o.bl _ (.head _)).cell 0;obtain⟨d0,d1,d2⟩:=K7.o.d.three;have Z:=K7.o.f.cell (D.o 0 (by omega)) (by simp);rw[Ye] at Z)|(go_at_call 206;refine(DL.o _ _ az.o).mono ?_;rintro e8 w8 ⟨u8,rfl,a6,A⟩;have x:=hid (K7.o.go A);have b4:=hid (a6.base (show w.heap.size+1+1≤_ from(by have:=(K7.o.bl _ (.tail _ (.head _))).lt;exact this)));obtain⟨S,a3,rfl⟩:=a6.form;clear a6 A z d0 d1 d2 Z;have z:=(x.o.bl _ (.head _)).cell 0;obtain⟨d0,d1,d2⟩:=x.o.d.three;have Z:=x.o.f.cell (D.o 0 (by omega)) (by simp);rw[Ye] at Z;obtain⟨y0,y1,y2,Y⟩:=four (x.o.bl _ (.tail _ (.head _)));obtain⟨z0,z1,z2,z3⟩:=z1p (x.o.bl _ (.tail _ (.head _))))))
     go_wp2;refine Xg (v:=.agg (yRa q9 S a3)) (by simp[results,results154,go_sem,y0,y1,y2,Y]) rfl ?_;exact ChD.fin4o (Uh _) b4.o x.o.f.up (x.o.bl _ (.tail _ (.head _))) Q (fun _=>⟨_,x.o.d⟩))
  | (guard_hyp ai
     generalize zmw y.item.kind=kw at *;obtain⟨K,C,M,P,N,E,J⟩:=seven (m.o.bl _ (.tail _ (.tail _ (.head _))));go_wp2_with fail;refine(L.o _ _ _ O.o.item.item).mono ?_;rintro e7 w7 ⟨rfl,f7⟩;have K7:=hid (m.o.go f7);clear f7 K C M P N E J;go_wp2_with fail;refine(zdm _ _).mono ?_;rintro e8 w8 ⟨rfl,A⟩;have x:=hid (K7.o.go A);clear A;obtain⟨y0,y1,y2,Y⟩:=four (x.o.bl _ (.tail _ (.head _)));obtain⟨z0,z1,z2,z3⟩:=z1p (x.o.bl _ (.tail _ (.head _)));go_wp2;refine Xg (v:=.agg #[.int .i64 1,.string kw,.int .i64 0,.slice none 0 0]) (by simp[results,results154,go_sem,y0,y1,y2,Y]) rfl ?_;exact ChD.fin4o (r:=z4b kw) (Uh _) (z1i.bare _ _ _ _ _) x.o.f.up (x.o.bl _ (.tail _ (.head _))) Q (fun _=>⟨_,x.o.d⟩))
  | (have z:=(m.o.bl _ (.head _)).cell 0
     go_wp2_with fail;refine(DT.o _ m.o.f).mono ?_;rintro e8 w8 ⟨rfl,A⟩;have x:=hid (m.o.go A);clear A z;obtain⟨y0,y1,y2,Y⟩:=four (x.o.bl _ (.tail _ (.head _)));obtain⟨z0,z1,z2,z3⟩:=z1p (x.o.bl _ (.tail _ (.head _)));go_wp2;refine Xg (v:=.agg #[.int .i64 3,.string ⟨#[]⟩,.int .i64 (nn:Int),.slice none 0 0]) (by simp[results,results154,go_sem,y0,y1,y2,Y]) rfl ?_;exact ChD.fin4o (r:=z0s (nn:Int)) (Uh _) (z1i.bare _ _ _ _ _) x.o.f.up (x.o.bl _ (.tail _ (.head _))) Q (fun _=>⟨_,x.o.d⟩))
abbrev zme:=@And.left _ _ q7f
abbrev zql:=@And.left _ _ (@And.right _ _ q7f)
abbrev zyp:=@And.left _ _ (@And.right _ _ (@And.right _ _ q7f))
abbrev zys:=@And.left _ _ (@And.right _ _ (@And.right _ _ (@And.right _ _ q7f)))
abbrev zqj:=@And.right _ _ (@And.right _ _ (@And.right _ _ (@And.right _ _ q7f)))
theorem zqn(ok:z22 s)(hn:1≤l.length)(h12:l.length≤11)(hz:∀t∈l,t.size≤60)(h:Dr g B0 sv now lv l s w):
  Calls prog 154 #[.pointer (some ⟨g,0,none⟩),.string ⟨#[112,101,114,115,105,115,116]⟩] w (ChD g B0 B0 sv now lv l (doC .persist s now (c0 :: l)) w):=by
 rcases hb:z26 s now (wd l 0) with _|_
 ·exact zmc g B0 sv now lv l s c0 w ok hn h12 hz hb h
 ·by_cases ht:(z00 s now (wd l 0)).til=0
  ·exact zmd g B0 sv now lv l s c0 w ok hn h12 hz ⟨hb,ht⟩ h
  ·exact zme g B0 sv now lv l s c0 w ok hn h12 hz ⟨hb,ht⟩ h
theorem zqk(ok:z22 s)(hn:2≤l.length)(h12:l.length≤11)(hz:∀t∈l,t.size≤60)(hk:z26 s now (wd l 0)=false)(h:Dr g B0 sv now lv l s w):
  Calls prog 154 #[.pointer (some ⟨g,0,none⟩),.string ⟨#[101,120,112,105,114,101]⟩] w (ChD g B0 B0 sv now lv l (doC .expire s now (c0 :: l)) w):=by
 have a:=z3a ok now (wd l 0)
 have b:doC .expire s now (c0 :: l)=(s,z0s 0):=by
  show(if (z00 s now (wd l 0)).item.kind=0 then (s,z0s 0) else _)=_;rw[hk] at a;rw[Xf (by simpa using a.symm)]
 rw[b];exact zam _ 0 g B0 sv now lv l s w ok (by omega) h (.inr (.inr (.inr (.inr ⟨rfl,rfl,hk⟩))))
theorem ztw(ok:z22 s)(hn:2≤l.length)(h12:l.length≤11)(hz:∀t∈l,t.size≤60)(n1:Int)(h1:z5l (wd l 1).data.toList=some n1)(hv:Vars w)(h0:0≤now∧now≤1000000)(h:Dr g B0 sv now lv l s w):
  Calls prog 154 #[.pointer (some ⟨g,0,none⟩),.string ⟨#[101,120,112,105,114,101]⟩] w (ChD g B0 B0 sv now lv l (doC .expire s now (c0 :: l)) w):=by
 rcases hb:z26 s now (wd l 0) with _|_
 ·exact zqk g B0 sv now lv l s c0 w ok hn h12 hz hb h
 ·exact zql g B0 sv now lv l s c0 w ok hn h12 hz n1 h1 hv h0 hb h
end
end
end Go.Proofs.YtnmoajaelmimnaaGreatDoor
