/- Contracts; no condition but each theorem's own. -/
import Derived.Test.YtmkhmejempcimaaGreatDoorSlU5
set_option linter.unusedVariables false
set_option linter.unusedSimpArgs false
set_option maxHeartbeats 8000000
set_option maxRecDepth 100000
namespace Go.Proofs.YtmkhmejempcimaaGreatDoor
open Lib (hid)
open Go.Proofs.Tryz (prog)
open Go.RowKit
def Rd(w:World)(g:Nat)(s:ByteArray)(b:Bool):Prop:=Whole w g 150 [.string s,.bool b]
theorem zi7(g n:Nat)(s:ByteArray)(b:Bool)(w:World)(h:Rd w g s b)(hs:s.size≤281474976710656)(hn:s.size < n)(hn2:n≤281474976710656):
  Calls prog 83 #[.pointer (some ⟨g,0,none⟩),.int .i64 n] w fun e w'=>e=.returned (.string ByteArray.empty)∧Rd w' g ByteArray.empty true∧Fr [g] w w':=by
 have hc0:w.cell? ⟨g,0,none⟩=some (.string s):=h.cell 0;have hc1:w.cell? ⟨g,1,none⟩=some (.bool b):=h.cell 1;have hf0:w.frozen? ⟨g,0,none⟩=false:=h.frozen 0;have hf1:w.frozen? ⟨g,1,none⟩=false:=h.frozen 1;have H:=hid h;clear h;go_enter Tryz.func83,Tryz.ntmps83;go_wp2;go_ret;exact⟨rfl,(H.out.set_ 0 _).set_ 1 _,((Fr.refl [g] w).setCell (p:=⟨g,0,none⟩) (.inl (by simp)) _).setCell (p:=⟨g,1,none⟩) (.inl (by simp)) _⟩
theorem z7r(g n:Nat)(s:ByteArray)(b:Bool)(w:World)(h:Rd w g s b)(hs:s.size≤281474976710656)(hn:¬s.size < n):
  Calls prog 83 #[.pointer (some ⟨g,0,none⟩),.int .i64 n] w fun e w'=>e=.returned (.string (s.extract 0 n))∧Rd w' g (s.extract n s.size) b∧Fr [g] w w':=by
 have hc0:w.cell? ⟨g,0,none⟩=some (.string s):=h.cell 0;have hc1:w.cell? ⟨g,1,none⟩=some (.bool b):=h.cell 1;have hf0:w.frozen? ⟨g,0,none⟩=false:=h.frozen 0;have hf1:w.frozen? ⟨g,1,none⟩=false:=h.frozen 1;have hle:n≤s.size:=by omega
 have H:=hid h;clear h;go_enter Tryz.func83,Tryz.ntmps83;go_wp2;go_ret;exact⟨rfl,H.out.set_ 0 _,(Fr.refl [g] w).setCell (p:=⟨g,0,none⟩) (.inl (by simp)) _⟩
theorem zf5(w:World)(s:ByteArray)(hs:s.size≤281474976710656):∃cap wb,(convert 9 130 (.string s)).run prog w=.ok (.slice (some ⟨w.heap.size,0,none⟩) s.size cap) wb∧Fr [] w wb∧s.size≤cap∧cap≤maxLen ∧
  ∀j,j < s.size→wb.cell? ⟨w.heap.size,j,none⟩=some (.int .u8 (z0d s j)):=by
 refine⟨_,_,Lib.run_convert_string_bytes w 9 130 5 s Tryz.underlying9 Tryz.underlying130 Tryz.underlying5,⟨?_,?_,?_,?_,?_⟩,grownCap_ge _ _ _ _,grownCap_le_maxLen _ _ _ _ (by unfold maxLen;omega),?_⟩
 ·unfold Lib.bytesWorld World.freeze;rfl
 ·unfold Lib.bytesWorld World.freeze;rfl
 ·unfold Lib.bytesWorld World.freeze;rfl
 ·rw[Lib.bytesWorld_size];omega
 ·intro k hk _;exact Lib.bytesWorld_at_old _ _ _ _ hk
 ·intro j hj;exact Lib.bytesWorld_cell _ _ _ _ hj
def z5v(t:ByteArray):Nat→Nat
 | 0=>0
 | k+1=>z5v t k * 256+z0d t k
theorem zfi(t:ByteArray):∀k,k≤4→z5v t k < 256 ^ k:=by
 intro k hk
 induction k with
 | zero=>simp[z5v]
 | succ k ih=>
  have h1:=ih (by omega);have h2:=z1r t k;rw[z5v,Nat.pow_succ];omega
theorem zd9(t:ByteArray)(k:Nat)(hk:k≤3):z5v t k < 16777216:=by
 have:=zfi t k (by omega);have h2:256 ^ k≤256 ^ 3:=Nat.pow_le_pow_right (by omega) hk;omega
theorem zpd(a b:Nat)(hb:b < 256):a * 256 ||| b=a * 256+b:=by
 have:=Nat.shiftLeft_add_eq_or_of_lt (i:=8) (b:=b) (by simpa using hb) a;rw[Nat.shiftLeft_eq] at this;exact this.symm
theorem z8w(a:Nat)(ha:a < 9223372036854775808):(BitVec.ofInt 64 (a:Int)).toNat=a:=by
 rw[BitVec.ofInt_natCast,BitVec.toNat_ofNat];exact Nat.mod_eq_of_lt (by omega)
theorem zol(a c:Nat)(ha:a < 16777216)(hc:c < 256):bits .or .i64 ((a:Int) * 256) (c:Int)=((a * 256+c:Nat):Int):=by
 have e:((a:Int) * 256)=((a * 256:Nat):Int):=by omega
 rw[e];show IntKind.i64.wrap ((BitVec.ofInt 64 ((a * 256:Nat):Int) ||| BitVec.ofInt 64 (c:Int)).toNat:Int)=_
 rw[BitVec.toNat_or,z8w _ (by omega),z8w _ (by omega),zpd a c hc];exact IntWalk.i64_in _ (by omega)
theorem z9c(g n:Nat)(s:ByteArray)(b:Bool)(w:World)(h:Rd w g s b)(hs:s.size≤281474976710656)(hn:¬s.size < n)(h4:n≤4):
  Calls prog 82 #[.pointer (some ⟨g,0,none⟩),.int .i64 n] w fun e w'=>e=.returned (.int .i64 (z5v (s.extract 0 n) n))∧Rd w' g (s.extract n s.size) b∧Fr [g] w w':=by
 have T:=hid (z7r g n s b w h hs hn);have hg:=Whole.lt h;clear h;go_enter Tryz.func82,Tryz.ntmps82;go_wp2_with fail;refine T.out.mono ?_;rintro e w1 ⟨rfl,r1,f1⟩;have hts:(s.extract 0 n).size=n:=by simp;omega
 obtain⟨cap,wb,hconv,fb,hcap,hcm,hcell⟩:=zf5 w1 (s.extract 0 n) (by omega);rw[hts] at hconv hcap hcell;have R1:=hid (show Rd wb g (s.extract n s.size) b from Whole.fr r1 fb (by simp));have F1:=hid (show Fr [g] w wb from f1.trans fb.up);have HC:=hid hcell;clear r1 f1 fb hcell hts T;generalize ht:s.extract 0 n=t at *;have HT:=hid ht;clear ht;go_wp2;clear hconv
 go_loop [5,13] (fun v i=>∃k:Nat,k≤n∧i=.int .i64 k∧v=.int .i64 (z5v t k)) (fun _ i=>n - (intOf i).toNat)
 case atStart=>exact⟨0,Nat.zero_le _,rfl,rfl⟩
 case round=>
  obtain⟨k,hk,rfl,rfl⟩:=hrel;by_cases hlt:k < n
  ·have hc:=HC.out k hlt;have hb:=z1r t k;have hm:=zd9 t k (by omega);have HN:=hid (show z5v t (k+1)=z5v t k * 256+z0d t k from rfl);generalize z5v t k=a at *;generalize z0d t k=c at *;generalize hz:z5v t (k+1)=z at *;have HZ:=hid hz;clear hz;go_wp2;rw[zol a c hm hb]
   go_round
   case rel=>exact⟨k+1,by omega,by go_num,by rw[HZ.out,HN.out]⟩
   case measure=>simp[intOf];omega
  ·have e:k=n:=by omega
   subst e;go_wp2;go_ret;rw[HT.out];exact⟨rfl,R1.out,F1.out⟩
theorem zbb(g n:Nat)(s:ByteArray)(b:Bool)(w:World)(h:Rd w g s b)(hs:s.size≤281474976710656)(hn:s.size < n)(h4:n≤4):
  Calls prog 82 #[.pointer (some ⟨g,0,none⟩),.int .i64 n] w fun e w'=>e=.returned (.int .i64 0)∧Rd w' g ByteArray.empty true∧Fr [g] w w':=by
 have T:=hid (zi7 g n s b w h hs hn (by omega));have hg:=Whole.lt h;clear h;go_enter Tryz.func82,Tryz.ntmps82;go_wp2_with fail;refine T.out.mono ?_;rintro e w1 ⟨rfl,r1,f1⟩;obtain⟨cap,wb,hconv,fb,hcap,hcm,hcell⟩:=zf5 w1 ByteArray.empty (by decide);have R1:=hid (show Rd wb g ByteArray.empty true from Whole.fr r1 fb (by simp));have F1:=hid (show Fr [g] w wb from f1.trans fb.up);clear r1 f1 fb hcell T;rw[show ByteArray.empty.size=0 from rfl] at hconv hcap;go_wp2;clear hconv;refine wp_loop_rounds 1 ?_;rw[rounds_succ];go_wp2;go_ret;exact⟨rfl,R1.out,F1.out⟩
theorem z7p(g:Nat)(s:ByteArray)(b:Bool)(w:World)(h:Rd w g s b)(hs:s.size≤281474976710656)(hn:¬s.size < 1):
  Calls prog 82 #[.pointer (some ⟨g,0,none⟩),.int .i64 1] w fun e w'=>e=.returned (.int .i64 (z0d s 0))∧Rd w' g (s.extract 1 s.size) b∧Fr [g] w w':=by
 have h1:=z9c g 1 s b w h hs hn (by omega)
 have e:z5v (s.extract 0 1) 1=z0d s 0:=by
  simp only[z5v];rw[z1s s 0 1 0 (by omega) (by omega)];simp
 rw[e] at h1;exact h1
theorem ze2(g:Nat)(s:ByteArray)(b:Bool)(w:World)(h:Rd w g s b)(hs:s.size≤281474976710656)(hn:s.size < 1):
  Calls prog 82 #[.pointer (some ⟨g,0,none⟩),.int .i64 1] w fun e w'=>e=.returned (.int .i64 0)∧Rd w' g ByteArray.empty true∧Fr [g] w w':=
 zbb g 1 s b w h hs hn (by omega)
theorem zlk(g:Nat)(s t r:ByteArray)(b:Bool)(w:World)(h:Rd w g s b)(hs:s.size≤281474976710656)(ht:z28 s=some (t,r)):
  Calls prog 111 #[.pointer (some ⟨g,0,none⟩)] w fun e w'=>e=.returned (.string t)∧Rd w' g r b∧Fr [g] w w':=by
 unfold z28 z84 at ht;by_cases h1:s.size < 1
 ·rw[if_pos h1] at ht;cases ht
 ·rw[if_neg h1,Option.bind_some] at ht;unfold zc3 at ht;by_cases h2:(s.extract 1 s.size).size < z0d s 0
  ·rw[if_pos h2] at ht;cases ht
  ·rw[if_neg h2] at ht;cases ht;have N:=hid (z7p g s b w h hs h1);have T:=hid (fun W hW=>z7r g (z0d s 0) (s.extract 1 s.size) b W hW (by simp;omega) h2);clear h;generalize z0d s 0=n at *;generalize s.extract 1 s.size=q at *;go_enter Tryz.func111,Tryz.ntmps111;go_wp2_with fail;refine N.out.mono ?_;rintro e w1 ⟨rfl,r1,f1⟩;have R1:=hid r1;clear r1;go_wp2_with fail;refine(T.out _ R1.out).mono ?_;rintro e w2 ⟨rfl,r2,f2⟩;have R2:=hid r2;clear r2;go_wp2;go_ret;exact⟨rfl,R2.out,f1.trans f2⟩
theorem zn7(g:Nat)(s:ByteArray)(b:Bool)(w:World)(h:Rd w g s b)(hs:s.size≤281474976710656)(ht:z28 s=none):
  Calls prog 111 #[.pointer (some ⟨g,0,none⟩)] w fun e w'=>(∃t:ByteArray,t.size=0∧e=.returned (.string t))∧(∃s':ByteArray,s'.size=0∧Rd w' g s' true)∧Fr [g] w w':=by
 unfold z28 z84 at ht;by_cases h1:s.size < 1
 ·have N:=hid (ze2 g s b w h hs h1);have T:=hid (fun W hW=>z7r g 0 ByteArray.empty true W hW (by decide) (by decide));clear h;go_enter Tryz.func111,Tryz.ntmps111;go_wp2_with fail;refine N.out.mono ?_;rintro e w1 ⟨rfl,r1,f1⟩;have R1:=hid r1;clear r1;go_wp2_with fail;refine(T.out _ R1.out).mono ?_;rintro e w2 ⟨rfl,r2,f2⟩;have R2:=hid r2;clear r2;go_wp2;go_ret;exact⟨⟨_,rfl,rfl⟩,⟨_,rfl,R2.out⟩,f1.trans f2⟩
 ·rw[if_neg h1,Option.bind_some] at ht;unfold zc3 at ht;by_cases h2:(s.extract 1 s.size).size < z0d s 0
  ·have N:=hid (z7p g s b w h hs h1);have T:=hid (fun W hW=>zi7 g (z0d s 0) (s.extract 1 s.size) b W hW (by simp;omega) h2 (by have:=z1r s 0;omega));clear h ht;generalize z0d s 0=n at *;generalize s.extract 1 s.size=q at *;go_enter Tryz.func111,Tryz.ntmps111;go_wp2_with fail;refine N.out.mono ?_;rintro e w1 ⟨rfl,r1,f1⟩;have R1:=hid r1;clear r1;go_wp2_with fail;refine(T.out _ R1.out).mono ?_;rintro e w2 ⟨rfl,r2,f2⟩;have R2:=hid r2;clear r2;go_wp2;go_ret;exact⟨⟨_,rfl,rfl⟩,⟨_,rfl,R2.out⟩,f1.trans f2⟩
  ·rw[if_neg h2] at ht;cases ht
def z3i{α:Type}(o:Option (α×ByteArray))(v:α)(r:ByteArray)(b b':Bool):Prop:=match o with
 | some p=>v=p.1∧r=p.2∧b'=b
 | none=>b'=true
def zks(g:Nat)(s:ByteArray)(b:Bool)(w:World)(e:Ending)(w':World):Prop:=
 ∃t r b',e=.returned (.string t)∧Rd w' g r b'∧Fr [g] w w'∧z3i (z28 s) t r b b'∧t.size≤281474976710656∧r.size≤s.size
theorem zh1{s t r:ByteArray}(h:z28 s=some (t,r)):t.size≤s.size∧r.size≤s.size:=by
 unfold z28 z84 at h;by_cases h1:s.size < 1
 ·rw[if_pos h1] at h;cases h
 ·rw[if_neg h1,Option.bind_some] at h;unfold zc3 at h;by_cases h2:(s.extract 1 s.size).size < z0d s 0
  ·rw[if_pos h2] at h;cases h
  ·rw[if_neg h2] at h;cases h;simp;omega
theorem z7n(g:Nat)(s:ByteArray)(b:Bool)(w:World)(h:Rd w g s b)(hs:s.size≤281474976710656):
  Calls prog 111 #[.pointer (some ⟨g,0,none⟩)] w (zks g s b w):=by
 cases ht:z28 s with
 | none=>
  refine(zn7 g s b w h hs ht).mono ?_;rintro e w' ⟨⟨t,hz,rfl⟩,⟨s',hz',hr⟩,hf⟩;refine⟨t,s',true,rfl,hr,hf,?_,by omega,by omega⟩;rw[ht];exact rfl
 | some p=>
  obtain⟨t,r⟩:=p;have hsz:=zh1 ht;refine(zlk g s t r b w h hs ht).mono ?_;rintro e w' ⟨rfl,hr,hf⟩;refine⟨t,r,b,rfl,hr,hf,?_,by omega,by omega⟩;rw[ht];exact⟨rfl,rfl,rfl⟩
def zi9(o:Option (Nat×ByteArray))(g:Nat)(s:ByteArray)(b:Bool)(w:World)(e:Ending)(w':World):Prop:=
 ∃(n:Nat) (r:ByteArray) (b':Bool),e=.returned (.int .i64 n)∧Rd w' g r b'∧Fr [g] w w'∧z3i o n r b b'∧n < 4294967296∧r.size≤s.size
theorem num1_any(g:Nat)(s:ByteArray)(b:Bool)(w:World)(h:Rd w g s b)(hs:s.size≤281474976710656):
  Calls prog 82 #[.pointer (some ⟨g,0,none⟩),.int .i64 1] w (zi9 (z84 s) g s b w):=by
 by_cases h1:s.size < 1
 ·refine(ze2 g s b w h hs h1).mono ?_;rintro e w' ⟨rfl,hr,hf⟩;refine⟨0,_,true,rfl,hr,hf,?_,by omega,Nat.zero_le _⟩;unfold z84;rw[if_pos h1];exact rfl
 ·refine(z7p g s b w h hs h1).mono ?_;rintro e w' ⟨rfl,hr,hf⟩;refine⟨_,_,b,rfl,hr,hf,?_,by have:=z1r s 0;omega,by simp⟩;unfold z84;rw[if_neg h1];exact⟨rfl,rfl,rfl⟩
theorem zln(g:Nat)(s:ByteArray)(b:Bool)(w:World)(h:Rd w g s b)(hs:s.size≤281474976710656):
  Calls prog 82 #[.pointer (some ⟨g,0,none⟩),.int .i64 4] w (zi9 (z87 s) g s b w):=by
 by_cases h1:s.size < 4
 ·refine(zbb g 4 s b w h hs h1 (Nat.le_refl _)).mono ?_;rintro e w' ⟨rfl,hr,hf⟩;refine⟨0,_,true,rfl,hr,hf,?_,by omega,Nat.zero_le _⟩;unfold z87;rw[if_pos h1];exact rfl
 ·refine(z9c g 4 s b w h hs h1 (Nat.le_refl _)).mono ?_;rintro e w' ⟨rfl,hr,hf⟩;refine⟨_,_,b,rfl,hr,hf,?_,?_,by simp⟩
  ·unfold z87;rw[if_neg h1];refine⟨?_,rfl,rfl⟩;simp only[z5v];rw[z1s s 0 4 0 (by omega) (by omega),z1s s 0 4 1 (by omega) (by omega),z1s s 0 4 2 (by omega) (by omega),z1s s 0 4 3 (by omega) (by omega)];simp
  ·have:=zfi (s.extract 0 4) 4 (Nat.le_refl _);omega
structure Gr(gi base:Nat)(x:Itm)(v1 v2 v3:Value)(w:World):Prop where
 whole:Whole w gi 46 [.int .i64 x.kind,.string x.text,v1,v2,v3]
 o1:w.ownsRow base 9 1 v1 x.list.length (z04 x.list)
 o2:w.ownsRow base 108 2 v2 x.pairs.length (z0t x.pairs)
 o3:w.ownsRow base 110 2 v3 x.scores.length (z0h x.scores)
theorem Gr.read{gi base g:Nat}{x:Itm}{v1 v2 v3:Value}{w w':World}{s:ByteArray}{b:Bool}(h:Gr gi base x v1 v2 v3 w)(hr:Rd w g s b)(hf:Fr [g] w w'):Gr gi base x v1 v2 v3 w':=by
 have e:∀ {v:Value},v.ownBlock≠some g→∀k,v.ownBlock=some k→k∉[g]:=by
  intro v hv k hk hm;rw[List.mem_singleton] at hm;exact hv (hm ▸ hk)
 exact⟨h.whole.fr hf (by simpa using h.whole.ne_ hr (by decide)),z05 h.o1 hf (e (z0g h.o1 hr (by decide))),z05 h.o2 hf (e (z0g h.o2 hr (by decide))),z05 h.o3 hf (e (z0g h.o3 hr (by decide)))⟩
def z9r(gi g base:Nat)(x:Itm)(s:ByteArray)(b:Bool)(w:World)(e:Ending)(w':World):Prop:=
 ∃x' v1' v2' v3' s' b',e=.returned (.tuple #[])∧Gr gi base x' v1' v2' v3' w'∧Rd w' g s' b'∧s'.size≤s.size∧x'.kind=x.kind∧many x'≤many x+1∧z3i (z2u x s) x' s' b b'∧FrB [g,gi] base w w'∧(x.Small→x'.Small)
theorem zcb(gi g base:Nat)(x:Itm)(v1 v2 v3:Value)(s:ByteArray)(b:Bool)(w:World)(hG:Gr gi base x v1 v2 v3 w)(hR:Rd w g s b)(hs:s.size≤281474976710656)(hm:many x≤1000)(hB:base≤w.heap.size)(hgi:gi < base)(hg:g < base)
  (k4:x.kind≠4) (k5:x.kind≠5):
  Calls prog 85 #[.pointer (some ⟨g,0,none⟩),.pointer (some ⟨gi,0,none⟩)] w (z9r gi g base x s b w):=by
 obtain⟨i0,hi,hz0,hz1,hz2⟩:=info_parts z2k;have T:=hid (z7n g s b w hR hs);have c0:w.cell? ⟨gi,0,none⟩=some (.int .i64 x.kind):=hG.whole.cell 0;have q4:(x.kind==4)=false:=by simpa using k4
 have q5:(x.kind==5)=false:=by simpa using k5
 have hE:=(show z2u x s=(z28 s).map fun p=>({ x with list:=x.list++[p.1] },p.2) by unfold z2u;rw[if_neg k4,if_neg k5]);have HE:=hid hE;have HG:=hid hG;have HR:=hid hR;have hmm:x.list.length≤1000:=by unfold many at hm;omega
 clear hE hG hR k4 k5;go_enter Tryz.func85,Tryz.ntmps85;go_wp2_with fail;refine T.out.mono ?_;rintro e w1 ⟨t,r,b1,rfl,hr1,f1,hread,hts,hrs⟩;have G1:=HG.out.read HR.out f1;have c2:w1.cell? ⟨gi,2,none⟩=some v1:=G1.whole.cell 2;have hsz:=f1.size;have hown:=G1.o1;have HG1:=hid G1;have HR1:=hid hr1;have HRD:=hid hread;clear G1 hr1 hread c0;go_wp2_with (at_builtin;refine wpList_append_own_at _ rfl _ _ 41 rfl base 9 i0 _ 1 16 Tryz.underlying41 hi hz0 hz1 hz2 rfl (by decide) _ _ _ rfl (hown.alloc _) ⟨w1.heap.size,0,none⟩ 1 1 [.string t] rfl rfl ?c1 ?c2 ?c3 ?c4 ?c5 ?_)
 case c1=>
  intro j u hj
  match j,hj with
  | 0,hj=>simp at hj;subst hj;simp[Addr.add]
 case c2=>intro u hu;simp at hu;subst hu;rfl
 case c3=>unfold maxLen;omega
 case c4=>omega
 case c5=>simp;omega
 intro v' w2 hown' hgrow _ hat;have W2:Whole w2 gi 46 [.int .i64 x.kind,.string x.text,v1,v2,v3]:=(HG1.out.whole.alloc _).grown hgrow (fun e=>z0g hown HG1.out.whole (by decide) e.symm);have R2:Rd w2 g r b1:=Whole.grown (HR1.out.alloc _) hgrow (fun e=>z0g hown HR1.out (by decide) e.symm);have d2:w2.cell? ⟨gi,2,none⟩=some v1:=W2.cell 2;have f2:w2.frozen? ⟨gi,2,none⟩=false:=W2.frozen 2;have o2:=(HG1.out.o2.alloc (.cells #[.string t] 9)).kept hgrow (z4j HG1.out.o2 hown (by decide));have o3:=(HG1.out.o3.alloc (.cells #[.string t] 9)).kept hgrow (z4j HG1.out.o3 hown (by decide));have hne:gi≠g:=HG1.out.whole.ne_ HR1.out (by decide)
 obtain⟨g',cap,rfl⟩:∃g' cap,v'=.slice (some ⟨g',0,none⟩) (x.list.length+1) cap:=by
  rcases hown'.2 with⟨_,h0⟩|⟨g',cap,cur,hv,_⟩
  ·omega
  ·exact⟨g',cap,hv⟩
 have FB:FrB [g,gi] base w w2:=(((f1.toB base).more (T:=[g,gi]) (by intro k hk;exact .inl (by simp at hk;simp[hk]))).alloc _).grown hgrow (fun k hk=>.inr (hown.lt k hk).1);have HW2:=hid W2;have HR2:=hid R2;clear W2 R2 hgrow hat hown;go_wp2
 go_end0
 refine⟨{ x with list:=x.list++[t] },_,_,_,r,b1,rfl,⟨HW2.out.set_ 2 _,?_,z0c _ o2 (z0g o2 HW2.out (by decide)),z0c _ o3 (z0g o3 HW2.out (by decide))⟩,HR2.out.far (p:=⟨gi,2,none⟩) (Ne.symm hne) _,hrs,rfl,?_,?_,FB.setCell (p:=⟨gi,2,none⟩) (.inl (by simp)) _,fun h=>⟨h.kind,h.text,by simp;omega,h.pairs,h.scores,?_,h.fields,h.members⟩⟩
 ·have:=z0c (p:=⟨gi,2,none⟩) (.slice (some ⟨g',0,none⟩) (x.list.length+1) cap) hown' (z0g hown' HW2.out (by decide));rw[zd4];simpa using this
 ·unfold many;simp;omega
 ·rw[HE.out];have hh:=HRD.out;cases ht:z28 s with
  | none=>rw[ht] at hh;exact hh
  | some p=>
   rw[ht] at hh;obtain⟨h1,h2,h3⟩:=hh;exact⟨by rw[h1],h2,h3⟩
 ·intro q hq;rcases List.mem_append.1 hq with hq|hq
  ·exact h.texts q hq
  ·rw[List.mem_singleton.1 hq];exact hts
theorem zpr{α β:Type}{o1:Option (α×ByteArray)}{f2:ByteArray→Option (β×ByteArray)}{t:α}{r:ByteArray}{t2:β}{r2:ByteArray}{b b1 b2:Bool}(mk:α→β→Itm)
  (h1:z3i o1 t r b b1) (h2:z3i (f2 r) t2 r2 b1 b2) (hz:b1=true→b2=true):z3i (o1.bind fun p=>(f2 p.2).map fun q=>(mk p.1 q.1,q.2)) (mk t t2) r2 b b2:=by
 cases o1 with
 | none=>exact hz h1
 | some p=>
  obtain⟨rfl,rfl,rfl⟩:=h1;rw[Option.bind_some];cases ho:f2 p.2 with
  | none=>rw[ho] at h2;exact h2
  | some q=>
   rw[ho] at h2;obtain⟨rfl,rfl,h3⟩:=h2;exact⟨rfl,rfl,h3⟩
theorem z8r{α:Type}{o:Option (α×ByteArray)}{v:α}{r:ByteArray}{b b':Bool}(h:z3i o v r b b'):b=true→b'=true:=by
 intro hb;cases o with
 | none=>exact h
 | some p=>rw[h.2.2];exact hb
theorem zm0{gi g base:Nat}{x:Itm}{v1 v2 v3:Value}{s t r t2 r2:ByteArray}{b b1 b2:Bool}{w w1 w2 w3:World}{g' cap:Nat}
  (G1:Gr gi base x v1 v2 v3 w1) (R1:Rd w1 g r b1) (G2:Gr gi base x v1 v2 v3 w2) (R2:Rd w2 g r2 b2) (hk:x.kind=4) (f1:Fr [g] w w1) (f3:Fr [g] w1 w2)
  (hE:z2u x s=(z28 s).bind fun p=>(z28 p.2).map fun q=>({ x with pairs:=x.pairs++[(p.1,q.1)] },q.2)) (h1:z3i (z28 s) t r b b1) (h2:z3i (z28 r) t2 r2 b1 b2) (hrs:r.size≤s.size) (hrs2:r2.size≤r.size) (hts:t.size≤281474976710656) (hts2:t2.size≤281474976710656) (hmm:x.pairs.length≤1000)
  (hB:base≤w.heap.size) (hon:w2.ownsRow base 108 2 v2 x.pairs.length (z0t x.pairs))
  (how:w3.ownsRow base 108 2 (.slice (some ⟨g',0,none⟩) (x.pairs.length+1) cap) (x.pairs.length+1) (z0t x.pairs++[.string t,.string t2]))
  (hgr:(w2.alloc (.cells #[.string t,.string t2] 108)).grownBy w3 v2.ownBlock) (hW:Whole w3 gi 46 [.int .i64 4,.string x.text,v1,v2,v3]):
  z9r gi g base x s b w (.returned (.tuple #[])) (w3.setCell ⟨gi,3,none⟩ (.slice (some ⟨g',0,none⟩) (x.pairs.length+1) cap)):=by
 have o1:=(G2.o1.alloc (.cells #[.string t,.string t2] 108)).kept hgr (z4j G2.o1 hon (by decide));have o3:=(G2.o3.alloc (.cells #[.string t,.string t2] 108)).kept hgr (z4j G2.o3 hon (by decide));have R3:Rd w3 g r2 b2:=Whole.grown (R2.alloc _) hgr (fun e=>z0g hon R2 (by decide) e.symm);have hne:gi≠g:=G2.whole.ne_ R2 (by decide);have FB:FrB [g,gi] base w w3:=(((f1.trans f3).toB base).more (T:=[g,gi]) (by intro k hk;exact .inl (by simp at hk;simp[hk]))).alloc _ |>.grown hgr (fun k hk=>.inr (hon.lt k hk).1)
 refine⟨{ x with pairs:=x.pairs++[(t,t2)] },v1,.slice (some ⟨g',0,none⟩) (x.pairs.length+1) cap,v3,r2,b2,rfl,⟨?_,z0c _ o1 (z0g o1 hW (by decide)),?_,z0c _ o3 (z0g o3 hW (by decide))⟩,R3.far (p:=⟨gi,3,none⟩) (Ne.symm hne) _,by omega,rfl,?_,?_,FB.setCell (p:=⟨gi,3,none⟩) (.inl (by simp)) _,fun h=>⟨h.kind,h.text,h.list,by simp;omega,h.scores,h.texts,?_,h.members⟩⟩
 ·have:=hW.set_ 3 (.slice (some ⟨g',0,none⟩) (x.pairs.length+1) cap);rw[←hk] at this;exact this
 ·have:=z0c (p:=⟨gi,3,none⟩) (.slice (some ⟨g',0,none⟩) (x.pairs.length+1) cap) how (z0g how hW (by decide));rw[zdj];simpa using this
 ·unfold many;simp;omega
 ·rw[hE];exact zpr (f2:=z28) (fun a b=>{ x with pairs:=x.pairs++[(a,b)] }) h1 h2 (z8r h2)
 ·intro q hq;rcases List.mem_append.1 hq with hq|hq
  ·exact h.fields q hq
  ·rw[List.mem_singleton.1 hq];exact⟨hts,hts2⟩
theorem zkn{gi g base:Nat}{x:Itm}{v1 v2 v3:Value}{s r t2 r2:ByteArray}{t:Nat}{b b1 b2:Bool}{w w1 w2 w3:World}{g' cap:Nat}
  (G1:Gr gi base x v1 v2 v3 w1) (R1:Rd w1 g r b1) (G2:Gr gi base x v1 v2 v3 w2) (R2:Rd w2 g r2 b2) (hk:x.kind=5) (f1:Fr [g] w w1) (f3:Fr [g] w1 w2)
  (hE:z2u x s=(z87 s).bind fun p=>(z28 p.2).map fun q=>({ x with scores:=x.scores++[((p.1:Int) - 999999999,q.1)] },q.2)) (h1:z3i (z87 s) t r b b1) (h2:z3i (z28 r) t2 r2 b1 b2) (hrs:r.size≤s.size) (hrs2:r2.size≤r.size) (hts:t < 4294967296) (hts2:t2.size≤281474976710656) (hmm:x.scores.length≤1000)
  (hB:base≤w.heap.size) (hon:w2.ownsRow base 110 2 v3 x.scores.length (z0h x.scores))
  (how:w3.ownsRow base 110 2 (.slice (some ⟨g',0,none⟩) (x.scores.length+1) cap) (x.scores.length+1) (z0h x.scores++[.int .i64 ((t:Int) - 999999999),.string t2]))
  (hgr:(w2.alloc (.cells #[.int .i64 ((t:Int) - 999999999),.string t2] 110)).grownBy w3 v3.ownBlock) (hW:Whole w3 gi 46 [.int .i64 5,.string x.text,v1,v2,v3]):
  z9r gi g base x s b w (.returned (.tuple #[])) (w3.setCell ⟨gi,4,none⟩ (.slice (some ⟨g',0,none⟩) (x.scores.length+1) cap)):=by
 have o1:=(G2.o1.alloc (.cells #[.int .i64 ((t:Int) - 999999999),.string t2] 110)).kept hgr (z4j G2.o1 hon (by decide));have o2:=(G2.o2.alloc (.cells #[.int .i64 ((t:Int) - 999999999),.string t2] 110)).kept hgr (z4j G2.o2 hon (by decide));have R3:Rd w3 g r2 b2:=Whole.grown (R2.alloc _) hgr (fun e=>z0g hon R2 (by decide) e.symm);have hne:gi≠g:=G2.whole.ne_ R2 (by decide);have FB:FrB [g,gi] base w w3:=(((f1.trans f3).toB base).more (T:=[g,gi]) (by intro k hk;exact .inl (by simp at hk;simp[hk]))).alloc _ |>.grown hgr (fun k hk=>.inr (hon.lt k hk).1)
 refine⟨{ x with scores:=x.scores++[((t:Int) - 999999999,t2)] },v1,v2,.slice (some ⟨g',0,none⟩) (x.scores.length+1) cap,r2,b2,rfl,⟨?_,z0c _ o1 (z0g o1 hW (by decide)),z0c _ o2 (z0g o2 hW (by decide)),?_⟩,R3.far (p:=⟨gi,4,none⟩) (Ne.symm hne) _,by omega,rfl,?_,?_,FB.setCell (p:=⟨gi,4,none⟩) (.inl (by simp)) _,fun h=>⟨h.kind,h.text,h.list,h.pairs,by simp;omega,h.texts,h.fields,?_⟩⟩
 ·have:=hW.set_ 4 (.slice (some ⟨g',0,none⟩) (x.scores.length+1) cap);rw[←hk] at this;exact this
 ·have:=z0c (p:=⟨gi,4,none⟩) (.slice (some ⟨g',0,none⟩) (x.scores.length+1) cap) how (z0g how hW (by decide));rw[zbh];simpa using this
 ·unfold many;simp;omega
 ·rw[hE];exact zpr (f2:=z28) (fun(a:Nat) b=>{ x with scores:=x.scores++[((a:Int) - 999999999,b)] }) h1 h2 (z8r h2)
 ·intro q hq;rcases List.mem_append.1 hq with hq|hq
  ·exact h.members q hq
  ·rw[List.mem_singleton.1 hq];exact⟨⟨by show -9223372036854775808≤(t:Int) - 999999999;omega,by show(t:Int) - 999999999≤9223372036854775807;omega⟩,hts2⟩
attribute [local go_sem ↓] Go.wp_at_zero Go.wp_at_succ
theorem zc2(gi g base:Nat)(x:Itm)(v1 v2 v3:Value)(s:ByteArray)(b:Bool)(w:World)(hG:Gr gi base x v1 v2 v3 w)(hR:Rd w g s b)(hs:s.size≤281474976710656)(hm:many x≤1000)(hB:base≤w.heap.size)(hgi:gi < base)(hg:g < base)
  (k4:x.kind=4):
  Calls prog 85 #[.pointer (some ⟨g,0,none⟩),.pointer (some ⟨gi,0,none⟩)] w (z9r gi g base x s b w):=by
 obtain⟨i0,hi,hz0,hz1,hz2⟩:=info_parts zej;have T:=hid (z7n g s b w hR hs);have c0:w.cell? ⟨gi,0,none⟩=some (.int .i64 4):=by rw[←k4];exact hG.whole.cell 0
 have hE:=(show z2u x s=(z28 s).bind fun p=>(z28 p.2).map fun q=>({ x with pairs:=x.pairs++[(p.1,q.1)] },q.2) by unfold z2u;rw[if_pos k4]);have HE:=hid hE;have HK:=hid k4;have HG:=hid hG;have HR:=hid hR;have hmm:x.pairs.length≤1000:=by unfold many at hm;omega
 clear hE hG hR k4;go_enter Tryz.func85,Tryz.ntmps85;go_wp2_with fail;refine T.out.mono ?_;rintro e w1 ⟨t,r,b1,rfl,hr1,f1,hread,hts,hrs⟩;have G1:=HG.out.read HR.out f1;have c2:w1.cell? ⟨gi,3,none⟩=some v2:=G1.whole.cell 3;have hsz:=f1.size;have T2:=hid (fun W (hW:Rd W g r b1)=>z7n g r b1 W hW (by omega));have HG1:=hid G1;have HR1:=hid hr1;have HRD:=hid hread;clear G1 hr1 hread c0;go_wp2_with fail
 go_region_law
  (first
    | (refine step_append_lies _ (by rfl) _ _ 43 (by rfl) base 108 i0 _ 2 32 Tryz.underlying43 hi hz0 hz1 hz2 rfl (by decide) v2 x.pairs.length (z0t x.pairs) (by rfl) (hown.alloc _) ⟨w2.heap.size,0,none⟩ 1 1 [.string t,.string t2] (by rfl) (by rfl) (World.news_of_block (cs:=#[.string t,.string t2]) (t:=108) (fr:=(0,0)) (heap_alloc_new _ _)) (by simp[Value.oneCell']) (by omega) (by unfold maxLen;omega) (by omega) (by simp;omega) (w2.heap.size+1) (by simp) ?_
       intro g' cap w3 hown' hgrow hat hlt;have W3:Whole w3 gi 46 [.int .i64 4,.string x.text,v1,v2,v3]:=(HK.out ▸ HG2.out.whole.alloc _).grown hgrow (fun e=>z0g hown HG2.out.whole (by decide) e.symm);have d3:w3.cell? ⟨gi,3,none⟩=some v2:=W3.cell 3;have z3:w3.frozen? ⟨gi,3,none⟩=false:=W3.frozen 3;have HW3:=hid W3;have HGR:=hid hgrow;have HOW:=hid hown';have HON:=hid hown;clear W3 hgrow hown' hown hat)
    | (go_simp
       go_at_call 111;refine(T2.out _ ?hr).mono ?_
       case hr=>exact HR1.out
       rintro e w2 ⟨t2,r2,b2,rfl,hr2,f2,hread2,hts2,hrs2⟩;have f3:Fr [g] w1 w2:=⟨f2.os,f2.tape,f2.output,f2.size,f2.block⟩;have hz3:=f3.size;have G2:=HG1.out.read HR1.out f3;have c3:w2.cell? ⟨gi,3,none⟩=some v2:=G2.whole.cell 3;have HG2:=hid G2;have HR2:=hid hr2;have HRD2:=hid hread2;have hown:=G2.o2;have c4:(w2.alloc (.cells #[.string t,.string t2] 108)).cell? ⟨gi,3,none⟩=some v2:=(G2.whole.alloc _).cell 3;clear G2 hr2 hread2 f2))
 all_goals
  go_wp2
  go_end0
  exact zm0 HG1.out HR1.out HG2.out HR2.out HK.out f1 f3 HE.out HRD.out HRD2.out hrs hrs2 hts hts2 hmm hB HON.out HOW.out HGR.out HW3.out
theorem zbz(gi g base:Nat)(x:Itm)(v1 v2 v3:Value)(s:ByteArray)(b:Bool)(w:World)(hG:Gr gi base x v1 v2 v3 w)(hR:Rd w g s b)(hs:s.size≤281474976710656)(hm:many x≤1000)(hB:base≤w.heap.size)(hgi:gi < base)(hg:g < base)
  (k4:x.kind=5):
  Calls prog 85 #[.pointer (some ⟨g,0,none⟩),.pointer (some ⟨gi,0,none⟩)] w (z9r gi g base x s b w):=by
 obtain⟨i0,hi,hz0,hz1,hz2⟩:=info_parts zbf;have T:=hid (zln g s b w hR hs);have c0:w.cell? ⟨gi,0,none⟩=some (.int .i64 5):=by rw[←k4];exact hG.whole.cell 0
 have hE:=(show z2u x s=(z87 s).bind fun p=>(z28 p.2).map fun q=>({ x with scores:=x.scores++[((p.1:Int) - 999999999,q.1)] },q.2) by unfold z2u;rw[if_neg (by omega),if_pos k4]);have HE:=hid hE;have HK:=hid k4;have HG:=hid hG;have HR:=hid hR;have hmm:x.scores.length≤1000:=by unfold many at hm;omega
 clear hE hG hR k4;go_enter Tryz.func85,Tryz.ntmps85;go_wp2_with fail;refine T.out.mono ?_;rintro e w1 ⟨t,r,b1,rfl,hr1,f1,hread,hts,hrs⟩;have G1:=HG.out.read HR.out f1;have c2:w1.cell? ⟨gi,4,none⟩=some v3:=G1.whole.cell 4;have hsz:=f1.size;have T2:=hid (fun W (hW:Rd W g r b1)=>z7n g r b1 W hW (by omega));have hw1:IntKind.i64.wrap ((t:Int) - 999999999)=(t:Int) - 999999999:=IntWalk.i64_in _ (by omega);have HG1:=hid G1;have HR1:=hid hr1;have HRD:=hid hread;clear G1 hr1 hread c0;go_wp2_with fail
 go_region_law
  (first
    | (refine step_append_lies _ (by rfl) _ _ 44 (by rfl) base 110 i0 _ 2 24 Tryz.underlying44 hi hz0 hz1 hz2 rfl (by decide) v3 x.scores.length (z0h x.scores) (by rfl) (hown.alloc _) ⟨w2.heap.size,0,none⟩ 1 1 [.int .i64 ((t:Int) - 999999999),.string t2] (by rfl) (by rfl) (World.news_of_block (cs:=#[.int .i64 ((t:Int) - 999999999),.string t2]) (t:=110) (fr:=(0,0)) (heap_alloc_new _ _)) (by simp[Value.oneCell']) (by omega) (by unfold maxLen;omega) (by omega) (by simp;omega) (w2.heap.size+1) (by simp) ?_
       intro g' cap w3 hown' hgrow hat hlt;have W3:Whole w3 gi 46 [.int .i64 5,.string x.text,v1,v2,v3]:=(HK.out ▸ HG2.out.whole.alloc _).grown hgrow (fun e=>z0g hown HG2.out.whole (by decide) e.symm);have d3:w3.cell? ⟨gi,4,none⟩=some v3:=W3.cell 4;have z3:w3.frozen? ⟨gi,4,none⟩=false:=W3.frozen 4;have HW3:=hid W3;have HGR:=hid hgrow;have HOW:=hid hown';have HON:=hid hown;clear W3 hgrow hown' hown hat)
    | (go_simp
       go_at_call 111;refine(T2.out _ ?hr).mono ?_
       case hr=>exact HR1.out
       rintro e w2 ⟨t2,r2,b2,rfl,hr2,f2,hread2,hts2,hrs2⟩;have f3:Fr [g] w1 w2:=⟨f2.os,f2.tape,f2.output,f2.size,f2.block⟩;have hz3:=f3.size;have G2:=HG1.out.read HR1.out f3;have c3:w2.cell? ⟨gi,4,none⟩=some v3:=G2.whole.cell 4;have HG2:=hid G2;have HR2:=hid hr2;have HRD2:=hid hread2;have hown:=G2.o3;have c4:(w2.alloc (.cells #[.int .i64 ((t:Int) - 999999999),.string t2] 110)).cell? ⟨gi,4,none⟩=some v3:=(G2.whole.alloc _).cell 4;clear G2 hr2 hread2 f2))
 all_goals
  go_wp2
  go_end0
  exact zkn HG1.out HR1.out HG2.out HR2.out HK.out f1 f3 HE.out HRD.out HRD2.out hrs hrs2 hts hts2 hmm hB HON.out HOW.out HGR.out HW3.out
theorem z1v{α:Type}{o:Option (α×ByteArray)}{v:α}{r:ByteArray}(h:z3i o v r false false):o=some (v,r):=by
 cases o with
 | none=>cases h
 | some p=>obtain⟨rfl,rfl,_⟩:=h;rfl
theorem z6z{α:Type}{o:Option (α×ByteArray)}{v:α}{r:ByteArray}(h:z3i o v r false true):o=none:=by
 cases o with
 | none=>rfl
 | some p=>obtain⟨_,_,h⟩:=h;cases h
def zg0(j m:Nat)(x' x0:Itm)(s' r:ByteArray)(b2 b':Bool):Prop:=
 (b'=false→b2=false∧z1e j x' s'=z1e m x0 r)∧(b'=true→b2=true∨z1e m x0 r=none)
theorem zdz(m:Nat)(x0:Itm)(r:ByteArray)(b2:Bool):zg0 m m x0 x0 r r b2 b2:=⟨fun h=>⟨h,rfl⟩,fun h=>.inl h⟩
theorem zgx{j m:Nat}{x' x'' x0:Itm}{s' s'' r:ByteArray}{b2 b'':Bool}(h:zg0 (j+1) m x' x0 s' r b2 false)(hr:z3i (z2u x' s') x'' s'' false b''):zg0 j m x'' x0 s'' r b2 b'':=by
 obtain⟨h1,h2⟩:=h.1 rfl;cases b'' with
 | false=>
  have:=z1v hr;refine⟨fun _=>⟨h1,?_⟩,fun h=>?_⟩
  ·rw[←h2,z1e,this,Option.bind_some]
  ·cases h
 | true=>
  have:=z6z hr;refine⟨fun h=>?_,fun _=>.inr ?_⟩
  ·cases h
  ·rw[←h2,z1e,this,Option.bind_none]
theorem z8k{s r:ByteArray}{n:Nat}(h:z3i (z84 s) n r false true):z22 s=none:=by
 unfold z22;rw[z6z h];rfl
theorem zkd{s r:ByteArray}{n:Nat}(h:z3i (z84 s) n r false false)(hn:n=1):z22 s=some { z2l n with text:=r }:=by
 subst hn;unfold z22;rw[z1v h];rfl
theorem zjs{s r:ByteArray}{n:Nat}{b:Bool}(h:z3i (z84 s) n r false b)(h1:n≠1)(h2:¬(2≤n∧n≤5)):z22 s=none:=by
 cases b with
 | true=>exact z8k h
 | false=>unfold z22;rw[z1v h,Option.bind_some,if_neg h1,if_neg h2]
theorem zjo{s r r2 s':ByteArray}{n m j:Nat}{b1 b2:Bool}{x':Itm}(h:z3i (z84 s) n r false b1)(hn:2≤n∧n≤5)(h2:z3i (z84 r) m r2 b1 b2)(hl:zg0 j m x' (z2l n) s' r2 b2 true):z22 s=none:=by
 cases b1 with
 | true=>exact z8k h
 | false=>
  unfold z22;rw[z1v h,Option.bind_some,if_neg (by omega),if_pos hn];cases b2 with
  | true=>rw[z6z h2];rfl
  | false=>
   rw[z1v h2,Option.bind_some];rcases hl.2 rfl with h3|h3
   ·cases h3
   ·rw[h3];rfl
theorem zik{s r r2 s':ByteArray}{n m:Nat}{b1 b2:Bool}{x':Itm}(h:z3i (z84 s) n r false b1)(hn:2≤n∧n≤5)(h2:z3i (z84 r) m r2 b1 b2)(hl:zg0 0 m x' (z2l n) s' r2 b2 false):
  z22 s=if s'.size=0 then some x' else none:=by
 obtain⟨h3,h4⟩:=hl.1 rfl;subst h3
 have hb1:b1=false:=by
  cases b1 with
  | false=>rfl
  | true=>have:=z8r h2 rfl;cases this
 subst hb1;unfold z22;rw[z1v h,Option.bind_some,if_neg (by omega),if_pos hn,z1v h2,Option.bind_some,←h4];rfl
theorem zeq{s:ByteArray}(h:z22 s=none):z0u s=1∧z06 s=z2l 0:=by unfold z0u z06;rw[h];exact⟨rfl,rfl⟩
theorem zix{s:ByteArray}{x:Itm}(h:z22 s=some x)(hc:z08 x≠0):z0u s=z08 x∧z06 s=z2l 0:=by unfold z0u z06;rw[h];exact⟨rfl,if_neg hc⟩
theorem zer{s:ByteArray}{x:Itm}(h:z22 s=some x)(hc:z08 x=0):z0u s=0∧z06 s=x:=by unfold z0u z06;rw[h];exact⟨hc,if_pos hc⟩
theorem zd1(r:ByteArray):r.extract 0 r.size=r:=by simp
theorem zc1(r:ByteArray):r.extract r.size r.size=⟨#[]⟩:=by
 apply zkf;simp
def zdw(s:ByteArray)(w:World)(e:Ending)(w':World):Prop:=∃v,e=.returned (.tuple #[v,.int .i64 (z0u s)])∧z0l w' w.heap.size v (z06 s)∧Fr [] w w'
structure z2q(w:World)(gi:Nat)(x:Itm)(v1 v2 v3:Value)(s:ByteArray)(b:Bool)(wr:World):Prop where
 out:Whole wr w.heap.size 46 [.int .i64 0,.string ⟨#[]⟩,.slice none 0 0,.slice none 0 0,.slice none 0 0]
 rd:Rd wr (w.heap.size+1) s b
 gr:Gr gi (gi+1) x v1 v2 v3 wr
 le:w.heap.size+1 < gi
 lt:gi < wr.heap.size
 fr:Fr [] w wr
 small:x.Small
theorem z2q.read{w:World}{gi:Nat}{x:Itm}{v1 v2 v3:Value}{s s':ByteArray}{b b':Bool}{wr w1:World}(h:z2q w gi x v1 v2 v3 s b wr)(hr:Rd w1 (w.heap.size+1) s' b')(hf:Fr [w.heap.size+1] wr w1):z2q w gi x v1 v2 v3 s' b' w1:=
 ⟨h.out.fr hf (by simp),hr,h.gr.read h.rd hf,h.le,Nat.lt_of_lt_of_le h.lt hf.size,h.fr.step hf (by intro k hk;simp at hk;subst hk;exact .inr (by omega)),h.small⟩
theorem z2q.el{w:World}{gi:Nat}{x x':Itm}{v1 v2 v3 v1' v2' v3':Value}{s s':ByteArray}{b b':Bool}{wr w1:World}(h:z2q w gi x v1 v2 v3 s b wr)(hg:Gr gi (gi+1) x' v1' v2' v3' w1)(hr:Rd w1 (w.heap.size+1) s' b')
  (hf:FrB [w.heap.size+1,gi] (gi+1) wr w1) (hs:x'.Small):z2q w gi x' v1' v2' v3' s' b' w1:=by
 have hle:=h.le;refine⟨hf.whole h.out (by omega) (by simp;omega),hr,hg,h.le,Nat.lt_of_lt_of_le h.lt hf.size,?_,hs⟩;have hz:=h.fr.size;have:=hf.belowOf (D:=w.heap.size) hz (by omega) (by intro k hk;simp at hk;rcases hk with rfl|rfl <;> omega)
 exact⟨this.os.trans h.fr.os,this.tape.trans h.fr.tape,this.output.trans h.fr.output,Nat.le_trans hz this.size,fun k hk _=>(this.block k hk).trans (h.fr.block k hk (by simp))⟩
theorem z2q.val{w:World}{gi:Nat}{x:Itm}{v1 v2 v3:Value}{s:ByteArray}{b:Bool}{wr:World}(h:z2q w gi x v1 v2 v3 s b wr):z0l wr (gi+1) (.agg #[.int .i64 x.kind,.string x.text,v1,v2,v3]) x:=
 ⟨_,_,_,rfl,h.gr.o1,h.gr.o2,h.gr.o3⟩
theorem z2q.text{w:World}{gi:Nat}{x:Itm}{v1 v2 v3:Value}{s:ByteArray}{b:Bool}{wr:World}(h:z2q w gi x v1 v2 v3 s b wr)(t:ByteArray)(ht:t.size≤281474976710656):
  z2q w gi { x with text:=t } v1 v2 v3 s b (wr.setCell ⟨gi,1,none⟩ (.string t)):=by
 have hle:=h.le
 exact⟨h.out.far (p:=⟨gi,1,none⟩) (by show w.heap.size≠gi;omega) _,Whole.far h.rd (p:=⟨gi,1,none⟩) (by show w.heap.size+1≠gi;omega) _,
  ⟨h.gr.whole.set_ 1 _,z0c _ h.gr.o1 (z0g h.gr.o1 h.gr.whole (by decide)),z0c _ h.gr.o2 (z0g h.gr.o2 h.gr.whole (by decide)),z0c _ h.gr.o3 (z0g h.gr.o3 h.gr.whole (by decide))⟩,
  h.le,by simpa[World.setCell] using h.lt,h.fr.setCell (p:=⟨gi,1,none⟩) (.inr (by show w.heap.size≤gi;omega)) _,⟨h.small.kind,ht,h.small.list,h.small.pairs,h.small.scores,h.small.texts,h.small.fields,h.small.members⟩⟩
theorem zd6(gi g base:Nat)(x:Itm)(v1 v2 v3:Value)(s:ByteArray)(b:Bool)(w:World)(hG:Gr gi base x v1 v2 v3 w)(hR:Rd w g s b)(hs:s.size≤281474976710656)(hm:many x≤1000)(hB:base≤w.heap.size)(hgi:gi < base)(hg:g < base):
  Calls prog 85 #[.pointer (some ⟨g,0,none⟩),.pointer (some ⟨gi,0,none⟩)] w (z9r gi g base x s b w):=by
 by_cases k4:x.kind=4
 ·exact zc2 gi g base x v1 v2 v3 s b w hG hR hs hm hB hgi hg k4
 ·by_cases k5:x.kind=5
  ·exact zbz gi g base x v1 v2 v3 s b w hG hR hs hm hB hgi hg k5
  ·exact zcb gi g base x v1 v2 v3 s b w hG hR hs hm hB hgi hg k4 k5
def Num1(g:Nat)(s:ByteArray)(b:Bool)(w:World)(e:Ending)(w':World):Prop:=
 ∃(n:Nat) (r:ByteArray) (b':Bool),e=.returned (.int .i64 n)∧Rd w' g r b'∧Fr [g] w w'∧z3i (z84 s) n r b b'∧n < 256∧r.size≤s.size
theorem zc9(g:Nat)(s:ByteArray)(b:Bool)(w:World)(h:Rd w g s b)(hs:s.size≤281474976710656):
  Calls prog 82 #[.pointer (some ⟨g,0,none⟩),.int .i64 1] w (Num1 g s b w):=by
 by_cases h1:s.size < 1
 ·refine(ze2 g s b w h hs h1).mono ?_;rintro e w' ⟨rfl,hr,hf⟩;refine⟨0,_,true,rfl,hr,hf,?_,by omega,Nat.zero_le _⟩;unfold z84;rw[if_pos h1];exact rfl
 ·refine(z7p g s b w h hs h1).mono ?_;rintro e w' ⟨rfl,hr,hf⟩;refine⟨_,_,b,rfl,hr,hf,?_,z1r s 0,by simp⟩;unfold z84;rw[if_neg h1];exact⟨rfl,rfl,rfl⟩
theorem z2q.fr0{w:World}{gi:Nat}{x:Itm}{v1 v2 v3:Value}{s:ByteArray}{b:Bool}{wr w1:World}(h:z2q w gi x v1 v2 v3 s b wr)(hf:Fr [] wr w1):z2q w gi x v1 v2 v3 s b w1:=
 h.read (Whole.fr h.rd hf (by simp)) hf.up
theorem z2q.short{w:World}{gi:Nat}{x:Itm}{v1 v2 v3:Value}{s:ByteArray}{b:Bool}{wr:World}(h:z2q w gi x v1 v2 v3 s b wr):z2q w gi x v1 v2 v3 s true (wr.setCell ⟨w.heap.size+1,1,none⟩ (.bool true)):=
 h.read (Whole.set_ h.rd 1 _) ((Fr.refl _ _).setCell (p:=⟨w.heap.size+1,1,none⟩) (.inl (by simp)) _)
theorem z2q.end5{w:World}{gi:Nat}{x:Itm}{v1 v2 v3:Value}{s:ByteArray}{b0:Bool}{wr:World}(h:z2q w gi x v1 v2 v3 s b0 wr)(a b c d e:Value):Fr [] w (set5 wr w.heap.size a b c d e):=
 ((((h.fr.setCell (p:=⟨w.heap.size,0,none⟩) (.inr (Nat.le_refl _)) _).setCell (p:=⟨w.heap.size,1,none⟩) (.inr (Nat.le_refl _)) _).setCell (p:=⟨w.heap.size,2,none⟩) (.inr (Nat.le_refl _)) _).setCell (p:=⟨w.heap.size,3,none⟩) (.inr (Nat.le_refl _)) _).setCell (p:=⟨w.heap.size,4,none⟩) (.inr (Nat.le_refl _)) _
theorem z2q.val5{w:World}{gi:Nat}{x:Itm}{v1 v2 v3:Value}{s:ByteArray}{b0:Bool}{wr:World}(h:z2q w gi x v1 v2 v3 s b0 wr)(a b c d e:Value):z0l (set5 wr w.heap.size a b c d e) w.heap.size (.agg #[.int .i64 x.kind,.string x.text,v1,v2,v3]) x:=
 (h.val.set5 h.out _ _ _ _ _).base (by have:=h.le;omega)
theorem z9j(s:ByteArray)(w:World)(hs:s.size≤281474976710656):Calls prog 54 #[.string s] w (zdw s w):=by
 have r0:Rd ((w.alloc (.cells #[.int .i64 0,.string ⟨#[]⟩,.slice none 0 0,.slice none 0 0,.slice none 0 0] 46)).alloc (.cells #[.string s,.bool false] 150)) (w.heap.size+1) s false:=by
  have:=Whole.new (w.alloc (.cells #[.int .i64 0,.string ⟨#[]⟩,.slice none 0 0,.slice none 0 0,.slice none 0 0] 46)) 150 [.string s,.bool false];simpa[Rd] using this
 have N1:=hid (zc9 (w.heap.size+1) s false _ r0 hs);go_enter Tryz.func54,Tryz.ntmps54;go_wp2_with fail;refine N1.out.mono ?_;rintro e w1 ⟨n,r,b1,rfl,hr1,f1,hread1,hn,hrs⟩
 have d0:z2q w w1.heap.size (z2l n) (.slice none 0 0) (.slice none 0 0) (.slice none 0 0) r b1 (w1.alloc (.cells #[.int .i64 n,.string ⟨#[]⟩,.slice none 0 0,.slice none 0 0,.slice none 0 0] 46)):=by
  have hz:=f1.size;simp at hz;refine⟨((Whole.new w _ _).alloc _ |>.fr f1 (by simp)).alloc _,Whole.alloc hr1 _,⟨Whole.new w1 _ _,World.ownsRow_nil _ _ _ _,⟨rfl,.inl ⟨rfl,rfl⟩⟩,⟨rfl,.inl ⟨rfl,rfl⟩⟩⟩,by omega,by simp,?_,z3v n (by omega)⟩
  exact((((Fr.refl [] w).alloc _).alloc _).step f1 (by intro k hk;simp at hk;subst hk;exact .inr (by omega))).alloc _
 have HR:=hid hread1;have D0:=hid d0;have x0:World.cell? _ ⟨w1.heap.size,0,none⟩=some (Value.int .i64 (n:Int)):=d0.gr.whole.cell 0;have e0:=Whole.cell d0.rd 0;have e1:=Whole.cell d0.rd 1;clear d0 hread1 hr1 f1 N1 r0;by_cases n1:n=1
 ·have q1:((n:Int)==1)=true:=by simp[n1]
  have HN1:=hid n1;clear n1;have T:=hid (fun W (hW:Rd W (w.heap.size+1) r b1)=>z7r (w.heap.size+1) r.size r b1 W hW (by omega) (by omega));rw[zd1,zc1] at T;go_wp2_with fail;refine(T.out _ D0.out.rd).mono ?_;rintro e w2 ⟨rfl,hr2,f2⟩;have d2:=D0.out.read hr2 f2;have y1:World.cell? _ ⟨w1.heap.size,1,none⟩=some (Value.string ⟨#[]⟩):=d2.gr.whole.cell 1;have z1:=d2.gr.whole.frozen 1;have D2:=hid (d2.text r (by omega));clear d2 hr2 f2 x0 e0 e1;cases b1
  ·have HDEC:=hid (zkd HR.out HN1.out);obtain⟨a0,a1,a2,a3,a4⟩:=five D2.out.out;obtain⟨b0,b2,b3,b4,b5⟩:=z23 D2.out.out;have e0:=Whole.cell D2.out.rd 0;have e1:=Whole.cell D2.out.rd 1;have x0:World.cell? _ ⟨w1.heap.size,0,none⟩=some (Value.int .i64 (n:Int)):=D2.out.gr.whole.cell 0;have x1:World.cell? _ ⟨w1.heap.size,1,none⟩=some (Value.string r):=D2.out.gr.whole.cell 1;have x2:World.cell? _ ⟨w1.heap.size,2,none⟩=some (.slice none 0 0:Value):=D2.out.gr.whole.cell 2;have x3:World.cell? _ ⟨w1.heap.size,3,none⟩=some (.slice none 0 0:Value):=D2.out.gr.whole.cell 3;have x4:World.cell? _ ⟨w1.heap.size,4,none⟩=some (.slice none 0 0:Value):=D2.out.gr.whole.cell 4;have C:=hid (fun W (hD:z2q w w1.heap.size { z2l n with text:=r } (.slice none 0 0) (.slice none 0 0) (.slice none 0 0) ⟨#[]⟩ false W)=>z30 { z2l n with text:=r } (.agg #[.int .i64 (n:Int),.string r,.slice none 0 0,.slice none 0 0,.slice none 0 0]) W W.heap.size hD.small (Nat.le_refl _) hD.val.item);have HC2:=hid (fun hc=>zix HDEC.out hc);have HC3:=hid (fun hc=>zer HDEC.out hc);generalize z08 { z2l n with text:=r }=c at *;by_cases hc:c=0
   ·subst hc;have N:=hid (HC3.out rfl);go_wp2_with fail;refine(C.out _ D2.out).mono ?_;rintro e w9 ⟨rfl,f9⟩;have D9:=hid (D2.out.fr0 f9);clear a0 a1 a2 a3 a4 b0 b2 b3 b4 b5 e0 e1 x0 x1 x2 x3 x4;obtain⟨a0,a1,a2,a3,a4⟩:=five D9.out.out;obtain⟨b0,b2,b3,b4,b5⟩:=z23 D9.out.out;have e0:=Whole.cell D9.out.rd 0;have e1:=Whole.cell D9.out.rd 1;have x0:World.cell? _ ⟨w1.heap.size,0,none⟩=some (.int .i64 (n:Int):Value):=D9.out.gr.whole.cell 0;have x1:World.cell? _ ⟨w1.heap.size,1,none⟩=some (.string r:Value):=D9.out.gr.whole.cell 1;have x2:World.cell? _ ⟨w1.heap.size,2,none⟩=some (.slice none 0 0:Value):=D9.out.gr.whole.cell 2;have x3:World.cell? _ ⟨w1.heap.size,3,none⟩=some (.slice none 0 0:Value):=D9.out.gr.whole.cell 3;have x4:World.cell? _ ⟨w1.heap.size,4,none⟩=some (.slice none 0 0:Value):=D9.out.gr.whole.cell 4;go_wp2;refine bodyPost_ret (v:=.tuple #[.agg #[.int .i64 (n:Int),.string r,.slice none 0 0,.slice none 0 0,.slice none 0 0],.int .i64 0]) (by simp[results,Tryz.results54,go_sem,a0,a1,a2,a3,a4]) rfl ?_;refine⟨_,by rw[N.out.1],by rw[N.out.2];exact D9.out.val5 _ _ _ _ _,D9.out.end5 _ _ _ _ _⟩
   ·have q:(c != 0)=true:=by simpa using hc
    have N:=hid (HC2.out hc);clear hc;go_wp2_with fail;refine(C.out _ D2.out).mono ?_;rintro e w9 ⟨rfl,f9⟩;have D9:=hid (D2.out.fr0 f9);clear a0 a1 a2 a3 a4 b0 b2 b3 b4 b5 e0 e1 x0 x1 x2 x3 x4;obtain⟨a0,a1,a2,a3,a4⟩:=five D9.out.out;obtain⟨b0,b2,b3,b4,b5⟩:=z23 D9.out.out;have e0:=Whole.cell D9.out.rd 0;have e1:=Whole.cell D9.out.rd 1;go_wp2;refine bodyPost_ret (v:=.tuple #[.agg #[.int .i64 0,.string ⟨#[]⟩,.slice none 0 0,.slice none 0 0,.slice none 0 0],.int .i64 c]) (by simp[results,Tryz.results54,go_sem,a0,a1,a2,a3,a4]) rfl ?_;refine⟨_,by rw[N.out.1],by rw[N.out.2];exact z0l.nothing _ _,D9.out.end5 _ _ _ _ _⟩
  ·have N:=hid (zeq (z8k HR.out));obtain⟨a0,a1,a2,a3,a4⟩:=five D2.out.out;obtain⟨b0,b2,b3,b4,b5⟩:=z23 D2.out.out;have e0:=Whole.cell D2.out.rd 0;have e1:=Whole.cell D2.out.rd 1;go_wp2;refine bodyPost_ret (v:=.tuple #[.agg #[.int .i64 0,.string ⟨#[]⟩,.slice none 0 0,.slice none 0 0,.slice none 0 0],.int .i64 1]) (by simp[results,Tryz.results54,go_sem,a0,a1,a2,a3,a4]) rfl ?_;refine⟨_,by rw[N.out.1],by rw[N.out.2];exact z0l.nothing _ _,D2.out.end5 _ _ _ _ _⟩
 have q1:((n:Int)==1)=false:=by simp;omega
 have I:=hid (fun W=>z6y (n:Int) 2 5 W);by_cases n2:2≤n∧n≤5
 ·rw[show(decide (2≤(n:Int))&&decide ((n:Int)≤5))=true by simp;omega] at I;have HN2:=hid n2;clear n1 n2;have N2:=hid (fun W (hW:Rd W (w.heap.size+1) r b1)=>zc9 (w.heap.size+1) r b1 W hW (by omega));go_wp2_with fail;refine(I.out _).mono ?_;rintro e w2 ⟨rfl,rfl⟩;go_wp2_with fail;refine(N2.out _ D0.out.rd).mono ?_;rintro e w2 ⟨m,r2,b2,rfl,hr2,f2,hread2,hm,hrs2⟩;have D2:=hid (D0.out.read hr2 f2);have HR2:=hid hread2;clear hr2 f2 x0 e0 e1 hread2;go_wp2;go_loopg [6] (2 * m) (fun gh i wr=>∃(j:Nat) (x:Itm) (v1 v2 v3:Value) (s':ByteArray) (b':Bool),gh=2 * j∧i=.int .i64 j∧x.kind=n∧many x+j≤255∧s'.size≤281474976710656∧zg0 j m x (z2l n) s' r2 b2 b'∧z2q w w1.heap.size x v1 v2 v3 s' b' wr)
  case atStart=>exact⟨m,z2l n,_,_,_,r2,b2,rfl,rfl,rfl,by show 0+0+0+m≤255;omega,by omega,zdz _ _ _ _,D2.out⟩
  clear D2
  case round=>
  obtain⟨j,x,v1,v2,v3,s',b',rfl,rfl,hxk,hmj,hss,hloop,hD⟩:=hrel;have HL:=hid hloop;have D3:=hid hD;have HXK:=hid hxk;clear hloop hD hxk;have e0:=Whole.cell D3.out.rd 0;have e1:=Whole.cell D3.out.rd 1;cases b'
  ·rcases j with _|j
   ·clear e0 e1;by_cases hz:s'.size=0
    ·obtain rfl:=zkf hz;have HDEC:=hid ((zik HR.out HN2.out HR2.out HL.out).trans (if_pos rfl));clear hz;obtain⟨A1,c1,rfl⟩:=z3m (z0o D3.out.gr.o1);obtain⟨A2,c2,rfl⟩:=z3m (z0o D3.out.gr.o2);obtain⟨A3,c3,rfl⟩:=z3m (z0o D3.out.gr.o3);obtain⟨a0,a1,a2,a3,a4⟩:=five D3.out.out;obtain⟨b0,b2,b3,b4,b5⟩:=z23 D3.out.out;have e0:=Whole.cell D3.out.rd 0;have e1:=Whole.cell D3.out.rd 1;have x0:World.cell? _ ⟨w1.heap.size,0,none⟩=some (Value.int .i64 x.kind):=D3.out.gr.whole.cell 0;have x1:World.cell? _ ⟨w1.heap.size,1,none⟩=some (Value.string x.text):=D3.out.gr.whole.cell 1;have x2:World.cell? _ ⟨w1.heap.size,2,none⟩=some (.slice A1 x.list.length c1:Value):=D3.out.gr.whole.cell 2;have x3:World.cell? _ ⟨w1.heap.size,3,none⟩=some (.slice A2 x.pairs.length c2:Value):=D3.out.gr.whole.cell 3;have x4:World.cell? _ ⟨w1.heap.size,4,none⟩=some (.slice A3 x.scores.length c3:Value):=D3.out.gr.whole.cell 4;have C:=hid (fun W (hD:z2q w w1.heap.size x (.slice A1 x.list.length c1) (.slice A2 x.pairs.length c2) (.slice A3 x.scores.length c3) ⟨#[]⟩ false W)=>z30 x (.agg #[.int .i64 x.kind,.string x.text,.slice A1 x.list.length c1,.slice A2 x.pairs.length c2,.slice A3 x.scores.length c3]) W W.heap.size hD.small (Nat.le_refl _) hD.val.item);have HC2:=hid (fun hc=>zix HDEC.out hc);have HC3:=hid (fun hc=>zer HDEC.out hc);generalize z08 x=c at *;by_cases hc:c=0
     ·subst hc;have N:=hid (HC3.out rfl);go_wp2_with fail;refine(C.out _ D3.out).mono ?_;rintro e w9 ⟨rfl,f9⟩;have D9:=hid (D3.out.fr0 f9);clear a0 a1 a2 a3 a4 b0 b2 b3 b4 b5 e0 e1 x0 x1 x2 x3 x4;obtain⟨a0,a1,a2,a3,a4⟩:=five D9.out.out;obtain⟨b0,b2,b3,b4,b5⟩:=z23 D9.out.out;have e0:=Whole.cell D9.out.rd 0;have e1:=Whole.cell D9.out.rd 1;have x0:World.cell? _ ⟨w1.heap.size,0,none⟩=some (.int .i64 x.kind:Value):=D9.out.gr.whole.cell 0;have x1:World.cell? _ ⟨w1.heap.size,1,none⟩=some (.string x.text:Value):=D9.out.gr.whole.cell 1;have x2:World.cell? _ ⟨w1.heap.size,2,none⟩=some (.slice A1 x.list.length c1:Value):=D9.out.gr.whole.cell 2;have x3:World.cell? _ ⟨w1.heap.size,3,none⟩=some (.slice A2 x.pairs.length c2:Value):=D9.out.gr.whole.cell 3;have x4:World.cell? _ ⟨w1.heap.size,4,none⟩=some (.slice A3 x.scores.length c3:Value):=D9.out.gr.whole.cell 4;go_wp2;refine bodyPost_ret (v:=.tuple #[.agg #[.int .i64 x.kind,.string x.text,.slice A1 x.list.length c1,.slice A2 x.pairs.length c2,.slice A3 x.scores.length c3],.int .i64 0]) (by simp[results,Tryz.results54,go_sem,a0,a1,a2,a3,a4]) rfl ?_;refine⟨_,by rw[N.out.1],by rw[N.out.2];exact D9.out.val5 _ _ _ _ _,D9.out.end5 _ _ _ _ _⟩
     ·have q:(c != 0)=true:=by simpa using hc
      have N:=hid (HC2.out hc);clear hc;go_wp2_with fail;refine(C.out _ D3.out).mono ?_;rintro e w9 ⟨rfl,f9⟩;have D9:=hid (D3.out.fr0 f9);clear a0 a1 a2 a3 a4 b0 b2 b3 b4 b5 e0 e1 x0 x1 x2 x3 x4;obtain⟨a0,a1,a2,a3,a4⟩:=five D9.out.out;obtain⟨b0,b2,b3,b4,b5⟩:=z23 D9.out.out;have e0:=Whole.cell D9.out.rd 0;have e1:=Whole.cell D9.out.rd 1;go_wp2;refine bodyPost_ret (v:=.tuple #[.agg #[.int .i64 0,.string ⟨#[]⟩,.slice none 0 0,.slice none 0 0,.slice none 0 0],.int .i64 c]) (by simp[results,Tryz.results54,go_sem,a0,a1,a2,a3,a4]) rfl ?_;refine⟨_,by rw[N.out.1],by rw[N.out.2];exact z0l.nothing _ _,D9.out.end5 _ _ _ _ _⟩
    ·obtain⟨yT1,yT2⟩:=neNil hz;have N:=hid (zeq ((zik HR.out HN2.out HR2.out HL.out).trans (if_neg hz)));clear hz;obtain⟨a0,a1,a2,a3,a4⟩:=five D3.out.out;obtain⟨b0,b2,b3,b4,b5⟩:=z23 D3.out.out;have e0:=Whole.cell D3.out.rd 0;have e1:=Whole.cell D3.out.rd 1;go_wp2;refine bodyPost_ret (v:=.tuple #[.agg #[.int .i64 0,.string ⟨#[]⟩,.slice none 0 0,.slice none 0 0,.slice none 0 0],.int .i64 1]) (by simp[results,Tryz.results54,go_sem,a0,a1,a2,a3,a4]) rfl ?_;refine⟨_,by rw[N.out.1],by rw[N.out.2];exact z0l.nothing _ _,D3.out.end5 _ _ _ _ _⟩
   ·skip;have hj:0 < ((j+1:Nat):Int):=by omega
    have hgt:=D3.out.lt;have E:=hid (fun W (hD:z2q w w1.heap.size x v1 v2 v3 s' false W)=>zd6 w1.heap.size (w.heap.size+1) (w1.heap.size+1) x v1 v2 v3 s' false W hD.gr hD.rd hss (by omega) hD.lt (by omega) (by have:=hD.le;omega));go_wp2_with fail;refine(E.out _ D3.out).mono ?_;rintro e w4 ⟨x',v1',v2',v3',s'',b'',rfl,hG,hRd,hsz,hk',hm',hread,hfb,hsm⟩;have D4:=hid (D3.out.el hG hRd hfb (hsm D3.out.small));have HL2:=hid (zgx HL.out hread);have HK2:=hid (hk'.trans HXK.out);clear hG hRd hread hfb hsm e0 e1 hk';go_wp2;go_roundg (2 * j)
    case measure=>omega
    case rel=>exact⟨j,x',v1',v2',v3',s'',b'',rfl,by simp,HK2.out,by omega,by omega,HL2.out,D4.out⟩
  ·have N:=hid (zeq (zjo HR.out HN2.out HR2.out HL.out));clear e0 e1;by_cases hj0:0 < j
   ·skip;obtain⟨a0,a1,a2,a3,a4⟩:=five D3.out.out;obtain⟨b0,b2,b3,b4,b5⟩:=z23 D3.out.out;have e0:=Whole.cell D3.out.rd 0;have e1:=Whole.cell D3.out.rd 1;go_wp2;refine bodyPost_ret (v:=.tuple #[.agg #[.int .i64 0,.string ⟨#[]⟩,.slice none 0 0,.slice none 0 0,.slice none 0 0],.int .i64 1]) (by simp[results,Tryz.results54,go_sem,a0,a1,a2,a3,a4]) rfl ?_;refine⟨_,by rw[N.out.1],by rw[N.out.2];exact z0l.nothing _ _,D3.out.end5 _ _ _ _ _⟩
   ·skip;obtain⟨a0,a1,a2,a3,a4⟩:=five D3.out.out;obtain⟨b0,b2,b3,b4,b5⟩:=z23 D3.out.out;have e0:=Whole.cell D3.out.rd 0;have e1:=Whole.cell D3.out.rd 1;go_wp2;refine bodyPost_ret (v:=.tuple #[.agg #[.int .i64 0,.string ⟨#[]⟩,.slice none 0 0,.slice none 0 0,.slice none 0 0],.int .i64 1]) (by simp[results,Tryz.results54,go_sem,a0,a1,a2,a3,a4]) rfl ?_;refine⟨_,by rw[N.out.1],by rw[N.out.2];exact z0l.nothing _ _,D3.out.end5 _ _ _ _ _⟩
 ·rw[show(decide (2≤(n:Int))&&decide ((n:Int)≤5))=false by simp;omega] at I;have N:=hid (zeq (zjs HR.out n1 n2));clear n1 n2;have z1:=Whole.frozen D0.out.rd 1;go_wp2_with fail;refine(I.out _).mono ?_;rintro e w2 ⟨rfl,rfl⟩;have D2:=hid D0.out.short;clear x0 e1;obtain⟨y0,y1,y2,y3,y4⟩:=five D0.out.out;obtain⟨k0,k2,k3,k4,k5⟩:=z23 D0.out.out;have ee:=Whole.cell D0.out.rd 1;obtain⟨a0,a1,a2,a3,a4⟩:=five D2.out.out;obtain⟨b0,b2,b3,b4,b5⟩:=z23 D2.out.out;have e0:=Whole.cell D2.out.rd 0;have e1:=Whole.cell D2.out.rd 1;go_wp2;refine bodyPost_ret (v:=.tuple #[.agg #[.int .i64 0,.string ⟨#[]⟩,.slice none 0 0,.slice none 0 0,.slice none 0 0],.int .i64 1]) (by simp[results,Tryz.results54,go_sem,a0,a1,a2,a3,a4]) rfl ?_;refine⟨_,by rw[N.out.1],by rw[N.out.2];exact z0l.nothing _ _,D2.out.end5 _ _ _ _ _⟩
end Go.Proofs.YtmkhmejempcimaaGreatDoor
