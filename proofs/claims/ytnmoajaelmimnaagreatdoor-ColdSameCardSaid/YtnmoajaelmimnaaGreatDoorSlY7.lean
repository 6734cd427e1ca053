/- Contracts; no condition but each theorem's own. -/
import Derived.Test.YtnmoajaelmimnaaGreatDoorSlY4
set_option linter.unusedVariables false
set_option linter.unusedSimpArgs false
set_option maxHeartbeats 8000000
set_option maxRecDepth 100000
namespace Go.Proofs.YtnmoajaelmimnaaGreatDoor
open Go.Proofs.Tryz
section
open Go.RowKit
def Rd(w:World)(g:Nat)(s:YY)(b:Bool):Prop:=Whole w g 209 [.string s,.bool b]
theorem zx3(g n:Nat)(s)(b:Bool)(w)(h:Rd w g s b)(hs:s.size≤281474976710656)(hn:s.size < n)(hn2:n≤281474976710656):
  Calls prog 179 #[.pointer (some ⟨g,0,none⟩),.int .i64 n] w fun e w'=>e=.returned (.string ByteArray.empty)∧Rd w' g ByteArray.empty true∧Fr [g] w w':=by
 have a:w.cell? ⟨g,0,none⟩=some (.string s):=h.cell 0;have d:w.cell? ⟨g,1,none⟩=some (.bool b):=h.cell 1;have f:w.frozen? ⟨g,0,none⟩=false:=h.frozen 0;have j:w.frozen? ⟨g,1,none⟩=false:=h.frozen 1;have H:=hid h;clear h;go_enter func179,ntmps179;go_wp2;go_ret;exact⟨rfl,(H.o.set_ 0 _).set_ 1 _,((Fr.refl [g] w).setCell (p:=⟨g,0,none⟩) (.inl (by simp)) _).setCell (p:=⟨g,1,none⟩) (.inl (by simp)) _⟩
theorem zdk(g n:Nat)(s)(b:Bool)(w)(h:Rd w g s b)(hs:s.size≤281474976710656)(hn:¬s.size < n):
  Calls prog 179 #[.pointer (some ⟨g,0,none⟩),.int .i64 n] w fun e w'=>e=.returned (.string (s.extract 0 n))∧Rd w' g (s.extract n s.size) b∧Fr [g] w w':=by
 have a:w.cell? ⟨g,0,none⟩=some (.string s):=h.cell 0;have k:w.cell? ⟨g,1,none⟩=some (.bool b):=h.cell 1;have f:w.frozen? ⟨g,0,none⟩=false:=h.frozen 0;have d:w.frozen? ⟨g,1,none⟩=false:=h.frozen 1;have j:n≤s.size:=by omega
 have H:=hid h;clear h;go_enter func179,ntmps179;go_wp2;go_ret;exact⟨rfl,H.o.set_ 0 _,(Fr.refl [g] w).setCell (p:=⟨g,0,none⟩) (.inl (by simp)) _⟩
theorem zpx(w)(s:YY)(hs:s.size≤281474976710656):∃cap wb,(convert 9 142 (.string s)).run prog w=.ok (.slice (some ⟨w.heap.size,0,none⟩) s.size cap) wb∧Fr [] w wb∧s.size≤cap∧cap≤maxLen ∧
  ∀j,j < s.size→wb.cell? ⟨w.heap.size,j,none⟩=some (.int .u8 (z04 s j)):=by
 refine⟨_,_,Lib.run_convert_string_bytes w 9 142 5 s underlying9 underlying142 underlying5,⟨?_,?_,?_,?_,?_⟩,grownCap_ge _ _ _ _,grownCap_le_maxLen _ _ _ _ (by unfold maxLen;omega),?_⟩
 ·unfold Lib.bytesWorld World.freeze;rfl
 ·unfold Lib.bytesWorld World.freeze;rfl
 ·unfold Lib.bytesWorld World.freeze;rfl
 ·rw[Lib.bytesWorld_size];omega
 ·intro k b _;exact Lib.bytesWorld_at_old _ _ _ _ b
 ·intro j a;exact Lib.bytesWorld_cell _ _ _ _ a
def zaz(t:YY):Nat→Nat
 | 0=>0
 | k+1=>zaz t k * 256+z04 t k
theorem zpj(t):∀k,k≤4→zaz t k < 256 ^ k:=by
 intro k d
 induction k with
 | zero=>simp[zaz]
 | succ k ih=>
  have a:=ih (by omega);have b:=z0t t k;rw[zaz,Nat.pow_succ];omega
theorem zn3(t)(k:Nat)(hk:k≤3):zaz t k < 16777216:=by
 have:=zpj t k (by omega);have a:256 ^ k≤256 ^ 3:=Nat.pow_le_pow_right (by omega) hk;omega
theorem q6i(a b:Nat)(hb:b < 256):a * 256 ||| b=a * 256+b:=by
 have:=Nat.shiftLeft_add_eq_or_of_lt (i:=8) (b:=b) (by simpa using hb) a;rw[Nat.shiftLeft_eq] at this;exact this.symm
theorem zes(a:Nat)(ha:a < 9223372036854775808):(BitVec.ofInt 64 (a:Int)).toNat=a:=by
 rw[BitVec.ofInt_natCast,BitVec.toNat_ofNat];exact Nat.mod_eq_of_lt (by omega)
theorem q6j(a c:Nat)(ha:a < 16777216)(hc:c < 256):bits .or .i64 ((a:Int) * 256) (c:Int)=((a * 256+c:Nat):Int):=by
 have e:((a:Int) * 256)=((a * 256:Nat):Int):=by omega
 rw[e];show IntKind.i64.wrap ((BitVec.ofInt 64 ((a * 256:Nat):Int) ||| BitVec.ofInt 64 (c:Int)).toNat:Int)=_
 rw[BitVec.toNat_or,zes _ (by omega),zes _ (by omega),q6i a c hc];exact IntWalk.i64_in _ (by omega)
theorem zgm(g n:Nat)(s)(b:Bool)(w)(h:Rd w g s b)(hs:s.size≤281474976710656)(hn:¬s.size < n)(h4:n≤4):
  Calls prog 178 #[.pointer (some ⟨g,0,none⟩),.int .i64 n] w fun e w'=>e=.returned (.int .i64 (zaz (s.extract 0 n) n))∧Rd w' g (s.extract n s.size) b∧Fr [g] w w':=by
 have T:=hid (zdk g n s b w h hs hn);have J:=Whole.lt h;clear h;go_enter func178,ntmps178;go_wp2_with fail;refine T.o.mono ?_;rintro e x ⟨rfl,p,r⟩;have l:(s.extract 0 n).size=n:=by simp;omega
 obtain⟨B,u,f,m,j,y,d⟩:=zpx x (s.extract 0 n) (by omega);rw[l] at f j d;have E:=hid (show Rd u g (s.extract n s.size) b from Whole.fr p m (by simp));have D:=hid (show Fr [g] w u from r.trans m.up);have C:=hid d;clear p r m d l T;generalize ht:s.extract 0 n=t at *;have I:=hid ht;clear ht;go_wp2;clear f
 go_loop [5,13] (fun v i=>∃k:Nat,k≤n∧i=.int .i64 k∧v=.int .i64 (zaz t k)) (fun _ i=>n - (intOf i).toNat)
 case atStart=>exact⟨0,Xt _,rfl,rfl⟩
 case round=>
  obtain⟨k,K,rfl,rfl⟩:=hrel;by_cases hlt:k < n
  ·have L:=C.o k hlt;have A:=z0t t k;have G:=zn3 t k (by omega);have F:=hid (show zaz t (k+1)=zaz t k * 256+z04 t k from rfl);generalize zaz t k=a at *;generalize z04 t k=c at *;generalize hz:zaz t (k+1)=z at *;have H:=hid hz;clear hz;go_wp2;rw[q6j a c G A]
   go_round
   case rel=>exact⟨k+1,by omega,by go_num,by rw[H.o,F.o]⟩
   case measure=>simp[intOf];omega
  ·have e:k=n:=by omega
   subst e;go_wp2;go_ret;rw[I.o];exact⟨rfl,E.o,D.o⟩
theorem zkq(g n:Nat)(s)(b:Bool)(w)(h:Rd w g s b)(hs:s.size≤281474976710656)(hn:s.size < n)(h4:n≤4):
  Calls prog 178 #[.pointer (some ⟨g,0,none⟩),.int .i64 n] w fun e w'=>e=.returned (.int .i64 0)∧Rd w' g ByteArray.empty true∧Fr [g] w w':=by
 have T:=hid (zx3 g n s b w h hs hn (by omega));have y:=Whole.lt h;clear h;go_enter func178,ntmps178;go_wp2_with fail;refine T.o.mono ?_;rintro e p ⟨rfl,m,k⟩;obtain⟨x,l,a,j,f,u,d⟩:=zpx p ByteArray.empty (by decide);have t:=hid (show Rd l g ByteArray.empty true from Whole.fr m j (by simp));have r:=hid (show Fr [g] w l from k.trans j.up);clear m k j d T;rw[show ByteArray.empty.size=0 from rfl] at a f;go_wp2;clear a;refine wp_loop_rounds 1 ?_;rw[rounds_succ];go_wp2;go_ret;exact⟨rfl,t.o,r.o⟩
theorem zdh(g:Nat)(s)(b:Bool)(w)(h:Rd w g s b)(hs:s.size≤281474976710656)(hn:¬s.size < 1):
  Calls prog 178 #[.pointer (some ⟨g,0,none⟩),.int .i64 1] w fun e w'=>e=.returned (.int .i64 (z04 s 0))∧Rd w' g (s.extract 1 s.size) b∧Fr [g] w w':=by
 have a:=zgm g 1 s b w h hs hn (by omega)
 have e:zaz (s.extract 0 1) 1=z04 s 0:=by
  simp only[zaz];rw[z3p s 0 1 0 (by omega) (by omega)];simp
 rw[e] at a;exact a
theorem zn2(g:Nat)(s)(b:Bool)(w)(h:Rd w g s b)(hs:s.size≤281474976710656)(hn:s.size < 1):
  Calls prog 178 #[.pointer (some ⟨g,0,none⟩),.int .i64 1] w fun e w'=>e=.returned (.int .i64 0)∧Rd w' g ByteArray.empty true∧Fr [g] w w':=
 zkq g 1 s b w h hs hn (by omega)
theorem q11(g:Nat)(s t r)(b:Bool)(w)(h:Rd w g s b)(hs:s.size≤281474976710656)(ht:z4l s=some (t,r)):
  Calls prog 243 #[.pointer (some ⟨g,0,none⟩)] w fun e w'=>e=.returned (.string t)∧Rd w' g r b∧Fr [g] w w':=by
 unfold z4l zet at ht;by_cases h1:s.size < 1
 ·rw[Xf h1] at ht;cases ht
 ·rw[Xc h1,Yn] at ht;unfold zli at ht;by_cases h2:(s.extract 1 s.size).size < z04 s 0
  ·rw[Xf h2] at ht;cases ht
  ·rw[Xc h2] at ht;cases ht;have N:=hid (zdh g s b w h hs h1);have T:=hid (fun W j=>zdk g (z04 s 0) (s.extract 1 s.size) b W j (by simp;omega) h2);clear h;generalize z04 s 0=n at *;generalize s.extract 1 s.size=q at *;go_enter func243,ntmps243;go_wp2_with fail;refine N.o.mono ?_;rintro e p ⟨rfl,d,l⟩;have m:=hid d;clear d;go_wp2_with fail;refine(T.o _ m.o).mono ?_;rintro e u ⟨rfl,a,f⟩;have k:=hid a;clear a;go_wp2;go_ret;exact⟨rfl,k.o,l.trans f⟩
theorem q4n(g:Nat)(s)(b:Bool)(w)(h:Rd w g s b)(hs:s.size≤281474976710656)(ht:z4l s=none):
  Calls prog 243 #[.pointer (some ⟨g,0,none⟩)] w fun e w'=>(∃t:YY,t.size=0∧e=.returned (.string t))∧(∃s':YY,s'.size=0∧Rd w' g s' true)∧Fr [g] w w':=by
 unfold z4l zet at ht;by_cases h1:s.size < 1
 ·have N:=hid (zn2 g s b w h hs h1);have T:=hid (fun W j=>zdk g 0 ByteArray.empty true W j (by decide) (by decide));clear h;go_enter func243,ntmps243;go_wp2_with fail;refine N.o.mono ?_;rintro e p ⟨rfl,d,l⟩;have m:=hid d;clear d;go_wp2_with fail;refine(T.o _ m.o).mono ?_;rintro e r ⟨rfl,a,f⟩;have k:=hid a;clear a;go_wp2;go_ret;exact⟨⟨_,rfl,rfl⟩,⟨_,rfl,k.o⟩,l.trans f⟩
 ·rw[Xc h1,Yn] at ht;unfold zli at ht;by_cases h2:(s.extract 1 s.size).size < z04 s 0
  ·have N:=hid (zdh g s b w h hs h1);have T:=hid (fun W j=>zx3 g (z04 s 0) (s.extract 1 s.size) b W j (by simp;omega) h2 (by have:=z0t s 0;omega));clear h ht;generalize z04 s 0=n at *;generalize s.extract 1 s.size=q at *;go_enter func243,ntmps243;go_wp2_with fail;refine N.o.mono ?_;rintro e p ⟨rfl,d,l⟩;have m:=hid d;clear d;go_wp2_with fail;refine(T.o _ m.o).mono ?_;rintro e r ⟨rfl,a,f⟩;have k:=hid a;clear a;go_wp2;go_ret;exact⟨⟨_,rfl,rfl⟩,⟨_,rfl,k.o⟩,l.trans f⟩
  ·rw[Xc h2] at ht;cases ht
def z6b{α:Type}(o:Option (α×YY))(v:α)(r:YY)(b b':Bool):Prop:=match o with
 | some p=>v=p.1∧r=p.2∧b'=b
 | none=>b'=true
def zxr(g:Nat)(s:YY)(b:Bool)(w:World)(e:Ending)(w':World):Prop:=
 ∃t r b',e=.returned (.string t)∧Rd w' g r b'∧Fr [g] w w'∧z6b (z4l s) t r b b'∧t.size≤281474976710656∧r.size≤s.size
theorem zs6{s t r:YY}(h:z4l s=some (t,r)):t.size≤s.size∧r.size≤s.size:=by
 unfold z4l zet at h;by_cases h1:s.size < 1
 ·rw[Xf h1] at h;cases h
 ·rw[Xc h1,Yn] at h;unfold zli at h;by_cases h2:(s.extract 1 s.size).size < z04 s 0
  ·rw[Xf h2] at h;cases h
  ·rw[Xc h2] at h;cases h;simp;omega
theorem zdl(g:Nat)(s)(b:Bool)(w)(h:Rd w g s b)(hs:s.size≤281474976710656):
  Calls prog 243 #[.pointer (some ⟨g,0,none⟩)] w (zxr g s b w):=by
 cases ht:z4l s with
 | none=>
  refine(q4n g s b w h hs ht).mono ?_;rintro e f ⟨⟨t,l,rfl⟩,⟨d,k,hr⟩,a⟩;refine⟨t,d,true,rfl,hr,a,?_,by omega,by omega⟩;rw[ht];exact rfl
 | some p=>
  obtain⟨t,r⟩:=p;have j:=zs6 ht;refine(q11 g s t r b w h hs ht).mono ?_;rintro e f ⟨rfl,hr,a⟩;refine⟨t,r,b,rfl,hr,a,?_,by omega,by omega⟩;rw[ht];exact⟨rfl,rfl,rfl⟩
def zsk(o:Option (Nat×YY))(g:Nat)(s:YY)(b:Bool)(w:World)(e:Ending)(w':World):Prop:=
 ∃(n:Nat) (r:YY) (b':Bool),e=.returned (.int .i64 n)∧Rd w' g r b'∧Fr [g] w w'∧z6b o n r b b'∧n < 4294967296∧r.size≤s.size
theorem num1_any(g:Nat)(s)(b:Bool)(w)(h:Rd w g s b)(hs:s.size≤281474976710656):
  Calls prog 178 #[.pointer (some ⟨g,0,none⟩),.int .i64 1] w (zsk (zet s) g s b w):=by
 by_cases h1:s.size < 1
 ·refine(zn2 g s b w h hs h1).mono ?_;rintro e d ⟨rfl,hr,a⟩;refine⟨0,_,true,rfl,hr,a,?_,by omega,Xt _⟩;unfold zet;rw[Xf h1];exact rfl
 ·refine(zdh g s b w h hs h1).mono ?_;rintro e d ⟨rfl,hr,a⟩;refine⟨_,_,b,rfl,hr,a,?_,by have:=z0t s 0;omega,by simp⟩;unfold zet;rw[Xc h1];exact⟨rfl,rfl,rfl⟩
theorem q02(g:Nat)(s)(b:Bool)(w)(h:Rd w g s b)(hs:s.size≤281474976710656):
  Calls prog 178 #[.pointer (some ⟨g,0,none⟩),.int .i64 4] w (zsk (zer s) g s b w):=by
 by_cases h1:s.size < 4
 ·refine(zkq g 4 s b w h hs h1 (Xb _)).mono ?_;rintro e d ⟨rfl,hr,a⟩;refine⟨0,_,true,rfl,hr,a,?_,by omega,Xt _⟩;unfold zer;rw[Xf h1];exact rfl
 ·refine(zgm g 4 s b w h hs h1 (Xb _)).mono ?_;rintro e d ⟨rfl,hr,a⟩;refine⟨_,_,b,rfl,hr,a,?_,?_,by simp⟩
  ·unfold zer;rw[Xc h1];refine⟨?_,rfl,rfl⟩;simp only[zaz];rw[z3p s 0 4 0 (by omega) (by omega),z3p s 0 4 1 (by omega) (by omega),z3p s 0 4 2 (by omega) (by omega),z3p s 0 4 3 (by omega) (by omega)];simp
  ·have:=zpj (s.extract 0 4) 4 (Xb _);omega
structure Gr(gi base:Nat)(x:Itm)(v1 v2 v3:Value)(w:World):Prop where
 whole:Whole w gi 68 [.int .i64 x.kind,.string x.text,v1,v2,v3]
 o1:w.ownsRow base 9 1 v1 x.list.length (z03 x.list)
 o2:w.ownsRow base 97 2 v2 x.pairs.length (z0e x.pairs)
 o3:w.ownsRow base 102 2 v3 x.scores.length (z06 x.scores)
theorem Gr.read{gi base g:Nat}{x:Itm}{v1 v2 v3:Value}{w w':World}{s:YY}{b:Bool}(h:Gr gi base x v1 v2 v3 w)(hr:Rd w g s b)(hf:Fr [g] w w'):Gr gi base x v1 v2 v3 w':=by
 have e:∀ {v:Value},v.ownBlock≠some g→∀k,v.ownBlock=some k→k∉[g]:=by
  intro v d k f a;rw[Uw] at a;exact d (a ▸ f)
 exact⟨h.whole.fr hf (by simpa using h.whole.ne_ hr (by decide)),z08 h.o1 hf (e (z0u h.o1 hr (by decide))),z08 h.o2 hf (e (z0u h.o2 hr (by decide))),z08 h.o3 hf (e (z0u h.o3 hr (by decide)))⟩
def zg8(gi g base:Nat)(x:Itm)(s:YY)(b:Bool)(w:World)(e:Ending)(w':World):Prop:=
 ∃x' v1' v2' v3' s' b',e=.returned (.tuple #[])∧Gr gi base x' v1' v2' v3' w'∧Rd w' g s' b'∧s'.size≤s.size∧x'.kind=x.kind∧many x'≤many x+1∧z6b (z5f x s) x' s' b b'∧FrB [g,gi] base w w'∧(x.Small→x'.Small)
theorem zjm(gi g base:Nat)(x)(v1 v2 v3)(s)(b:Bool)(w)(hG:Gr gi base x v1 v2 v3 w)(hR:Rd w g s b)(hs:s.size≤281474976710656)(hm:many x≤1000)(hB:base≤w.heap.size)(hgi:gi < base)(hg:g < base)
  (k4:x.kind≠4) (k5:x.kind≠5):
  Calls prog 180 #[.pointer (some ⟨g,0,none⟩),.pointer (some ⟨gi,0,none⟩)] w (zg8 gi g base x s b w):=by
 obtain⟨i0,hi,hz0,hz1,hz2⟩:=info_parts z2y;have T:=hid (zdl g s b w hR hs);have c0:w.cell? ⟨gi,0,none⟩=some (.int .i64 x.kind):=hG.whole.cell 0;have q4:(x.kind==4)=false:=by simpa using k4
 have q5:(x.kind==5)=false:=by simpa using k5
 have U:=(show z5f x s=(z4l s).map fun p=>({ x with list:=x.list++[p.1] },p.2) by unfold z5f;rw[Xc k4,Xc k5]);have HE:=hid U;have Z:=hid hG;have HR:=hid hR;have Y:x.list.length≤1000:=by unfold many at hm;omega
 clear U hG hR k4 k5;go_enter func180,ntmps180;go_wp2_with fail;refine T.o.mono ?_;rintro e Q ⟨t,r,R,rfl,C,M,n,P,L⟩;have I:=Z.o.read HR.o M;have c2:Q.cell? ⟨gi,2,none⟩=some v1:=I.whole.cell 2;have a0:=M.size;have d:=I.o1;have l:=hid I;have z:=hid C;have O:=hid n;clear I C n c0;go_wp2_with (at_builtin;refine wpList_append_own_at _ rfl _ _ 24 rfl base 9 i0 _ 1 16 underlying24 hi hz0 hz1 hz2 rfl (by decide) _ _ _ rfl (d.alloc _) ⟨Q.heap.size,0,none⟩ 1 1 [.string t] rfl rfl ?c1 ?c2 ?c3 ?c4 ?c5 ?_)
 case c1=>
  intro j u H
  match j,H with
  | 0,H=>simp at H;subst H;simp[Addr.add]
 case c2=>intro u V;simp at V;subst V;rfl
 case c3=>unfold maxLen;omega
 case c4=>omega
 case c5=>simp;omega
 intro W D f a _ K;have G:Whole D gi 68 [.int .i64 x.kind,.string x.text,v1,v2,v3]:=(l.o.whole.alloc _).grown a (fun e=>z0u d l.o.whole (by decide) e.symm);have S:Rd D g r R:=Whole.grown (z.o.alloc _) a (fun e=>z0u d z.o (by decide) e.symm);have d2:D.cell? ⟨gi,2,none⟩=some v1:=G.cell 2;have f2:D.frozen? ⟨gi,2,none⟩=false:=G.frozen 2;have o2:=(l.o.o2.alloc (.cells #[.string t] 9)).kept a (z7v l.o.o2 d (by decide));have o3:=(l.o.o3.alloc (.cells #[.string t] 9)).kept a (z7v l.o.o3 d (by decide));have J:gi≠g:=l.o.whole.ne_ z.o (by decide)
 obtain⟨B,m,rfl⟩:∃B m,W=.slice (some ⟨B,0,none⟩) (x.list.length+1) m:=by
  rcases f.2 with⟨_,h0⟩|⟨B,m,cur,hv,_⟩
  ·omega
  ·exact⟨B,m,hv⟩
 have FB:FrB [g,gi] base w D:=(((M.toB base).more (T:=[g,gi]) (by intro k E;exact .inl (by simp at E;simp[E]))).alloc _).grown a (fun k E=>.inr (d.lt k E).1);have y:=hid G;have N:=hid S;clear G S a K d;go_wp2
 go_end0
 refine⟨{ x with list:=x.list++[t] },_,_,_,r,R,rfl,⟨y.o.set_ 2 _,?_,z0r _ o2 (z0u o2 y.o (by decide)),z0r _ o3 (z0u o3 y.o (by decide))⟩,N.o.far (p:=⟨gi,2,none⟩) (Ne.symm J) _,L,rfl,?_,?_,FB.setCell (p:=⟨gi,2,none⟩) (.inl (by simp)) _,fun h=>⟨h.kind,h.text,by simp;omega,h.pairs,h.scores,?_,h.fields,h.members⟩⟩
 ·have:=z0r (p:=⟨gi,2,none⟩) (.slice (some ⟨B,0,none⟩) (x.list.length+1) m) f (z0u f y.o (by decide));rw[znx];simpa using this
 ·unfold many;simp;omega
 ·rw[HE.o];have F:=O.o;cases ht:z4l s with
  | none=>rw[ht] at F;exact F
  | some p=>
   rw[ht] at F;obtain⟨h1,X,h3⟩:=F;exact⟨by rw[h1],X,h3⟩
 ·intro q A;rcases Ys.1 A with A|A
  ·exact h.texts q A
  ·rw[Uw.1 A];exact P
theorem q6p{α β:Type}{o1:Option (α×YY)}{f2:YY→Option (β×YY)}{t:α}{r:YY}{t2:β}{r2:YY}{b b1 b2:Bool}(mk:α→β→Itm)
  (h1:z6b o1 t r b b1) (h2:z6b (f2 r) t2 r2 b1 b2) (hz:b1=true→b2=true):z6b (o1.bind fun p=>(f2 p.2).map fun q=>(mk p.1 q.1,q.2)) (mk t t2) r2 b b2:=by
 cases o1 with
 | none=>exact hz h1
 | some p=>
  obtain⟨rfl,rfl,rfl⟩:=h1;rw[Yn];cases ho:f2 p.2 with
  | none=>rw[ho] at h2;exact h2
  | some q=>
   rw[ho] at h2;obtain⟨rfl,rfl,h3⟩:=h2;exact⟨rfl,rfl,h3⟩
theorem zf4{α:Type}{o:Option (α×YY)}{v:α}{r:YY}{b b':Bool}(h:z6b o v r b b'):b=true→b'=true:=by
 intro a;cases o with
 | none=>exact h
 | some p=>rw[h.2.2];exact a
theorem zyu{gi g base:Nat}{x:Itm}{v1 v2 v3:Value}{s t r t2 r2:YY}{b b1 b2:Bool}{w w1 w2 w3:World}{g' cap:Nat}
  (G1:Gr gi base x v1 v2 v3 w1) (R1:Rd w1 g r b1) (G2:Gr gi base x v1 v2 v3 w2) (R2:Rd w2 g r2 b2) (hk:x.kind=4) (f1:Fr [g] w w1) (f3:Fr [g] w1 w2)
  (hE:z5f x s=(z4l s).bind fun p=>(z4l p.2).map fun q=>({ x with pairs:=x.pairs++[(p.1,q.1)] },q.2)) (h1:z6b (z4l s) t r b b1) (h2:z6b (z4l r) t2 r2 b1 b2) (hrs:r.size≤s.size) (hrs2:r2.size≤r.size) (hts:t.size≤281474976710656) (hts2:t2.size≤281474976710656) (hmm:x.pairs.length≤1000)
  (hB:base≤w.heap.size) (hon:w2.ownsRow base 97 2 v2 x.pairs.length (z0e x.pairs))
  (how:w3.ownsRow base 97 2 (.slice (some ⟨g',0,none⟩) (x.pairs.length+1) cap) (x.pairs.length+1) (z0e x.pairs++[.string t,.string t2]))
  (hgr:(w2.alloc (.cells #[.string t,.string t2] 97)).grownBy w3 v2.ownBlock) (hW:Whole w3 gi 68 [.int .i64 4,.string x.text,v1,v2,v3]):
  zg8 gi g base x s b w (.returned (.tuple #[])) (w3.setCell ⟨gi,3,none⟩ (.slice (some ⟨g',0,none⟩) (x.pairs.length+1) cap)):=by
 have o1:=(G2.o1.alloc (.cells #[.string t,.string t2] 97)).kept hgr (z7v G2.o1 hon (by decide));have o3:=(G2.o3.alloc (.cells #[.string t,.string t2] 97)).kept hgr (z7v G2.o3 hon (by decide));have j:Rd w3 g r2 b2:=Whole.grown (R2.alloc _) hgr (fun e=>z0u hon R2 (by decide) e.symm);have f:gi≠g:=G2.whole.ne_ R2 (by decide);have l:FrB [g,gi] base w w3:=(((f1.trans f3).toB base).more (T:=[g,gi]) (by intro k hk;exact .inl (by simp at hk;simp[hk]))).alloc _ |>.grown hgr (fun k hk=>.inr (hon.lt k hk).1)
 refine⟨{ x with pairs:=x.pairs++[(t,t2)] },v1,.slice (some ⟨g',0,none⟩) (x.pairs.length+1) cap,v3,r2,b2,rfl,⟨?_,z0r _ o1 (z0u o1 hW (by decide)),?_,z0r _ o3 (z0u o3 hW (by decide))⟩,j.far (p:=⟨gi,3,none⟩) (Ne.symm f) _,by omega,rfl,?_,?_,l.setCell (p:=⟨gi,3,none⟩) (.inl (by simp)) _,fun h=>⟨h.kind,h.text,h.list,by simp;omega,h.scores,h.texts,?_,h.members⟩⟩
 ·have:=hW.set_ 3 (.slice (some ⟨g',0,none⟩) (x.pairs.length+1) cap);rw[←hk] at this;exact this
 ·have:=z0r (p:=⟨gi,3,none⟩) (.slice (some ⟨g',0,none⟩) (x.pairs.length+1) cap) how (z0u how hW (by decide));rw[zna];simpa using this
 ·unfold many;simp;omega
 ·rw[hE];exact q6p (f2:=z4l) (fun a b=>{ x with pairs:=x.pairs++[(a,b)] }) h1 h2 (zf4 h2)
 ·intro q d;rcases Ys.1 d with d|d
  ·exact h.fields q d
  ·rw[Uw.1 d];exact⟨hts,hts2⟩
theorem zyv{gi g base:Nat}{x:Itm}{v1 v2 v3:Value}{s r t2 r2:YY}{t:Nat}{b b1 b2:Bool}{w w1 w2 w3:World}{g' cap:Nat}
  (G1:Gr gi base x v1 v2 v3 w1) (R1:Rd w1 g r b1) (G2:Gr gi base x v1 v2 v3 w2) (R2:Rd w2 g r2 b2) (hk:x.kind=5) (f1:Fr [g] w w1) (f3:Fr [g] w1 w2)
  (hE:z5f x s=(zer s).bind fun p=>(z4l p.2).map fun q=>({ x with scores:=x.scores++[((p.1:Int) - 999999999,q.1)] },q.2)) (h1:z6b (zer s) t r b b1) (h2:z6b (z4l r) t2 r2 b1 b2) (hrs:r.size≤s.size) (hrs2:r2.size≤r.size) (hts:t < 4294967296) (hts2:t2.size≤281474976710656) (hmm:x.scores.length≤1000)
  (hB:base≤w.heap.size) (hon:w2.ownsRow base 102 2 v3 x.scores.length (z06 x.scores))
  (how:w3.ownsRow base 102 2 (.slice (some ⟨g',0,none⟩) (x.scores.length+1) cap) (x.scores.length+1) (z06 x.scores++[.int .i64 ((t:Int) - 999999999),.string t2]))
  (hgr:(w2.alloc (.cells #[.int .i64 ((t:Int) - 999999999),.string t2] 102)).grownBy w3 v3.ownBlock) (hW:Whole w3 gi 68 [.int .i64 5,.string x.text,v1,v2,v3]):
  zg8 gi g base x s b w (.returned (.tuple #[])) (w3.setCell ⟨gi,4,none⟩ (.slice (some ⟨g',0,none⟩) (x.scores.length+1) cap)):=by
 have o1:=(G2.o1.alloc (.cells #[.int .i64 ((t:Int) - 999999999),.string t2] 102)).kept hgr (z7v G2.o1 hon (by decide));have o2:=(G2.o2.alloc (.cells #[.int .i64 ((t:Int) - 999999999),.string t2] 102)).kept hgr (z7v G2.o2 hon (by decide));have j:Rd w3 g r2 b2:=Whole.grown (R2.alloc _) hgr (fun e=>z0u hon R2 (by decide) e.symm);have f:gi≠g:=G2.whole.ne_ R2 (by decide);have l:FrB [g,gi] base w w3:=(((f1.trans f3).toB base).more (T:=[g,gi]) (by intro k hk;exact .inl (by simp at hk;simp[hk]))).alloc _ |>.grown hgr (fun k hk=>.inr (hon.lt k hk).1)
 refine⟨{ x with scores:=x.scores++[((t:Int) - 999999999,t2)] },v1,v2,.slice (some ⟨g',0,none⟩) (x.scores.length+1) cap,r2,b2,rfl,⟨?_,z0r _ o1 (z0u o1 hW (by decide)),z0r _ o2 (z0u o2 hW (by decide)),?_⟩,j.far (p:=⟨gi,4,none⟩) (Ne.symm f) _,by omega,rfl,?_,?_,l.setCell (p:=⟨gi,4,none⟩) (.inl (by simp)) _,fun h=>⟨h.kind,h.text,h.list,h.pairs,by simp;omega,h.texts,h.fields,?_⟩⟩
 ·have:=hW.set_ 4 (.slice (some ⟨g',0,none⟩) (x.scores.length+1) cap);rw[←hk] at this;exact this
 ·have:=z0r (p:=⟨gi,4,none⟩) (.slice (some ⟨g',0,none⟩) (x.scores.length+1) cap) how (z0u how hW (by decide));rw[zlc];simpa using this
 ·unfold many;simp;omega
 ·rw[hE];exact q6p (f2:=z4l) (fun(a:Nat) b=>{ x with scores:=x.scores++[((a:Int) - 999999999,b)] }) h1 h2 (zf4 h2)
 ·intro q d;rcases Ys.1 d with d|d
  ·exact h.members q d
  ·rw[Uw.1 d];exact⟨⟨by show -9223372036854775808≤(t:Int) - 999999999;omega,by show(t:Int) - 999999999≤9223372036854775807;omega⟩,hts2⟩
attribute [local go_sem ↓] Go.wp_at_zero Go.wp_at_succ
theorem zjn(gi g base:Nat)(x)(v1 v2 v3)(s)(b:Bool)(w)(hG:Gr gi base x v1 v2 v3 w)(hR:Rd w g s b)(hs:s.size≤281474976710656)(hm:many x≤1000)(hB:base≤w.heap.size)(hgi:gi < base)(hg:g < base)
  (k4:x.kind=4):
  Calls prog 180 #[.pointer (some ⟨g,0,none⟩),.pointer (some ⟨gi,0,none⟩)] w (zg8 gi g base x s b w):=by
 obtain⟨i0,hi,hz0,hz1,hz2⟩:=info_parts z9d;have T:=hid (zdl g s b w hR hs);have c0:w.cell? ⟨gi,0,none⟩=some (.int .i64 4):=by rw[←k4];exact hG.whole.cell 0
 have Y:=(show z5f x s=(z4l s).bind fun p=>(z4l p.2).map fun q=>({ x with pairs:=x.pairs++[(p.1,q.1)] },q.2) by unfold z5f;rw[Xf k4]);have HE:=hid Y;have Z:=hid k4;have HG:=hid hG;have HR:=hid hR;have H:x.pairs.length≤1000:=by unfold many at hm;omega
 clear Y hG hR k4;go_enter func180,ntmps180;go_wp2_with fail;refine T.o.mono ?_;rintro e V ⟨t,r,X,rfl,A,L,h,Q,K⟩;have U:=HG.o.read HR.o L;have c2:V.cell? ⟨gi,3,none⟩=some v2:=U.whole.cell 3;have a2:=L.size;have T2:=hid (fun W (hW:Rd W g r X)=>zdl g r X W hW (by omega));have B:=hid U;have l:=hid A;have P:=hid h;clear U A h c0;go_wp2_with fail
 go_region_law
  (first
    | (refine step_append_lies _ (by rfl) _ _ 65 (by rfl) base 97 i0 _ 2 32 underlying65 hi hz0 hz1 hz2 rfl (by decide) v2 x.pairs.length (z0e x.pairs) (by rfl) (d.alloc _) ⟨C.heap.size,0,none⟩ 1 1 [.string t,.string F] (by rfl) (by rfl) (World.news_of_block (cs:=#[.string t,.string F]) (t:=97) (fr:=(0,0)) (heap_alloc_new _ _)) (by simp[Value.oneCell']) (by omega) (by unfold maxLen;omega) (by omega) (by simp;omega) (C.heap.size+1) (by simp) ?_
       intro g' a1 G j a J a0;have E:Whole G gi 68 [.int .i64 4,.string x.text,v1,v2,v3]:=(Z.o ▸ k.o.whole.alloc _).grown a (fun e=>z0u d k.o.whole (by decide) e.symm);have d3:G.cell? ⟨gi,3,none⟩=some v2:=E.cell 3;have z3:G.frozen? ⟨gi,3,none⟩=false:=E.frozen 3;have N:=hid E;have I:=hid a;have R:=hid j;have M:=hid d;clear E a j d J)
    | (go_simp
       go_at_call 243;refine(T2.o _ ?hr).mono ?_
       case hr=>exact l.o
       rintro e C ⟨F,r2,b2,rfl,u,m,f,n,y⟩;have S:Fr [g] V C:=⟨m.os,m.tape,m.output,m.size,m.block⟩;have a3:=S.size;have z:=B.o.read l.o S;have c3:C.cell? ⟨gi,3,none⟩=some v2:=z.whole.cell 3;have k:=hid z;have O:=hid u;have D:=hid f;have d:=z.o2;have c4:(C.alloc (.cells #[.string t,.string F] 97)).cell? ⟨gi,3,none⟩=some v2:=(z.whole.alloc _).cell 3;clear z u f m))
 all_goals
  go_wp2
  go_end0
  exact zyu B.o l.o k.o O.o Z.o L S HE.o P.o D.o K y Q n H hB M.o R.o I.o N.o
theorem zjo(gi g base:Nat)(x)(v1 v2 v3)(s)(b:Bool)(w)(hG:Gr gi base x v1 v2 v3 w)(hR:Rd w g s b)(hs:s.size≤281474976710656)(hm:many x≤1000)(hB:base≤w.heap.size)(hgi:gi < base)(hg:g < base)
  (k4:x.kind=5):
  Calls prog 180 #[.pointer (some ⟨g,0,none⟩),.pointer (some ⟨gi,0,none⟩)] w (zg8 gi g base x s b w):=by
 obtain⟨i0,hi,hz0,hz1,hz2⟩:=info_parts z67;have T:=hid (q02 g s b w hR hs);have c0:w.cell? ⟨gi,0,none⟩=some (.int .i64 5):=by rw[←k4];exact hG.whole.cell 0
 have Y:=(show z5f x s=(zer s).bind fun p=>(z4l p.2).map fun q=>({ x with scores:=x.scores++[((p.1:Int) - 999999999,q.1)] },q.2) by unfold z5f;rw[Xc (by omega),Xf k4]);have HE:=hid Y;have Z:=hid k4;have HG:=hid hG;have HR:=hid hR;have H:x.scores.length≤1000:=by unfold many at hm;omega
 clear Y hG hR k4;go_enter func180,ntmps180;go_wp2_with fail;refine T.o.mono ?_;rintro e V ⟨t,r,X,rfl,A,L,h,Q,K⟩;have U:=HG.o.read HR.o L;have c2:V.cell? ⟨gi,4,none⟩=some v3:=U.whole.cell 4;have a2:=L.size;have T2:=hid (fun W (hW:Rd W g r X)=>zdl g r X W hW (by omega));have a3:IntKind.i64.wrap ((t:Int) - 999999999)=(t:Int) - 999999999:=IntWalk.i64_in _ (by omega);have B:=hid U;have l:=hid A;have P:=hid h;clear U A h c0;go_wp2_with fail
 go_region_law
  (first
    | (refine step_append_lies _ (by rfl) _ _ 66 (by rfl) base 102 i0 _ 2 24 underlying66 hi hz0 hz1 hz2 rfl (by decide) v3 x.scores.length (z06 x.scores) (by rfl) (d.alloc _) ⟨C.heap.size,0,none⟩ 1 1 [.int .i64 ((t:Int) - 999999999),.string F] (by rfl) (by rfl) (World.news_of_block (cs:=#[.int .i64 ((t:Int) - 999999999),.string F]) (t:=102) (fr:=(0,0)) (heap_alloc_new _ _)) (by simp[Value.oneCell']) (by omega) (by unfold maxLen;omega) (by omega) (by simp;omega) (C.heap.size+1) (by simp) ?_
       intro g' a1 G j a J a0;have E:Whole G gi 68 [.int .i64 5,.string x.text,v1,v2,v3]:=(Z.o ▸ k.o.whole.alloc _).grown a (fun e=>z0u d k.o.whole (by decide) e.symm);have d3:G.cell? ⟨gi,4,none⟩=some v3:=E.cell 4;have z3:G.frozen? ⟨gi,4,none⟩=false:=E.frozen 4;have N:=hid E;have I:=hid a;have R:=hid j;have M:=hid d;clear E a j d J)
    | (go_simp
       go_at_call 243;refine(T2.o _ ?hr).mono ?_
       case hr=>exact l.o
       rintro e C ⟨F,r2,b2,rfl,u,m,f,n,y⟩;have S:Fr [g] V C:=⟨m.os,m.tape,m.output,m.size,m.block⟩;have a4:=S.size;have z:=B.o.read l.o S;have c3:C.cell? ⟨gi,4,none⟩=some v3:=z.whole.cell 4;have k:=hid z;have O:=hid u;have D:=hid f;have d:=z.o3;have c4:(C.alloc (.cells #[.int .i64 ((t:Int) - 999999999),.string F] 102)).cell? ⟨gi,4,none⟩=some v3:=(z.whole.alloc _).cell 4;clear z u f m))
 all_goals
  go_wp2
  go_end0
  exact zyv B.o l.o k.o O.o Z.o L S HE.o P.o D.o K y Q n H hB M.o R.o I.o N.o
theorem z40{α:Type}{o:Option (α×YY)}{v:α}{r:YY}(h:z6b o v r false false):o=some (v,r):=by
 cases o with
 | none=>cases h
 | some p=>obtain⟨rfl,rfl,_⟩:=h;rfl
theorem zc6{α:Type}{o:Option (α×YY)}{v:α}{r:YY}(h:z6b o v r false true):o=none:=by
 cases o with
 | none=>rfl
 | some p=>obtain⟨_,_,h⟩:=h;cases h
def zq3(j m:Nat)(x' x0:Itm)(s' r:YY)(b2 b':Bool):Prop:=
 (b'=false→b2=false∧z35 j x' s'=z35 m x0 r)∧(b'=true→b2=true∨z35 m x0 r=none)
theorem zn0(m:Nat)(x0)(r)(b2:Bool):zq3 m m x0 x0 r r b2 b2:=⟨fun h=>⟨h,rfl⟩,fun h=>.inl h⟩
theorem zra{j m:Nat}{x' x'' x0:Itm}{s' s'' r:YY}{b2 b'':Bool}(h:zq3 (j+1) m x' x0 s' r b2 false)(hr:z6b (z5f x' s') x'' s'' false b''):zq3 j m x'' x0 s'' r b2 b'':=by
 obtain⟨b,a⟩:=h.1 rfl;cases b'' with
 | false=>
  have:=z40 hr;refine⟨fun _=>⟨b,?_⟩,fun h=>?_⟩
  ·rw[←a,z35,this,Yn]
  ·cases h
 | true=>
  have:=zc6 hr;refine⟨fun h=>?_,fun _=>.inr ?_⟩
  ·cases h
  ·rw[←a,z35,this,Option.bind_none]
theorem zdv{s r:YY}{n:Nat}(h:z6b (zet s) n r false true):z41 s=none:=by
 unfold z41;rw[zc6 h];rfl
theorem zyl{s r:YY}{n:Nat}(h:z6b (zet s) n r false false)(hn:n=1):z41 s=some { z2q n with text:=r }:=by
 subst hn;unfold z41;rw[z40 h];rfl
theorem ztk{s r:YY}{n:Nat}{b:Bool}(h:z6b (zet s) n r false b)(h1:n≠1)(h2:¬(2≤n∧n≤5)):z41 s=none:=by
 cases b with
 | true=>exact zdv h
 | false=>unfold z41;rw[z40 h,Yn,Xc h1,Xc h2]
theorem ztl{s r r2 s':YY}{n m j:Nat}{b1 b2:Bool}{x':Itm}(h:z6b (zet s) n r false b1)(hn:2≤n∧n≤5)(h2:z6b (zet r) m r2 b1 b2)(hl:zq3 j m x' (z2q n) s' r2 b2 true):z41 s=none:=by
 cases b1 with
 | true=>exact zdv h
 | false=>
  unfold z41;rw[z40 h,Yn,Xc (by omega),Xf hn];cases b2 with
  | true=>rw[zc6 h2];rfl
  | false=>
   rw[z40 h2,Yn];rcases hl.2 rfl with h3|h3
   ·cases h3
   ·rw[h3];rfl
theorem ztj{s r r2 s':YY}{n m:Nat}{b1 b2:Bool}{x':Itm}(h:z6b (zet s) n r false b1)(hn:2≤n∧n≤5)(h2:z6b (zet r) m r2 b1 b2)(hl:zq3 0 m x' (z2q n) s' r2 b2 false):
  z41 s=if s'.size=0 then some x' else none:=by
 obtain⟨h3,h4⟩:=hl.1 rfl;subst h3
 have a:b1=false:=by
  cases b1 with
  | false=>rfl
  | true=>have:=zf4 h2 rfl;cases this
 subst a;unfold z41;rw[z40 h,Yn,Xc (by omega),Xf hn,z40 h2,Yn,←h4];rfl
theorem zop{s:YY}(h:z41 s=none):z1n s=1∧z0m s=z2q 0:=by unfold z1n z0m;rw[h];exact⟨rfl,rfl⟩
theorem zti{s:YY}{x:Itm}(h:z41 s=some x)(hc:z0a x≠0):z1n s=z0a x∧z0m s=z2q 0:=by unfold z1n z0m;rw[h];exact⟨rfl,Xc hc⟩
theorem zoq{s:YY}{x:Itm}(h:z41 s=some x)(hc:z0a x=0):z1n s=0∧z0m s=x:=by unfold z1n z0m;rw[h];exact⟨hc,Xf hc⟩
theorem zmj(r:YY):r.extract 0 r.size=r:=by simp
theorem zjs(r:YY):r.extract r.size r.size=⟨#[]⟩:=by
 apply q01;simp
def zlw(s:YY)(w:World)(e:Ending)(w':World):Prop:=∃v,e=.returned (.tuple #[v,.int .i64 (z1n s)])∧z0k w' w.heap.size v (z0m s)∧Fr [] w w'
structure z56(w:World)(gi:Nat)(x:Itm)(v1 v2 v3:Value)(s:YY)(b:Bool)(wr:World):Prop where
 o:Whole wr w.heap.size 68 [.int .i64 0,.string ⟨#[]⟩,.slice none 0 0,.slice none 0 0,.slice none 0 0]
 rd:Rd wr (w.heap.size+1) s b
 gr:Gr gi (gi+1) x v1 v2 v3 wr
 le:w.heap.size+1 < gi
 lt:gi < wr.heap.size
 fr:Fr [] w wr
 small:x.Small
theorem z56.read{w:World}{gi:Nat}{x:Itm}{v1 v2 v3:Value}{s s':YY}{b b':Bool}{wr w1:World}(h:z56 w gi x v1 v2 v3 s b wr)(hr:Rd w1 (w.heap.size+1) s' b')(hf:Fr [w.heap.size+1] wr w1):z56 w gi x v1 v2 v3 s' b' w1:=
 ⟨h.o.fr hf (by simp),hr,h.gr.read h.rd hf,h.le,Yx h.lt hf.size,h.fr.step hf (by intro k hk;simp at hk;subst hk;exact .inr (by omega)),h.small⟩
theorem z56.el{w:World}{gi:Nat}{x x':Itm}{v1 v2 v3 v1' v2' v3':Value}{s s':YY}{b b':Bool}{wr w1:World}(h:z56 w gi x v1 v2 v3 s b wr)(hg:Gr gi (gi+1) x' v1' v2' v3' w1)(hr:Rd w1 (w.heap.size+1) s' b')
  (hf:FrB [w.heap.size+1,gi] (gi+1) wr w1) (hs:x'.Small):z56 w gi x' v1' v2' v3' s' b' w1:=by
 have e:=h.le;refine⟨hf.whole h.o (by omega) (by simp;omega),hr,hg,h.le,Yx h.lt hf.size,?_,hs⟩;have d:=h.fr.size;have:=hf.belowOf (D:=w.heap.size) d (by omega) (by intro k a;simp at a;rcases a with rfl|rfl <;> omega)
 exact⟨this.os.trans h.fr.os,this.tape.trans h.fr.tape,this.output.trans h.fr.output,Xd d this.size,fun k a _=>(this.block k a).trans (h.fr.block k a (by simp))⟩
theorem z56.val{w:World}{gi:Nat}{x:Itm}{v1 v2 v3:Value}{s:YY}{b:Bool}{wr:World}(h:z56 w gi x v1 v2 v3 s b wr):z0k wr (gi+1) (.agg #[.int .i64 x.kind,.string x.text,v1,v2,v3]) x:=
 ⟨_,_,_,rfl,h.gr.o1,h.gr.o2,h.gr.o3⟩
theorem z56.text{w:World}{gi:Nat}{x:Itm}{v1 v2 v3:Value}{s:YY}{b:Bool}{wr:World}(h:z56 w gi x v1 v2 v3 s b wr)(t:YY)(ht:t.size≤281474976710656):
  z56 w gi { x with text:=t } v1 v2 v3 s b (wr.setCell ⟨gi,1,none⟩ (.string t)):=by
 have a:=h.le
 exact⟨h.o.far (p:=⟨gi,1,none⟩) (by show w.heap.size≠gi;omega) _,Whole.far h.rd (p:=⟨gi,1,none⟩) (by show w.heap.size+1≠gi;omega) _,
  ⟨h.gr.whole.set_ 1 _,z0r _ h.gr.o1 (z0u h.gr.o1 h.gr.whole (by decide)),z0r _ h.gr.o2 (z0u h.gr.o2 h.gr.whole (by decide)),z0r _ h.gr.o3 (z0u h.gr.o3 h.gr.whole (by decide))⟩,
  h.le,by simpa[World.setCell] using h.lt,h.fr.setCell (p:=⟨gi,1,none⟩) (.inr (by show w.heap.size≤gi;omega)) _,⟨h.small.kind,ht,h.small.list,h.small.pairs,h.small.scores,h.small.texts,h.small.fields,h.small.members⟩⟩
theorem zmh(gi g base:Nat)(x)(v1 v2 v3)(s)(b:Bool)(w)(hG:Gr gi base x v1 v2 v3 w)(hR:Rd w g s b)(hs:s.size≤281474976710656)(hm:many x≤1000)(hB:base≤w.heap.size)(hgi:gi < base)(hg:g < base):
  Calls prog 180 #[.pointer (some ⟨g,0,none⟩),.pointer (some ⟨gi,0,none⟩)] w (zg8 gi g base x s b w):=by
 by_cases k4:x.kind=4
 ·exact zjn gi g base x v1 v2 v3 s b w hG hR hs hm hB hgi hg k4
 ·by_cases k5:x.kind=5
  ·exact zjo gi g base x v1 v2 v3 s b w hG hR hs hm hB hgi hg k5
  ·exact zjm gi g base x v1 v2 v3 s b w hG hR hs hm hB hgi hg k4 k5
def Num1(g:Nat)(s:YY)(b:Bool)(w:World)(e:Ending)(w':World):Prop:=
 ∃(n:Nat) (r:YY) (b':Bool),e=.returned (.int .i64 n)∧Rd w' g r b'∧Fr [g] w w'∧z6b (zet s) n r b b'∧n < 256∧r.size≤s.size
theorem zkp(g:Nat)(s)(b:Bool)(w)(h:Rd w g s b)(hs:s.size≤281474976710656):
  Calls prog 178 #[.pointer (some ⟨g,0,none⟩),.int .i64 1] w (Num1 g s b w):=by
 by_cases h1:s.size < 1
 ·refine(zn2 g s b w h hs h1).mono ?_;rintro e d ⟨rfl,hr,a⟩;refine⟨0,_,true,rfl,hr,a,?_,by omega,Xt _⟩;unfold zet;rw[Xf h1];exact rfl
 ·refine(zdh g s b w h hs h1).mono ?_;rintro e d ⟨rfl,hr,a⟩;refine⟨_,_,b,rfl,hr,a,?_,z0t s 0,by simp⟩;unfold zet;rw[Xc h1];exact⟨rfl,rfl,rfl⟩
theorem z56.fr0{w:World}{gi:Nat}{x:Itm}{v1 v2 v3:Value}{s:YY}{b:Bool}{wr w1:World}(h:z56 w gi x v1 v2 v3 s b wr)(hf:Fr [] wr w1):z56 w gi x v1 v2 v3 s b w1:=
 h.read (Whole.fr h.rd hf (by simp)) hf.up
theorem z56.short{w:World}{gi:Nat}{x:Itm}{v1 v2 v3:Value}{s:YY}{b:Bool}{wr:World}(h:z56 w gi x v1 v2 v3 s b wr):z56 w gi x v1 v2 v3 s true (wr.setCell ⟨w.heap.size+1,1,none⟩ (.bool true)):=
 h.read (Whole.set_ h.rd 1 _) ((Fr.refl _ _).setCell (p:=⟨w.heap.size+1,1,none⟩) (.inl (by simp)) _)
theorem z56.end5{w:World}{gi:Nat}{x:Itm}{v1 v2 v3:Value}{s:YY}{b0:Bool}{wr:World}(h:z56 w gi x v1 v2 v3 s b0 wr)(a b c d e):Fr [] w (set5 wr w.heap.size a b c d e):=
 ((((h.fr.setCell (p:=⟨w.heap.size,0,none⟩) (.inr (Xb _)) _).setCell (p:=⟨w.heap.size,1,none⟩) (.inr (Xb _)) _).setCell (p:=⟨w.heap.size,2,none⟩) (.inr (Xb _)) _).setCell (p:=⟨w.heap.size,3,none⟩) (.inr (Xb _)) _).setCell (p:=⟨w.heap.size,4,none⟩) (.inr (Xb _)) _
theorem z56.val5{w:World}{gi:Nat}{x:Itm}{v1 v2 v3:Value}{s:YY}{b0:Bool}{wr:World}(h:z56 w gi x v1 v2 v3 s b0 wr)(a b c d e):z0k (set5 wr w.heap.size a b c d e) w.heap.size (.agg #[.int .i64 x.kind,.string x.text,v1,v2,v3]) x:=
 (h.val.set5 h.o _ _ _ _ _).base (by have:=h.le;omega)
theorem zge(s:YY)(w)(hs:s.size≤281474976710656):Calls prog 137 #[.string s] w (zlw s w):=by
 have r0:Rd ((w.alloc (.cells yIza 68)).alloc (.cells #[.string s,.bool false] 209)) (w.heap.size+1) s false:=by
  have:=Whole.new (w.alloc (.cells yIza 68)) 209 [.string s,.bool false];simpa[Rd] using this
 have N1:=hid (zkp (w.heap.size+1) s false _ r0 hs);go_enter func137,ntmps137;go_wp2_with fail;refine N1.o.mono ?_;rintro e a ⟨n,r,b1,rfl,ab,f1,B,hn,ax⟩
 have d0:z56 w a.heap.size (z2q n) (.slice none 0 0) (.slice none 0 0) (.slice none 0 0) r b1 (a.alloc (.cells #[.int .i64 n,.string ⟨#[]⟩,.slice none 0 0,.slice none 0 0,.slice none 0 0] 68)):=by
  have X:=f1.size;simp at X;refine⟨((Whole.new w _ _).alloc _ |>.fr f1 (by simp)).alloc _,Whole.alloc ab _,⟨Whole.new a _ _,World.ownsRow_nil _ _ _ _,⟨rfl,.inl ⟨rfl,rfl⟩⟩,⟨rfl,.inl ⟨rfl,rfl⟩⟩⟩,by omega,by simp,?_,z12 n (by omega)⟩
  exact((((Fr.refl [] w).alloc _).alloc _).step f1 (by intro k hk;simp at hk;subst hk;exact .inr (by omega))).alloc _
 have HR:=hid B;have M:=hid d0;have L:World.cell? _ ⟨a.heap.size,0,none⟩=some (Value.int .i64 (n:Int)):=d0.gr.whole.cell 0;have A:=Whole.cell d0.rd 0;have l:=Whole.cell d0.rd 1;clear d0 B ab f1 N1 r0;by_cases n1:n=1
 ·have q1:((n:Int)==1)=true:=by simp[n1]
  have ah:=hid n1;clear n1;have T:=hid (fun W (hW:Rd W (w.heap.size+1) r b1)=>zdk (w.heap.size+1) r.size r b1 W hW (by omega) (by omega));rw[zmj,zjs] at T;go_wp2_with fail;refine(T.o _ M.o.rd).mono ?_;rintro e w2 ⟨rfl,G,f2⟩;have d2:=M.o.read G f2;have y1:World.cell? _ ⟨a.heap.size,1,none⟩=some (Value.string ⟨#[]⟩):=d2.gr.whole.cell 1;have z1:=d2.gr.whole.frozen 1;have f:=hid (d2.text r (by omega));clear d2 G f2 L A l;cases b1;have P:=hid trivial
  all_goals
   first
   | (guard_hyp P
      have h:=hid (zyl HR.o ah.o))
   | (have N:=hid (zop (zdv HR.o)))
   obtain⟨u,p,y,z,t⟩:=five f.o.o;obtain⟨V,K,U,b4,Y⟩:=z11 f.o.o;have A:=Whole.cell f.o.rd 0;have l:=Whole.cell f.o.rd 1
   first
   | (guard_hyp P
      have L:World.cell? _ ⟨a.heap.size,0,none⟩=some (Value.int .i64 (n:Int)):=f.o.gr.whole.cell 0;have x1:World.cell? _ ⟨a.heap.size,1,none⟩=some (Value.string r):=f.o.gr.whole.cell 1;have x2:World.cell? _ ⟨a.heap.size,2,none⟩=some (.slice none 0 0:Value):=f.o.gr.whole.cell 2;have x3:World.cell? _ ⟨a.heap.size,3,none⟩=some (.slice none 0 0:Value):=f.o.gr.whole.cell 3;have x4:World.cell? _ ⟨a.heap.size,4,none⟩=some (.slice none 0 0:Value):=f.o.gr.whole.cell 4;have C:=hid (fun W (F:z56 w a.heap.size { z2q n with text:=r } (.slice none 0 0) (.slice none 0 0) (.slice none 0 0) ⟨#[]⟩ false W)=>z4g { z2q n with text:=r } (.agg #[.int .i64 (n:Int),.string r,.slice none 0 0,.slice none 0 0,.slice none 0 0]) W W.heap.size F.small (Xb _) F.val.item);have a7:=hid (fun g=>zti h.o g);have a6:=hid (fun g=>zoq h.o g);generalize z0a { z2q n with text:=r }=c at *;by_cases g:c=0;have S:=hid trivial
      all_goals
       first
       | (guard_hyp S
          subst g;have N:=hid (a6.o rfl))
       | (have q:(c != 0)=true:=by simpa using g
          have N:=hid (a7.o g);clear g)
       go_wp2_with fail;refine(C.o _ f.o).mono ?_;rintro e w9 ⟨rfl,f9⟩;have d:=hid (f.o.fr0 f9);clear u p y z t V K U b4 Y A l L x1 x2 x3 x4;obtain⟨u,p,y,z,t⟩:=five d.o.o;obtain⟨V,K,U,b4,Y⟩:=z11 d.o.o;have A:=Whole.cell d.o.rd 0;have l:=Whole.cell d.o.rd 1
       first
       | (guard_hyp S
          have L:World.cell? _ ⟨a.heap.size,0,none⟩=some (.int .i64 (n:Int):Value):=d.o.gr.whole.cell 0;have x1:World.cell? _ ⟨a.heap.size,1,none⟩=some (.string r:Value):=d.o.gr.whole.cell 1;have x2:World.cell? _ ⟨a.heap.size,2,none⟩=some (.slice none 0 0:Value):=d.o.gr.whole.cell 2;have x3:World.cell? _ ⟨a.heap.size,3,none⟩=some (.slice none 0 0:Value):=d.o.gr.whole.cell 3;have x4:World.cell? _ ⟨a.heap.size,4,none⟩=some (.slice none 0 0:Value):=d.o.gr.whole.cell 4;go_wp2;refine Xg (v:=.tuple #[.agg #[.int .i64 (n:Int),.string r,.slice none 0 0,.slice none 0 0,.slice none 0 0],.int .i64 0]) (by simp[results,results137,go_sem,u,p,y,z,t]) rfl ?_;refine⟨_,by rw[N.o.1],by rw[N.o.2];exact d.o.val5 _ _ _ _ _,d.o.end5 _ _ _ _ _⟩)
       | (go_wp2
          refine Xg (v:=.tuple #[.agg yIza,.int .i64 c]) (by simp[results,results137,go_sem,u,p,y,z,t]) rfl ?_;refine⟨_,by rw[N.o.1],by rw[N.o.2];exact z0k.nothing _ _,d.o.end5 _ _ _ _ _⟩))
   | (go_wp2
      refine Xg (v:=.tuple #[.agg yIza,.int .i64 1]) (by simp[results,results137,go_sem,u,p,y,z,t]) rfl ?_;refine⟨_,by rw[N.o.1],by rw[N.o.2];exact z0k.nothing _ _,f.o.end5 _ _ _ _ _⟩)
 have q1:((n:Int)==1)=false:=by simp;omega
 have I:=hid (fun W=>zce (n:Int) 2 5 W);by_cases n2:2≤n∧n≤5;have R:=hid trivial
 all_goals
  first
  | (guard_hyp R
     rw[show(decide (2≤(n:Int))&&decide ((n:Int)≤5))=true by simp;omega] at I;have Z:=hid n2;clear n1 n2;have N2:=hid (fun W (hW:Rd W (w.heap.size+1) r b1)=>zkp (w.heap.size+1) r b1 W hW (by omega)))
  | (rw[show(decide (2≤(n:Int))&&decide ((n:Int)≤5))=false by simp;omega] at I
     have N:=hid (zop (ztk HR.o n1 n2));clear n1 n2;have z1:=Whole.frozen M.o.rd 1)
  go_wp2_with fail;refine(I.o _).mono ?_;rintro e w2 ⟨rfl,rfl⟩
  first
  | (guard_hyp R
     go_wp2_with fail;refine(N2.o _ M.o.rd).mono ?_;rintro e w2 ⟨m,r2,K,rfl,G,f2,D,hm,ao⟩;have f:=hid (M.o.read G f2);have a5:=hid D;clear G f2 L A l D;go_wp2;go_loopg [6] (2 * m) (fun gh i wr=>∃(j:Nat) (x:Itm) (v1 v2 v3:Value) (s':YY) (b':Bool),gh=2 * j∧i=.int .i64 j∧x.kind=n∧many x+j≤255∧s'.size≤281474976710656∧zq3 j m x (z2q n) s' r2 K b'∧z56 w a.heap.size x v1 v2 v3 s' b' wr)
     case atStart=>exact⟨m,z2q n,_,_,_,r2,K,rfl,rfl,rfl,by show 0+0+0+m≤255;omega,by omega,zn0 _ _ _ _,f.o⟩
     clear f
     case round=>
      obtain⟨j,x,v1,v2,v3,s',b',rfl,rfl,a9,au,ai,J,F⟩:=hrel;have HL:=hid J;have b:=hid F;have am:=hid a9;clear J F a9;have A:=Whole.cell b.o.rd 0;have l:=Whole.cell b.o.rd 1;cases b'
      ·rcases j with _|j
       ·clear A l;by_cases X:s'.size=0;have Q:=hid trivial
        all_goals
         first
         | (guard_hyp Q
            obtain rfl:=q01 X;have h:=hid ((ztj HR.o Z.o a5.o HL.o).trans (Xf rfl));clear X;obtain⟨A1,c1,rfl⟩:=z68 (z0l b.o.gr.o1);obtain⟨A2,c2,rfl⟩:=z68 (z0l b.o.gr.o2);obtain⟨A3,c3,rfl⟩:=z68 (z0l b.o.gr.o3))
         | (obtain⟨aw,aq⟩:=neNil X
            have N:=hid (zop ((ztj HR.o Z.o a5.o HL.o).trans (Xc X)));clear X)
         obtain⟨u,p,y,z,t⟩:=five b.o.o;obtain⟨V,K,U,b4,Y⟩:=z11 b.o.o;have A:=Whole.cell b.o.rd 0;have l:=Whole.cell b.o.rd 1
         first
         | (guard_hyp Q
            have L:World.cell? _ ⟨a.heap.size,0,none⟩=some (Value.int .i64 x.kind):=b.o.gr.whole.cell 0;have x1:World.cell? _ ⟨a.heap.size,1,none⟩=some (Value.string x.text):=b.o.gr.whole.cell 1;have x2:World.cell? _ ⟨a.heap.size,2,none⟩=some (.slice A1 x.list.length c1:Value):=b.o.gr.whole.cell 2;have x3:World.cell? _ ⟨a.heap.size,3,none⟩=some (.slice A2 x.pairs.length c2:Value):=b.o.gr.whole.cell 3;have x4:World.cell? _ ⟨a.heap.size,4,none⟩=some (.slice A3 x.scores.length c3:Value):=b.o.gr.whole.cell 4;have C:=hid (fun W (F:z56 w a.heap.size x (.slice A1 x.list.length c1) (.slice A2 x.pairs.length c2) (.slice A3 x.scores.length c3) ⟨#[]⟩ false W)=>z4g x (.agg (yIa x A1 c1 A2 c2 A3 c3)) W W.heap.size F.small (Xb _) F.val.item);have a7:=hid (fun g=>zti h.o g);have a6:=hid (fun g=>zoq h.o g);generalize z0a x=c at *;by_cases g:c=0;have O:=hid trivial
            all_goals
             first
             | (guard_hyp O
                subst g;have N:=hid (a6.o rfl))
             | (have q:(c != 0)=true:=by simpa using g
                have N:=hid (a7.o g);clear g)
             go_wp2_with fail;refine(C.o _ b.o).mono ?_;rintro e w9 ⟨rfl,f9⟩;have d:=hid (b.o.fr0 f9);clear u p y z t V K U b4 Y A l L x1 x2 x3 x4;obtain⟨u,p,y,z,t⟩:=five d.o.o;obtain⟨V,K,U,b4,Y⟩:=z11 d.o.o;have A:=Whole.cell d.o.rd 0;have l:=Whole.cell d.o.rd 1
             first
             | (guard_hyp O
                have L:World.cell? _ ⟨a.heap.size,0,none⟩=some (.int .i64 x.kind:Value):=d.o.gr.whole.cell 0;have x1:World.cell? _ ⟨a.heap.size,1,none⟩=some (.string x.text:Value):=d.o.gr.whole.cell 1;have x2:World.cell? _ ⟨a.heap.size,2,none⟩=some (.slice A1 x.list.length c1:Value):=d.o.gr.whole.cell 2;have x3:World.cell? _ ⟨a.heap.size,3,none⟩=some (.slice A2 x.pairs.length c2:Value):=d.o.gr.whole.cell 3;have x4:World.cell? _ ⟨a.heap.size,4,none⟩=some (.slice A3 x.scores.length c3:Value):=d.o.gr.whole.cell 4;go_wp2;refine Xg (v:=.tuple #[.agg (yIa x A1 c1 A2 c2 A3 c3),.int .i64 0]) (by simp[results,results137,go_sem,u,p,y,z,t]) rfl ?_;refine⟨_,by rw[N.o.1],by rw[N.o.2];exact d.o.val5 _ _ _ _ _,d.o.end5 _ _ _ _ _⟩)
             | (go_wp2
                refine Xg (v:=.tuple #[.agg yIza,.int .i64 c]) (by simp[results,results137,go_sem,u,p,y,z,t]) rfl ?_;refine⟨_,by rw[N.o.1],by rw[N.o.2];exact z0k.nothing _ _,d.o.end5 _ _ _ _ _⟩))
         | (go_wp2
            refine Xg (v:=.tuple #[.agg yIza,.int .i64 1]) (by simp[results,results137,go_sem,u,p,y,z,t]) rfl ?_;refine⟨_,by rw[N.o.1],by rw[N.o.2];exact z0k.nothing _ _,b.o.end5 _ _ _ _ _⟩)
       ·skip;have hj:0 < ((j+1:Nat):Int):=by omega
        have av:=b.o.lt;have E:=hid (fun W (F:z56 w a.heap.size x v1 v2 v3 s' false W)=>zmh a.heap.size (w.heap.size+1) (a.heap.size+1) x v1 v2 v3 s' false W F.gr F.rd ai (by omega) F.lt (by omega) (by have:=F.le;omega));go_wp2_with fail;refine(E.o _ b.o).mono ?_;rintro e w4 ⟨x',al,ae,an,ag,af,rfl,hG,ad,ap,a8,ar,H,ac,aa⟩;have D4:=hid (b.o.el hG ad ac (aa b.o.small));have aj:=hid (zra HL.o H);have ak:=hid (a8.trans am.o);clear hG ad H ac aa A l a8;go_wp2;go_roundg (2 * j)
        case measure=>omega
        case rel=>exact⟨j,x',al,ae,an,ag,af,rfl,by simp,ak.o,by omega,by omega,aj.o,D4.o⟩
      ·have N:=hid (zop (ztl HR.o Z.o a5.o HL.o));clear A l;by_cases hj0:0 < j
       all_goals
        skip;obtain⟨u,p,y,z,t⟩:=five b.o.o;obtain⟨V,K,U,b4,Y⟩:=z11 b.o.o;have A:=Whole.cell b.o.rd 0;have l:=Whole.cell b.o.rd 1;go_wp2;refine Xg (v:=.tuple #[.agg yIza,.int .i64 1]) (by simp[results,results137,go_sem,u,p,y,z,t]) rfl ?_;refine⟨_,by rw[N.o.1],by rw[N.o.2];exact z0k.nothing _ _,b.o.end5 _ _ _ _ _⟩)
  | (have f:=hid M.o.short
     clear L l;obtain⟨y0,y1,y2,y3,y4⟩:=five M.o.o;obtain⟨k0,k2,k3,k4,k5⟩:=z11 M.o.o;have ee:=Whole.cell M.o.rd 1;obtain⟨u,p,y,z,t⟩:=five f.o.o;obtain⟨V,K,U,b4,Y⟩:=z11 f.o.o;have A:=Whole.cell f.o.rd 0;have l:=Whole.cell f.o.rd 1;go_wp2;refine Xg (v:=.tuple #[.agg yIza,.int .i64 1]) (by simp[results,results137,go_sem,u,p,y,z,t]) rfl ?_;refine⟨_,by rw[N.o.1],by rw[N.o.2];exact z0k.nothing _ _,f.o.end5 _ _ _ _ _⟩)
end
end Go.Proofs.YtnmoajaelmimnaaGreatDoor
