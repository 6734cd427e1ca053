/- Contracts; no condition but each theorem's own. -/
import Derived.Test.YtmkhmejempcimaaGreatDoorSlU6
import Derived.Test.YtmkhmejempcimaaGreatDoorSlU8
set_option linter.unusedVariables false
set_option linter.unusedSimpArgs false
set_option maxHeartbeats 8000000
set_option maxRecDepth 100000
namespace Go.Proofs.YtmkhmejempcimaaGreatDoor
open Lib (hid)
open Go.Proofs.Tryz (prog)
open Go.RowKit
theorem zgn(k:Nat):IntKind.u8.wrap (k:Int)=((z11 k).toNat:Int):=by
 rw[show(z11 k).toNat=k % 256 by simp[z11]];simp only[IntKind.wrap,IntKind.signed,IntKind.bits];simp
theorem z1u{n:Nat}:(z11 n).toNat=n % 256:=by simp[z11]
theorem Wrote.next{T g off base:Nat}{own own':Option Nat}{cs cs':List Value}{m:List UInt8}{w w1 w2:World}(hl:cs'.length=cs.length)(he:∀i,i≠off→i≠off+1→cs'[i]? = cs[i]?)
  (ho:own'=own∨∃k,own'=some k∧w.heap.size≤k) (hf:Fr (g :: own.toList) w w1) (k:Wrote T g off base own' cs' m w1 w2):Wrote T g off base own cs m w w2:=by
 obtain⟨o2,c2,b2,l2,e2,h2,f2⟩:=k;refine⟨o2,c2,b2,l2.trans hl,fun i hi hj=>(e2 i hi hj).trans (he i hi hj),?_,?_⟩
 ·rcases h2 with rfl|⟨k2,rfl,hk2⟩
  ·exact ho
  ·exact .inr ⟨k2,rfl,Nat.le_trans hf.size hk2⟩
 ·refine hf.step f2 ?_;intro x hx;rcases List.mem_cons.1 hx with rfl|hx
  ·exact .inl (by simp)
  ·rcases ho with rfl|⟨k1,rfl,hk1⟩
   ·exact .inl (by simp[hx])
   ·simp at hx;subst hx;exact .inr hk1
theorem Wrote.drew{T g off base:Nat}{own:Option Nat}{cs:List Value}{m:List UInt8}{w w2:World}(h:Wrote T g off base own cs m w.drew w2):Wrote T g off base own cs m w w2:=by
 obtain⟨o2,c2,b2,l2,e2,h2,f2⟩:=h;exact⟨o2,c2,b2,l2,e2,h2,⟨f2.os,f2.tape,f2.output,f2.size,f2.block⟩⟩
theorem z2s.drew{T g off base:Nat}{own:Option Nat}{cs:List Value}{m:List UInt8}{w:World}(h:z2s T g off base own cs m w):z2s T g off base own cs m w.drew:=
 ⟨h.whole,h.addr,h.buf,h.base,h.ne,h.lies⟩
theorem z2m{g base:Nat}{own:Option Nat}{cs:List Value}{l:List UInt8}(s:ByteArray){w:World}(h:z2s 134 g 0 base own cs l w)(hs:s.size≤60)(hl:l.length≤100000)(hB:base≤w.heap.size):
  Calls prog 76 #[.pointer (some ⟨g,0,none⟩),.string s] w fun e w'=>e=.returned (.tuple #[])∧Wrote 134 g 0 base own cs (l++z15 s) w w':=by
 have W1:=z2y (z11 s.size) h (by omega) hB;have e1:((z11 s.size).toNat:Int)=s.size:=by rw[z1u];omega
 rw[e1] at W1;have H1:=hid W1;have W2:=hid (fun W own' cs' (hW:z2s 134 g 0 base own' cs' (l++[z11 s.size]) W) (hz:w.heap.size≤W.heap.size)=>z4s s hW (by simp;omega) (Nat.le_trans hB hz));clear W1 h e1;go_enter Tryz.func76,Tryz.ntmps76;go_wp2_with fail;refine H1.out.mono ?_;rintro e w1 ⟨rfl,own',cs',b1,l1,e1,o1,f1⟩;have B1:=hid b1;have L1:=hid l1;have E1:=hid e1;have O1:=hid o1;have hz:=f1.size;clear b1 l1 e1 o1;go_wp2_with fail;refine(W2.out _ _ _ B1.out hz).mono ?_;rintro e w2 ⟨rfl,hw2⟩;have HW2:=hid hw2;clear hw2;go_wp2
 go_end0
 have hw:=HW2.out.next L1.out E1.out O1.out f1;rw[List.append_assoc] at hw;exact⟨rfl,hw⟩
theorem z7j{g base:Nat}{own:Option Nat}{cs:List Value}{l:List UInt8}(n:Nat){w:World}(h:z2s 134 g 0 base own cs l w)(hn:n < 4294967296)(hl:l.length≤100000)(hB:base≤w.heap.size):
  Calls prog 77 #[.pointer (some ⟨g,0,none⟩),.int .i64 n] w fun e w'=>e=.returned (.tuple #[])∧Wrote 134 g 0 base own cs (l++z2i n) w w':=by
 have HB:=hid h;have w24:IntKind.i64.wrap 24=24:=by decide
 have w16:IntKind.i64.wrap 16=16:=by decide
 have w8:IntKind.i64.wrap 8=8:=by decide
 have w0:IntKind.i64.wrap 0=0:=by decide
 clear h;have WB:=hid (fun(W:World) own' cs' (l':List UInt8) (k:Nat) (v:Int) (hW:z2s 134 g 0 base own' cs' l' W) (hl':l'.length≤100003) (hz:base≤W.heap.size) (hv:v=((z11 k).toNat:Int))=>(show Calls prog 72 #[.pointer (some ⟨g,0,none⟩),.int .u8 v] W _ from hv ▸ z2y (z11 k) hW (by omega) hz));have E0:=hid (show IntKind.u8.wrap ((n:Int) / 16777216)=((z11 (n / 16777216)).toNat:Int) by have:=zgn (n / 16777216);rw[Int.natCast_ediv] at this;exact this);have E1:=hid (show IntKind.u8.wrap ((n:Int) / 65536)=((z11 (n / 65536)).toNat:Int) by have:=zgn (n / 65536);rw[Int.natCast_ediv] at this;exact this);have E2:=hid (show IntKind.u8.wrap ((n:Int) / 256)=((z11 (n / 256)).toNat:Int) by have:=zgn (n / 256);rw[Int.natCast_ediv] at this;exact this);have E3:=hid (zgn n);go_enter Tryz.func77,Tryz.ntmps77;go_wp2;refine wp_loop_rounds 5 ?_;rw[rounds_succ];go_wp2
 go_region_with (go_at_call 72;go_must (refine(WB.out _ _ _ _ (n / 16777216) _ HB.out.drew (by first|omega|(simp;omega)) hB E0.out).mono ?_;rintro e w1 ⟨rfl,o1,s1,b1,l1,q1,p1,f1⟩))
 have f1':Fr (g :: own.toList) w w1:=⟨f1.os,f1.tape,f1.output,f1.size,f1.block⟩;have B1:=hid b1;have L1:=hid l1;have Q1:=hid q1;have P1:=hid p1;have G1:=hid f1';have Z0:=hid (show w.heap.size≤w1.heap.size from f1'.size);clear b1 l1 q1 p1 f1 f1';go_wp2;rw[rounds_succ];go_wp2
 go_region_with (go_at_call 72;refine(WB.out _ _ _ _ (n / 65536) _ B1.out.drew (by first|omega|(simp;omega)) (Nat.le_trans hB Z0.out) E1.out).mono ?_;rintro e w2 ⟨rfl,o2,s2,b2,l2,q2,p2,f2⟩)
 have f2':Fr (g :: o1.toList) w1 w2:=⟨f2.os,f2.tape,f2.output,f2.size,f2.block⟩;have B2:=hid b2;have L2:=hid l2;have Q2:=hid q2;have P2:=hid p2;have G2:=hid f2';have Z1:=hid (show w.heap.size≤w2.heap.size from Nat.le_trans Z0.out f2'.size);clear b2 l2 q2 p2 f2 f2';go_wp2;rw[rounds_succ];go_wp2
 go_region_with (go_at_call 72;refine(WB.out _ _ _ _ (n / 256) _ B2.out.drew (by first|omega|(simp;omega)) (Nat.le_trans hB Z1.out) E2.out).mono ?_;rintro e w3 ⟨rfl,o3,s3,b3,l3,q3,p3,f3⟩)
 have f3':Fr (g :: o2.toList) w2 w3:=⟨f3.os,f3.tape,f3.output,f3.size,f3.block⟩;have B3:=hid b3;have L3:=hid l3;have Q3:=hid q3;have P3:=hid p3;have G3:=hid f3';have Z2:=hid (show w.heap.size≤w3.heap.size from Nat.le_trans Z1.out f3'.size);clear b3 l3 q3 p3 f3 f3';go_wp2;rw[rounds_succ];go_wp2
 go_region_with (go_at_call 72;refine(WB.out _ _ _ _ n _ B3.out.drew (by first|omega|(simp;omega)) (Nat.le_trans hB Z2.out) E3.out).mono ?_;rintro e w4 ⟨rfl,o4,s4,b4,l4,q4,p4,f4⟩)
 have f4':Fr (g :: o3.toList) w3 w4:=⟨f4.os,f4.tape,f4.output,f4.size,f4.block⟩;have B4:=hid b4;have L4:=hid l4;have Q4:=hid q4;have P4:=hid p4;have G4:=hid f4';clear b4 l4 q4 p4 f4 f4';go_wp2;rw[rounds_succ];go_wp2
 go_end0
 have h4:Wrote 134 g 0 base own cs ((((l++[z11 (n / 16777216)])++[z11 (n / 65536)])++[z11 (n / 256)])++[z11 n]) w w4:=
  Wrote.next L1.out Q1.out P1.out G1.out (Wrote.next L2.out Q2.out P2.out G2.out (Wrote.next L3.out Q3.out P3.out G3.out ⟨_,_,B4.out,L4.out,Q4.out,P4.out,G4.out⟩))
 refine⟨rfl,?_⟩;simpa[z2i] using h4
theorem z0s(s:ByteArray):(z15 s).length=s.size+1:=by simp[z15]
theorem z2x(n:Nat):(z2i n).length=4:=rfl
theorem z4h{α:Type}(f:α→List UInt8)(b:Nat):∀(l:List α),(∀x∈l,(f x).length≤b)→(l.flatMap f).length≤l.length * b
 | [],_=>by simp
 | x :: l,h=>by
  have h1:=z4h f b l (fun y hy=>h y (by simp[hy]));have h2:=h x (by simp);rw[List.flatMap_cons,List.length_append,List.length_cons,Nat.succ_mul];omega
theorem z82{α:Type}(f:α→List UInt8){l:List α}{k:Nat}{x:α}(h:l[k]? = some x):(l.take (k+1)).flatMap f=(l.take k).flatMap f++f x:=by
 rw[List.take_add_one,h];simp
structure z4p(w:World)(cs:List Value)(l:List UInt8)(wr:World):Prop where
 box:Whole wr w.heap.size 46 cs
 bld:∃own ds,z2s 134 (w.heap.size+1) 0 (w.heap.size+1) own ds l wr
 fr:Fr [] w wr
theorem z4p.wrote{w wr w1:World}{cs:List Value}{own:Option Nat}{ds:List Value}{l m:List UInt8}(h:z4p w cs l wr)(hb:z2s 134 (w.heap.size+1) 0 (w.heap.size+1) own ds l wr)(hw:Wrote 134 (w.heap.size+1) 0 (w.heap.size+1) own ds m wr w1):z4p w cs m w1:=by
 obtain⟨o',d',b',_,_,_,f⟩:=hw;exact⟨hb.keep f h.box (by decide) (by decide),⟨o',d',b'⟩,h.fr.step f (fun k hk=>.inr (by have:=Wrote.of_base hb k hk;omega))⟩
theorem z2s.fr0{T g off base:Nat}{own:Option Nat}{cs:List Value}{m:List UInt8}{w w1:World}(h:z2s T g off base own cs m w)(hf:Fr [] w w1):z2s T g off base own cs m w1:=by
 obtain⟨v,hv,hown,hob⟩:=h.buf;exact⟨h.whole.fr hf (by simp),h.addr,⟨v,hv,z05 hown hf (fun k _=>by simp),hob⟩,h.base,h.ne,h.lies⟩
theorem z4p.fr0{w wr w1:World}{cs:List Value}{l:List UInt8}(h:z4p w cs l wr)(hf:Fr [] wr w1):z4p w cs l w1:=by
 obtain⟨o,d,b⟩:=h.bld;exact⟨h.box.fr hf (by simp),⟨o,d,b.fr0 hf⟩,h.fr.trans hf⟩
theorem Wrote.keep{T g off base:Nat}{own:Option Nat}{cs:List Value}{l m:List UInt8}{w w1:World}(hb:z2s T g off base own cs l w)(hw:Wrote T g off base own cs m w w1){b T':Nat}{ds:List Value}(h:Whole w b T' ds)(h1:T'≠T)(h2:T'≠5):Whole w1 b T' ds:=by
 obtain⟨_,_,_,_,_,_,f⟩:=hw;exact hb.keep f h h1 h2
theorem z4p.start(w:World)(cs:List Value):z4p w cs [] ((w.alloc (.cells cs.toArray 46)).alloc (.cells #[.pointer none,.slice none 0 0] 134)):=by
 refine⟨(Whole.new w _ _).alloc _,⟨none,[.pointer none,.slice none 0 0],⟨?_,.inl rfl,⟨.slice none 0 0,rfl,⟨rfl,.inl ⟨rfl,rfl⟩⟩,rfl⟩,Nat.le_refl _,by decide,by kernel_rfl⟩⟩,((Fr.refl [] w).alloc _).alloc _⟩;have:=Whole.new (w.alloc (.cells cs.toArray 46)) 134 [.pointer none,.slice none 0 0];simpa using this
theorem zgh(x:Itm)(v:Value)(w:World)(B:Nat)(hx:z8m x)(h:z1m w B v x)(hk:x.kind=1):
  Calls prog 44 #[v] w fun e w'=>e=.returned (.string ⟨(z0w x).toArray⟩)∧Fr [] w w':=by
 obtain⟨A1,c1,A2,c2,A3,c3,rfl,h1,h2,h3⟩:=h;have hE:z0w x=[z11 1]++x.text.data.toList:=by unfold z0w;rw[if_pos hk,hk];rfl
 have S0:=z4p.start w [.int .i64 x.kind,.string x.text,.slice A1 x.list.length c1,.slice A2 x.pairs.length c2,.slice A3 x.scores.length c3];rw[hk] at S0 ⊢;have ht:=hx.text;have HE:=hid hE;clear h1 h2 h3 hE hk hx;generalize x.text=t at *;generalize z0w x=E at *;generalize x.list.length=n1 at *;generalize x.pairs.length=n2 at *;generalize x.scores.length=n3 at *;obtain⟨d0,d1,d2,d3,d4⟩:=five S0.box;obtain⟨own,ds,b0⟩:=S0.bld;have W1:=hid (fun W (hW:z2s 134 (w.heap.size+1) 0 (w.heap.size+1) own ds [] W) (hz:w.heap.size+1≤W.heap.size)=>z2y (z11 1) hW (by simp) hz);rw[show((z11 1).toNat:Int)=1 from rfl] at W1;have B0:=hid b0;have HS:=hid S0;clear b0 S0;go_enter Tryz.func44,Tryz.ntmps44;go_wp2
 go_region_with (go_at_call 72;go_must (refine(W1.out _ B0.out.drew (by simp)).mono ?_;rintro e w1 ⟨rfl,hw1⟩))
 have S1:=HS.out.wrote B0.out hw1.drew;rw[List.nil_append] at S1;clear d0 d1 d2 d3 d4 hw1;obtain⟨d0,d1,d2,d3,d4⟩:=five S1.box;obtain⟨own1,ds1,b1⟩:=S1.bld;have W2:=hid (fun W (hW:z2s 134 (w.heap.size+1) 0 (w.heap.size+1) own1 ds1 [z11 1] W) (hz:w.heap.size+1≤W.heap.size)=>z4s t hW (by simp;omega) hz);have B1:=hid b1;have HS1:=hid S1;have Z1:w.heap.size+1≤w1.heap.size:=by have:=b1.whole.lt;omega
 clear b1 S1;go_wp2
 go_region_with (go_at_call 73;go_must (refine(W2.out _ B1.out.drew Z1).mono ?_;rintro e w2 ⟨rfl,hw2⟩))
 have S2:=HS1.out.wrote B1.out hw2.drew;clear d0 d1 d2 d3 d4 hw2;obtain⟨own2,ds2,b2⟩:=S2.bld;have T:=hid (z9l b2 (by simp));have F2:=hid S2.fr;have HB2:=hid (Wrote.of_base b2);clear b2 S2;go_wp2_with fail;refine T.out.mono ?_;rintro e w3 ⟨rfl,f3⟩;go_wp2;go_ret;rw[HE.out];exact⟨rfl,F2.out.step f3 (fun k hk=>.inr (by have:=HB2.out k (List.mem_cons_of_mem _ hk);omega))⟩
theorem zkb{n:Int}(h:z17 n=true):n+999999999=(((n+999999999).toNat:Nat):Int)∧(n+999999999).toNat < 4294967296:=by
 simp only[z17,Bool.and_eq_true,decide_eq_true_eq] at h;omega
theorem zgq(x:Itm)(v:Value)(w:World)(B:Nat)(hs:x.Small)(hB:B≤w.heap.size)(hx:z8m x)(h:z1m w B v x)(hk:x.kind≠1):
  Calls prog 44 #[v] w fun e w'=>e=.returned (.string ⟨(z0w x).toArray⟩)∧Fr [] w w':=by
 have M:=hid (fun W (hf:Fr [] w W)=>zab x v W B hs (h.fr hf hB (by simp)));obtain⟨A1,c1,A2,c2,A3,c3,rfl,h1,h2,h3⟩:=h;have hE:z0w x=([z11 x.kind.toNat]++[z11 (many x)])++x.list.flatMap z15++x.pairs.flatMap z18++x.scores.flatMap z13:=by unfold z0w;rw[if_neg hk];simp
 have S0:=z4p.start w [.int .i64 x.kind,.string x.text,.slice A1 x.list.length c1,.slice A2 x.pairs.length c2,.slice A3 x.scores.length c3];have hm:=hx.many;have l1:x.list.length≤24:=by unfold many at hm;omega
 have l2:x.pairs.length≤24:=by unfold many at hm;omega
 have l3:x.scores.length≤24:=by unfold many at hm;omega
 obtain⟨hk1,hk2⟩:=hx.kind;have k1:(x.kind==1)=false:=by simpa using hk
 have EK:=hid (show IntKind.u8.wrap x.kind=((z11 x.kind.toNat).toNat:Int) by have:=zgn x.kind.toNat;rw[show((x.kind.toNat:Nat):Int)=x.kind by omega] at this;exact this);have EM:=hid (zgn (many x));have HE:=hid hE;have HX:=hid hx;have H1:=hid h1;have H2:=hid h2;have H3:=hid h3;clear h1 h2 h3 hE hk hx hs;obtain⟨d0,d1,d2,d3,d4⟩:=five S0.box;obtain⟨own,ds,b0⟩:=S0.bld;have WB:=hid (fun W own' ds' (l':List UInt8) (k:Nat) (v:Int) (hW:z2s 134 (w.heap.size+1) 0 (w.heap.size+1) own' ds' l' W) (hl':l'.length≤100003) (hz:w.heap.size+1≤W.heap.size) (hv:v=((z11 k).toNat:Int))=>(show Calls prog 72 #[.pointer (some ⟨w.heap.size+1,0,none⟩),.int .u8 v] W _ from hv ▸ z2y (z11 k) hW (by omega) hz));have B0:=hid b0;have HS:=hid S0;clear b0 S0;go_enter Tryz.func44,Tryz.ntmps44;go_wp2
 go_region_with (go_at_call 72;have hq:=WB.out _ _ _ [] x.kind.toNat (IntKind.u8.wrap x.kind) B0.out.drew (by simp) (by simp) EK.out;refine hq.mono ?_;clear hq;rintro e w1 ⟨rfl,hw1⟩)
 have S1:=HS.out.wrote B0.out hw1.drew;rw[List.nil_append] at S1;clear d0 d1 d2 d3 d4 hw1;obtain⟨d0,d1,d2,d3,d4⟩:=five S1.box;obtain⟨own1,ds1,b1⟩:=S1.bld;have B1:=hid b1;have HS1:=hid S1;have Z1:w.heap.size+1≤w1.heap.size:=by have:=b1.whole.lt;omega
 clear b1 S1;go_wp2
 go_region_with (first
  | (go_at_call 75;have hq:=M.out _ HS1.out.fr.drew;refine hq.mono ?_;clear hq;rintro e w2 ⟨rfl,f2⟩;have f2':Fr [] w1 w2:=⟨f2.os,f2.tape,f2.output,f2.size,f2.block⟩;have Z2:w.heap.size+1≤w2.heap.size:=Nat.le_trans Z1 f2'.size;have B2:=hid (B1.out.fr0 f2');have HS2:=hid (HS1.out.fr0 f2');clear f2 f2')
  | (go_at_call 72;have hq:=WB.out _ _ _ [z11 x.kind.toNat] (many x) (IntKind.u8.wrap ((many x:Nat):Int)) B2.out (by simp) Z2 EM.out;refine hq.mono ?_;clear hq;rintro e w3 ⟨rfl,hw3⟩))
 have S3:=HS2.out.wrote B2.out hw3;clear d0 d1 d2 d3 d4 hw3;obtain⟨d0,d1,d2,d3,d4⟩:=five S3.box;have HS3:=hid S3;clear S3;have P0:=hid (show([z11 x.kind.toNat]++[z11 (many x)]).length=2 from rfl);generalize [z11 x.kind.toNat]++[z11 (many x)]=p0 at *;clear B0 HS B1 HS1 B2 HS2 Z1 Z2 EK EM WB M;go_wp2;clear d0 d1 d2 d3 d4;go_loopg [42] x.list.length (fun g i wr=>∃(m:Nat),g=x.list.length - m∧i=.int .i64 m∧m≤x.list.length∧z4p w [.int .i64 x.kind,.string x.text,.slice A1 x.list.length c1,.slice A2 x.pairs.length c2,.slice A3 x.scores.length c3] (p0++(x.list.take m).flatMap z15) wr)
 case atStart=>exact⟨0,rfl,rfl,Nat.zero_le _,by simpa using HS3.out⟩
 clear HS3
 case round=>
 obtain⟨m,rfl,rfl,hm1,hS⟩:=hrel;have HS:=hid hS;obtain⟨d0,d1,d2,d3,d4⟩:=five hS.box;clear hS;by_cases hlt:m < x.list.length
 ·obtain⟨b,off,e,hb,hc,hmx,hcell⟩:=H1.out.at_ (by omega);obtain⟨s,hs⟩:∃s,x.list[m]? = some s:=⟨_,List.getElem?_eq_getElem hlt⟩;have hc1:wr.cell? ⟨b,off+m,none⟩=some (.string s):=HS.out.fr.cell (hcell m _ (z0x _ m s hs)) (by simp);have hs60:=HX.out.texts s (List.mem_of_getElem? hs)
  have hlen:(p0++(x.list.take m).flatMap z15).length≤100000:=by
   have:=z4h z15 61 (x.list.take m) (fun y hy=>by rw[z0s];have:=HX.out.texts y (List.mem_of_mem_take hy);omega);have h2:=List.length_take_le m x.list;rw[List.length_append,P0.out];have:(x.list.take m).length * 61≤24 * 61:=Nat.mul_le_mul_right _ (by omega);omega
  obtain⟨own,ds,b0⟩:=HS.out.bld;have TX:=hid (z2m s b0 hs60 hlen (by have:=b0.whole.lt;omega));have TK:=hid (z82 z15 hs);have BL:=hid b0;have HEQ:=e;subst HEQ;clear hcell hs b0 hlen;go_wp2_with fail;refine TX.out.mono ?_;rintro e w4 ⟨rfl,hw4⟩;have S4:=HS.out.wrote BL.out hw4;rw[List.append_assoc,←TK.out] at S4;have HS4:=hid S4;clear S4 hw4 d0 d1 d2 d3 d4;go_wp2;go_roundg (x.list.length - (m+1))
  case measure=>omega
  case rel=>exact⟨m+1,rfl,by simp,by omega,HS4.out⟩
 have HSa:=hid (show z4p w [.int .i64 x.kind,.string x.text,.slice A1 x.list.length c1,.slice A2 x.pairs.length c2,.slice A3 x.scores.length c3] (p0++x.list.flatMap z15) wr by have:=HS.out;rw[List.take_of_length_le (by omega)] at this;exact this);clear HS;go_wp2;clear d0 d1 d2 d3 d4 hlt hm1
 have HP:=hid (show(p0++x.list.flatMap z15).length≤10000 by
  have:=z4h z15 61 x.list (fun y hy=>by rw[z0s];have:=HX.out.texts y hy;omega);rw[List.length_append,P0.out];have:x.list.length * 61≤24 * 61:=Nat.mul_le_mul_right _ (by omega);omega)
 clear P0;generalize p0++x.list.flatMap z15=p1 at *;go_loopg [53] x.pairs.length (fun g i wr=>∃(m:Nat),g=x.pairs.length - m∧i=.int .i64 m∧m≤x.pairs.length∧z4p w [.int .i64 x.kind,.string x.text,.slice A1 x.list.length c1,.slice A2 x.pairs.length c2,.slice A3 x.scores.length c3] (p1++(x.pairs.take m).flatMap z18) wr)
 case atStart=>exact⟨0,rfl,rfl,Nat.zero_le _,by simpa using HSa.out⟩
 clear HSa
 case round=>
 obtain⟨m,rfl,rfl,hm1,hS⟩:=hrel;have HS:=hid hS;obtain⟨d0,d1,d2,d3,d4⟩:=five hS.box;clear hS;by_cases hlt:m < x.pairs.length
 ·obtain⟨b,off,e,hb,hc,hmx,hcell⟩:=H2.out.at_ (by omega);obtain⟨s,hs⟩:∃s,x.pairs[m]? = some s:=⟨_,List.getElem?_eq_getElem hlt⟩;have hc1:wr.cell? ⟨b,off+2 * m,none⟩=some (.string s.1):=HS.out.fr.cell (hcell _ _ (z0j _ m s hs).1) (by simp);have hc2:wr.cell? ⟨b,off+2 * m+1,none⟩=some (.string s.2):=HS.out.fr.cell (hcell _ _ (z0j _ m s hs).2) (by simp);rw[Nat.mul_comm 2 m] at hc1 hc2;have hs60:=HX.out.fields s (List.mem_of_getElem? hs)
  have hlen:(p1++(x.pairs.take m).flatMap z18).length≤90000:=by
   have:=z4h z18 130 (x.pairs.take m) (fun y hy=>by have:=HX.out.fields y (List.mem_of_mem_take hy);simp only[z18,List.length_append,z0s,z2x];omega);have h2:=List.length_take_le m x.pairs;rw[List.length_append];have:(x.pairs.take m).length * 130≤24 * 130:=Nat.mul_le_mul_right _ (by omega);have:=HP.out;omega
  obtain⟨own,ds,b0⟩:=HS.out.bld;have FA:Fr [] wr (wr.alloc (.cells #[.string s.1,.string s.2] 108)):=(Fr.refl [] wr).alloc _;have BA:=hid (b0.fr0 FA);have SA:=hid (HS.out.fr0 FA);have WA:=hid (show Whole (wr.alloc (.cells #[.string s.1,.string s.2] 108)) wr.heap.size 108 [.string s.1,.string s.2] from Whole.new wr _ _);have TK:=hid (z82 z18 hs);have HB:=hid (show w.heap.size+1≤wr.heap.size by have:=b0.whole.lt;omega);have T1:=hid (z2m s.1 BA.out hs60.1 (by omega) (by have:=HB.out;simp;omega));have HEQ:=e;subst HEQ;clear hcell hs b0 FA;go_wp2_with fail;refine T1.out.mono ?_;rintro e w4 ⟨rfl,hw4⟩;have S4:=hid (SA.out.wrote BA.out hw4);have W4:=hid (Wrote.keep BA.out hw4 WA.out (by decide) (by decide));have pc:w4.cell? ⟨wr.heap.size,1,none⟩=some (.string s.2):=W4.out.cell 1;have HZ4:=hid (show w.heap.size+1≤w4.heap.size by obtain⟨_,_,q⟩:=S4.out.bld;have:=q.whole.lt;omega);obtain⟨own2,ds2,b2⟩:=S4.out.bld;have T2:=hid (z2m s.2 b2 hs60.2 (by rw[List.length_append,z0s];omega) HZ4.out);have B2:=hid b2;clear b2 hw4 d0 d1 d2 d3 d4;obtain⟨d0,d1,d2,d3,d4⟩:=five S4.out.box;go_wp2_with fail;refine T2.out.mono ?_;rintro e w5 ⟨rfl,hw5⟩;have S5:=S4.out.wrote B2.out hw5;rw[List.append_assoc,List.append_assoc] at S5;have HS5:=hid (show z4p w [.int .i64 x.kind,.string x.text,.slice A1 x.list.length c1,.slice (some ⟨b,off,none⟩) x.pairs.length c2,.slice A3 x.scores.length c3] (p1++(x.pairs.take (m+1)).flatMap z18) w5 by rw[TK.out];exact S5);clear S5 hw5 d0 d1 d2 d3 d4 pc;go_wp2;go_roundg (x.pairs.length - (m+1))
  case measure=>omega
  case rel=>exact⟨m+1,rfl,by simp,by omega,HS5.out⟩
 have HSa:=hid (show z4p w [.int .i64 x.kind,.string x.text,.slice A1 x.list.length c1,.slice A2 x.pairs.length c2,.slice A3 x.scores.length c3] (p1++x.pairs.flatMap z18) wr by have:=HS.out;rw[List.take_of_length_le (by omega)] at this;exact this);clear HS;go_wp2;clear d0 d1 d2 d3 d4 hlt hm1
 have HP2:=hid (show(p1++x.pairs.flatMap z18).length≤20000 by
  have:=z4h z18 130 x.pairs (fun y hy=>by have:=HX.out.fields y hy;simp only[z18,List.length_append,z0s];omega);have h3:=HP.out;rw[List.length_append];have:x.pairs.length * 130≤24 * 130:=Nat.mul_le_mul_right _ (by omega);omega)
 clear HP;have HP:=HP2;clear HP2;have HE2:=hid (show z0w x=(p1++x.pairs.flatMap z18)++x.scores.flatMap z13 from HE.out);clear HE;generalize p1++x.pairs.flatMap z18=p2 at *;go_loopg [69] x.scores.length (fun g i wr=>∃(m:Nat),g=x.scores.length - m∧i=.int .i64 m∧m≤x.scores.length∧z4p w [.int .i64 x.kind,.string x.text,.slice A1 x.list.length c1,.slice A2 x.pairs.length c2,.slice A3 x.scores.length c3] (p2++(x.scores.take m).flatMap z13) wr)
 case atStart=>exact⟨0,rfl,rfl,Nat.zero_le _,by simpa using HSa.out⟩
 clear HSa
 case round=>
 obtain⟨m,rfl,rfl,hm1,hS⟩:=hrel;have HS:=hid hS;obtain⟨d0,d1,d2,d3,d4⟩:=five hS.box;clear hS;by_cases hlt:m < x.scores.length
 ·obtain⟨b,off,e,hb,hc,hmx,hcell⟩:=H3.out.at_ (by omega);obtain⟨s,hs⟩:∃s,x.scores[m]? = some s:=⟨_,List.getElem?_eq_getElem hlt⟩;have hc1:wr.cell? ⟨b,off+2 * m,none⟩=some (.int .i64 s.1):=HS.out.fr.cell (hcell _ _ (z0f _ m s hs).1) (by simp);have hc2:wr.cell? ⟨b,off+2 * m+1,none⟩=some (.string s.2):=HS.out.fr.cell (hcell _ _ (z0f _ m s hs).2) (by simp);rw[Nat.mul_comm 2 m] at hc1 hc2;have hs60:=HX.out.members s (List.mem_of_getElem? hs)
  have hlen:(p2++(x.scores.take m).flatMap z13).length≤90000:=by
   have:=z4h z13 130 (x.scores.take m) (fun y hy=>by have:=HX.out.members y (List.mem_of_mem_take hy);simp only[z13,List.length_append,z0s,z2x];omega);have h2:=List.length_take_le m x.scores;rw[List.length_append];have:(x.scores.take m).length * 130≤24 * 130:=Nat.mul_le_mul_right _ (by omega);have:=HP.out;omega
  obtain⟨own,ds,b0⟩:=HS.out.bld;have FA:Fr [] wr (wr.alloc (.cells #[.int .i64 s.1,.string s.2] 110)):=(Fr.refl [] wr).alloc _;have BA:=hid (b0.fr0 FA);have SA:=hid (HS.out.fr0 FA);have WA:=hid (show Whole (wr.alloc (.cells #[.int .i64 s.1,.string s.2] 110)) wr.heap.size 110 [.int .i64 s.1,.string s.2] from Whole.new wr _ _);have TK:=hid (z82 z13 hs);have HB:=hid (show w.heap.size+1≤wr.heap.size by have:=b0.whole.lt;omega);obtain⟨hn1,hn2⟩:=zkb hs60.1;have N1:=z7j (s.1+999999999).toNat BA.out hn2 (by omega) (by have:=HB.out;simp;omega);rw[←hn1] at N1;have T1:=hid N1;have wn:IntKind.i64.wrap (s.1+999999999)=s.1+999999999:=IntWalk.i64_in _ (by omega);clear N1 hn1;have HEQ:=e;subst HEQ;clear hcell hs b0 FA;go_wp2_with fail;refine T1.out.mono ?_;rintro e w4 ⟨rfl,hw4⟩;have S4:=hid (SA.out.wrote BA.out hw4);have W4:=hid (Wrote.keep BA.out hw4 WA.out (by decide) (by decide));have pc:w4.cell? ⟨wr.heap.size,1,none⟩=some (.string s.2):=W4.out.cell 1;have HZ4:=hid (show w.heap.size+1≤w4.heap.size by obtain⟨_,_,q⟩:=S4.out.bld;have:=q.whole.lt;omega);obtain⟨own2,ds2,b2⟩:=S4.out.bld;have T2:=hid (z2m s.2 b2 hs60.2 (by rw[List.length_append,z2x];omega) HZ4.out);have B2:=hid b2;clear b2 hw4 d0 d1 d2 d3 d4;obtain⟨d0,d1,d2,d3,d4⟩:=five S4.out.box;go_wp2_with fail;refine T2.out.mono ?_;rintro e w5 ⟨rfl,hw5⟩;have S5:=S4.out.wrote B2.out hw5;rw[List.append_assoc,List.append_assoc] at S5;have HS5:=hid (show z4p w [.int .i64 x.kind,.string x.text,.slice A1 x.list.length c1,.slice A2 x.pairs.length c2,.slice (some ⟨b,off,none⟩) x.scores.length c3] (p2++(x.scores.take (m+1)).flatMap z13) w5 by rw[TK.out];exact S5);clear S5 hw5 d0 d1 d2 d3 d4 pc;go_wp2;go_roundg (x.scores.length - (m+1))
  case measure=>omega
  case rel=>exact⟨m+1,rfl,by simp,by omega,HS5.out⟩
 have HSa:=hid (show z4p w [.int .i64 x.kind,.string x.text,.slice A1 x.list.length c1,.slice A2 x.pairs.length c2,.slice A3 x.scores.length c3] (p2++x.scores.flatMap z13) wr by have:=HS.out;rw[List.take_of_length_le (by omega)] at this;exact this);clear HS
 have hne:p2++x.scores.flatMap z13≠[]:=by
  rw[←HE2.out];unfold z0w;simp
 obtain⟨own,ds,b0⟩:=HSa.out.bld;have T:=hid (z9l b0 hne);have F2:=hid HSa.out.fr;have HB2:=hid (Wrote.of_base b0);clear b0 hne;go_wp2_with fail;refine T.out.mono ?_;rintro e w9 ⟨rfl,f9⟩;go_wp2;go_ret;rw[HE2.out];exact⟨rfl,F2.out.step f9 (fun k hk=>.inr (by have:=HB2.out k (List.mem_cons_of_mem _ hk);omega))⟩
theorem zgi(x:Itm)(v:Value)(w:World)(B:Nat)(hs:x.Small)(hB:B≤w.heap.size)(hx:z8m x)(h:z1m w B v x):
  Calls prog 44 #[v] w fun e w'=>e=.returned (.string ⟨(z0w x).toArray⟩)∧Fr [] w w':=by
 by_cases hk:x.kind=1
 ·exact zgh x v w B hx h hk
 ·exact zgq x v w B hs hB hx h hk
def z66(x:Itm):ByteArray:=if z08 x=0 then ⟨(z0w x).toArray⟩ else ByteArray.empty
end Go.Proofs.YtmkhmejempcimaaGreatDoor
namespace Go.Proofs.YtmkhmejempcimaaGreatDoor
open Lib (hid)
open Go.Proofs.Tryz (prog)
theorem zao{s t:ByteArray}(h:s.data.toList=t.data.toList):s=t:=by rw[←zf8 s,←zf8 t,h]
theorem z1y(s:ByteArray)(a b:Nat):(s.extract a b).data.toList=(s.data.toList.drop a).take (b - a):=by
 simp only[ByteArray.data_extract,Array.toList_extract,List.extract_eq_take_drop]
theorem zl7(l m:List UInt8):(toB (l++m)).extract 0 l.length=toB l:=by
 apply zao;rw[z1y,z55,z55];simp
theorem zak(l m:List UInt8):(toB (l++m)).extract l.length (toB (l++m)).size=toB m:=by
 apply zao;rw[z1y,z55,z55,z3j];simp
theorem zjd(l m:List UInt8):zc3 l.length (toB (l++m))=some (toB l,toB m):=by
 unfold zc3;rw[if_neg (by rw[z3j];simp),zl7,zak]
theorem z9s(c:UInt8)(l:List UInt8):z84 (toB (c :: l))=some (c.toNat,toB l):=by
 unfold z84;rw[if_neg (by rw[z3j];simp)];have:=zak [c] l;rw[show([c]:List UInt8).length=1 from rfl] at this;rw[show c :: l=[c]++l from rfl,this];rfl
theorem zac{n:Nat}(h:n < 256):(z11 n).toNat=n:=by rw[z1u];omega
theorem z5u(s:ByteArray)(m:List UInt8)(hs:s.size < 256):z28 (toB (z15 s++m))=some (s,toB m):=by
 unfold z28 z15;rw[List.cons_append,z9s,Option.bind_some,zac hs];have:=zjd s.data.toList m;rw[zf8,show s.data.toList.length=s.size by simp] at this;exact this
theorem zia(n:Nat)(m:List UInt8)(hn:n < 4294967296):z87 (toB (z2i n++m))=some (n,toB m):=by
 unfold z87;rw[if_neg (by rw[z3j];simp[z2i])];have h1:=zak (z2i n) m;rw[show(z2i n).length=4 from rfl] at h1;rw[h1];have b0:z0d (toB (z2i n++m)) 0=n / 16777216 % 256:=by rw[toB,z5t];simp[z2i,z1u]
 have b1:z0d (toB (z2i n++m)) 1=n / 65536 % 256:=by rw[toB,z5t];simp[z2i,z1u]
 have b2:z0d (toB (z2i n++m)) 2=n / 256 % 256:=by rw[toB,z5t];simp[z2i,z1u]
 have b3:z0d (toB (z2i n++m)) 3=n % 256:=by rw[toB,z5t];simp[z2i,z1u]
 rw[b0,b1,b2,b3];congr 2;omega
theorem z7b(k:Int)(e:ByteArray)(ps:List (ByteArray×ByteArray))(sc:List (Int×ByteArray))(k4:k≠4)(k5:k≠5)(rest:List UInt8):∀(l acc:List ByteArray),(∀s∈l,s.size < 256) →
  z1e l.length ⟨k,e,acc,ps,sc⟩ (toB (l.flatMap z15++rest))=some (⟨k,e,acc++l,ps,sc⟩,toB rest)
 | [],acc,_=>by simp[z1e]
 | s :: l,acc,h=>by
  rw[List.length_cons,z1e,List.flatMap_cons,List.append_assoc];unfold z2u;rw[if_neg k4,if_neg k5,z5u s _ (h s (by simp)),Option.map_some,Option.bind_some,z7b k e ps sc k4 k5 rest l (acc++[s]) (fun t ht=>h t (by simp[ht]))];simp
theorem z6g(e:ByteArray)(li:List ByteArray)(sc:List (Int×ByteArray))(rest:List UInt8):∀(l acc:List (ByteArray×ByteArray)),(∀p∈l,p.1.size < 256∧p.2.size < 256) →
  z1e l.length ⟨4,e,li,acc,sc⟩ (toB (l.flatMap z18++rest))=some (⟨4,e,li,acc++l,sc⟩,toB rest)
 | [],acc,_=>by simp[z1e]
 | p :: l,acc,h=>by
  rw[List.length_cons,z1e,List.flatMap_cons,List.append_assoc];unfold z2u;rw[if_pos rfl];unfold z18;rw[List.append_assoc,z5u p.1 _ (h p (by simp)).1,Option.bind_some,z5u p.2 _ (h p (by simp)).2,Option.map_some,Option.bind_some];have:=z6g e li sc rest l (acc++[p]) (fun t ht=>h t (by simp[ht]));unfold z18 at this;rw[this];simp
theorem z5g(e:ByteArray)(li:List ByteArray)(ps:List (ByteArray×ByteArray))(rest:List UInt8):∀(l acc:List (Int×ByteArray)),(∀p∈l,z17 p.1=true∧p.2.size < 256) →
  z1e l.length ⟨5,e,li,ps,acc⟩ (toB (l.flatMap z13++rest))=some (⟨5,e,li,ps,acc++l⟩,toB rest)
 | [],acc,_=>by simp[z1e]
 | p :: l,acc,h=>by
  rw[List.length_cons,z1e,List.flatMap_cons,List.append_assoc];unfold z2u;rw[if_neg (show ¬(5:Int)=4 by decide),if_pos rfl];have hp:=h p (by simp);have hi:=hp.1;simp only[z17,Bool.and_eq_true,decide_eq_true_eq] at hi;unfold z13;rw[List.append_assoc,zia _ _ (by omega),Option.bind_some,z5u p.2 _ hp.2,Option.map_some,Option.bind_some];have:=z5g e li ps rest l (acc++[p]) (fun t ht=>h t (by simp[ht]));unfold z13 at this;have e2:(((p.1+999999999).toNat:Nat):Int) - 999999999=p.1:=by omega
  simp only[e2];rw[this];simp
theorem zng{x:Itm}(h:z8m x):z22 (toB (z0w x))=some x:=by
 have hb:=h.bare;have hk:=h.kind;have hm:=h.many;have hc:(z11 x.kind.toNat).toNat=x.kind.toNat:=zac (by omega);simp only[z4o,Bool.and_eq_true,Bool.or_eq_true,beq_iff_eq] at hb;unfold z22 z0w;rw[z9s,Option.bind_some,hc];by_cases h1:x.kind=1
 ·rw[if_pos h1,if_pos (by omega)];have l1:=List.eq_nil_of_length_eq_zero (show x.list.length=0 by omega);have l2:=List.eq_nil_of_length_eq_zero (show x.pairs.length=0 by omega);have l3:=List.eq_nil_of_length_eq_zero (show x.scores.length=0 by omega);cases x
  simp_all [z2l,zf8]
 ·rw[if_neg h1,if_neg (by omega),if_pos (by omega),z9s,Option.bind_some,zac (by omega)];have ht:x.text=ByteArray.empty:=zkf (by omega);have ek:((x.kind.toNat:Nat):Int)=x.kind:=by omega
  rw[ek];by_cases h4:x.kind=4
  ·have l1:=List.eq_nil_of_length_eq_zero (show x.list.length=0 by omega);have l3:=List.eq_nil_of_length_eq_zero (show x.scores.length=0 by omega);have e:many x=x.pairs.length:=by unfold many;rw[l1,l3];simp
   have:=z6g ByteArray.empty [] [] [] x.pairs [] (fun p hp=>by have:=h.fields p hp;omega);rw[e,l1,l3,h4];simp only[List.flatMap_nil,List.nil_append,List.append_nil] at this ⊢;rw[show z2l 4=⟨4,ByteArray.empty,[],[],[]⟩ from rfl,this,Option.bind_some,if_pos (by rw[z3j];rfl)];cases x
   simp_all
  ·by_cases h5:x.kind=5
   ·have l1:=List.eq_nil_of_length_eq_zero (show x.list.length=0 by omega);have l2:=List.eq_nil_of_length_eq_zero (show x.pairs.length=0 by omega);have e:many x=x.scores.length:=by unfold many;rw[l1,l2];simp
    have:=z5g ByteArray.empty [] [] [] x.scores [] (fun p hp=>by have:=h.members p hp;exact⟨this.1,by omega⟩);rw[e,l1,l2,h5];simp only[List.flatMap_nil,List.nil_append,List.append_nil] at this ⊢;rw[show z2l 5=⟨5,ByteArray.empty,[],[],[]⟩ from rfl,this,Option.bind_some,if_pos (by rw[z3j];rfl)];cases x
    simp_all
   ·have l2:=List.eq_nil_of_length_eq_zero (show x.pairs.length=0 by omega);have l3:=List.eq_nil_of_length_eq_zero (show x.scores.length=0 by omega);have e:many x=x.list.length:=by unfold many;rw[l2,l3];simp
    have:=z7b x.kind ByteArray.empty [] [] h4 h5 [] x.list [] (fun s hs=>by have:=h.texts s hs;omega);rw[e,l2,l3];simp only[List.flatMap_nil,List.nil_append,List.append_nil] at this ⊢;rw[show z2l x.kind=⟨x.kind,ByteArray.empty,[],[],[]⟩ from rfl,this,Option.bind_some,if_pos (by rw[z3j];rfl)];cases x
    simp_all
theorem zef(c:UInt8):z11 c.toNat=c:=by simp[z11]
theorem zfp{n:Nat}{s t r:ByteArray}(h:zc3 n s=some (t,r)):s.data.toList=t.data.toList++r.data.toList∧t.size=n:=by
 unfold zc3 at h;by_cases h1:s.size < n
 ·rw[if_pos h1] at h;cases h
 ·rw[if_neg h1] at h;cases h;refine⟨?_,by simp;omega⟩;rw[z1y,z1y];have hl:s.data.toList.length=s.size:=by simp
  rw[List.take_of_length_le (l:=List.drop n s.data.toList) (by simp)];simp
theorem z7z{n:Nat}{s r:ByteArray}(h:z84 s=some (n,r)):s.data.toList=z11 n :: r.data.toList∧n < 256:=by
 unfold z84 at h;by_cases h1:s.size < 1
 ·rw[if_pos h1] at h;cases h
 ·rw[if_neg h1] at h;cases h;refine⟨?_,z1r s 0⟩;have hl:s.data.toList.length=s.size:=by simp
  rw[z1y]
  match hs:s.data.toList with
  | []=>rw[hs] at hl;simp at hl;omega
  | c :: l=>
   have e:z0d s 0=c.toNat:=by unfold z0d;rw[hs];rfl
   rw[e,zef];rw[hs] at hl;simp at hl;simp;rw[List.take_of_length_le (by omega)]
theorem z59{s t r:ByteArray}(h:z28 s=some (t,r)):s.data.toList=z15 t++r.data.toList:=by
 unfold z28 at h;obtain⟨p,hp,h2⟩:=Option.bind_eq_some_iff.1 h;obtain⟨n,q⟩:=p;have h3:=z7z hp;obtain⟨h5,h6⟩:=zfp h2;simp only at h5 h6;rw[h3.1,h5,←h6];rfl
theorem zgj{n:Nat}{s r:ByteArray}(h:z87 s=some (n,r)):s.data.toList=z2i n++r.data.toList∧n < 4294967296:=by
 unfold z87 at h;by_cases h1:s.size < 4
 ·rw[if_pos h1] at h;cases h
 ·rw[if_neg h1] at h;cases h;have g0:=z1r s 0;have g1:=z1r s 1;have g2:=z1r s 2;have g3:=z1r s 3;refine⟨?_,by omega⟩;have hl:s.data.toList.length=s.size:=by simp
  rw[z1y]
  match hs:s.data.toList with
  | a :: b :: c :: d :: l=>
   have e0:z0d s 0=a.toNat:=by unfold z0d;rw[hs];rfl
   have e1:z0d s 1=b.toNat:=by unfold z0d;rw[hs];rfl
   have e2:z0d s 2=c.toNat:=by unfold z0d;rw[hs];rfl
   have e3:z0d s 3=d.toNat:=by unfold z0d;rw[hs];rfl
   rw[hs] at hl;simp at hl;rw[e0,e1,e2,e3];rw[e0] at g0;rw[e1] at g1;rw[e2] at g2;rw[e3] at g3
   have k0:z11 ((((a.toNat * 256+b.toNat) * 256+c.toNat) * 256+d.toNat) / 16777216)=a:=by
    rw[show(((a.toNat * 256+b.toNat) * 256+c.toNat) * 256+d.toNat) / 16777216=a.toNat by omega,zef]
   have mod:∀(n:Nat) (c:UInt8),n % 256=c.toNat→z11 n=c:=by
    intro n c h;apply UInt8.toNat.inj;rw[z1u,h]
   have k1:z11 ((((a.toNat * 256+b.toNat) * 256+c.toNat) * 256+d.toNat) / 65536)=b:=mod _ _ (by omega);have k2:z11 ((((a.toNat * 256+b.toNat) * 256+c.toNat) * 256+d.toNat) / 256)=c:=mod _ _ (by omega);have k3:z11 (((a.toNat * 256+b.toNat) * 256+c.toNat) * 256+d.toNat)=d:=mod _ _ (by omega);unfold z2i;rw[k0,k1,k2,k3];simp;rw[List.take_of_length_le (by omega)]
  | []=>rw[hs] at hl;simp at hl;omega
  | [a]=>rw[hs] at hl;simp at hl;omega
  | [a,b]=>rw[hs] at hl;simp at hl;omega
  | [a,b,c]=>rw[hs] at hl;simp at hl;omega
def z71(x:Itm):List UInt8:=x.list.flatMap z15++(x.pairs.flatMap z18++x.scores.flatMap z13)
def ziv(x:Itm):Prop:=x.text=ByteArray.empty∧(x.kind=4→x.list=[]∧x.scores=[])∧(x.kind=5→x.list=[]∧x.pairs=[])∧(x.kind≠4→x.kind≠5→x.pairs=[]∧x.scores=[])
theorem zd3{x x':Itm}{s r:ByteArray}(ho:ziv x)(h:z2u x s=some (x',r)):ziv x'∧x'.kind=x.kind∧many x'=many x+1∧z71 x++s.data.toList=z71 x'++r.data.toList:=by
 obtain⟨ot,o4,o5,oo⟩:=ho;unfold z2u at h;by_cases h4:x.kind=4
 ·rw[if_pos h4] at h;obtain⟨p,hp,h2⟩:=Option.bind_eq_some_iff.1 h;obtain⟨q,hq,h3⟩:=Option.map_eq_some_iff.1 h2;cases h3;have t1:=z59 hp;have t2:=z59 hq;obtain⟨a1,a2⟩:=o4 h4;refine⟨⟨ot,o4,(fun h=>absurd (h.symm.trans h4) (by decide)),fun h=>absurd h4 h⟩,rfl,by unfold many;simp;omega,?_⟩;rw[t1,t2];simp[z71,a1,a2,z18]
 ·rw[if_neg h4] at h;by_cases h5:x.kind=5
  ·rw[if_pos h5] at h;obtain⟨p,hp,h2⟩:=Option.bind_eq_some_iff.1 h;obtain⟨q,hq,h3⟩:=Option.map_eq_some_iff.1 h2;cases h3;have t1:=zgj hp;have t2:=z59 hq;obtain⟨a1,a2⟩:=o5 h5;refine⟨⟨ot,fun h=>absurd h h4,o5,fun _ h=>absurd h5 h⟩,rfl,by unfold many;simp;omega,?_⟩;have e2:((p.1:Int) - 999999999+999999999).toNat=p.1:=by omega
   rw[t1.1,t2];simp only[z71,a1,a2,z13,List.flatMap_append,List.flatMap_cons,List.flatMap_nil,e2];simp
  ·rw[if_neg h5] at h;obtain⟨p,hp,h3⟩:=Option.map_eq_some_iff.1 h;cases h3;have t1:=z59 hp;obtain⟨a1,a2⟩:=oo h4 h5;refine⟨⟨ot,fun h=>absurd h h4,fun h=>absurd h h5,oo⟩,rfl,by unfold many;simp;omega,?_⟩;rw[t1];simp[z71,a1,a2]
theorem z8n:∀(n:Nat) {x x':Itm} {s r:ByteArray},ziv x→z1e n x s=some (x',r)→ziv x'∧x'.kind=x.kind∧many x'=many x+n∧z71 x++s.data.toList=z71 x'++r.data.toList
 | 0,x,x',s,r,ho,h=>by
  rw[z1e] at h;cases h;exact⟨ho,rfl,rfl,rfl⟩
 | n+1,x,x',s,r,ho,h=>by
  rw[z1e] at h;obtain⟨p,hp,h2⟩:=Option.bind_eq_some_iff.1 h;obtain⟨y,q⟩:=p;obtain⟨a1,a2,a3,a4⟩:=zd3 ho hp;obtain⟨b1,b2,b3,b4⟩:=z8n n a1 h2;exact⟨b1,b2.trans a2,by omega,a4.trans b4⟩
theorem zn3{s:ByteArray}{x:Itm}(h:z22 s=some x):toB (z0w x)=s:=by
 apply zao;rw[z55];unfold z22 at h;obtain⟨p,hp,h2⟩:=Option.bind_eq_some_iff.1 h;obtain⟨n,r⟩:=p;obtain⟨e1,hn⟩:=z7z hp;rw[e1];by_cases h1:n=1
 ·rw[if_pos h1] at h2;subst h1;cases h2;rfl
 ·rw[if_neg h1] at h2;by_cases h3:2≤n∧n≤5
  ·rw[if_pos h3] at h2;obtain⟨q,hq,h4⟩:=Option.bind_eq_some_iff.1 h2;obtain⟨m,r2⟩:=q;obtain⟨e2,hm⟩:=z7z hq;obtain⟨z,hz,h5⟩:=Option.bind_eq_some_iff.1 h4;obtain⟨y,r3⟩:=z;by_cases h6:r3.size=0
   ·rw[if_pos h6] at h5;cases h5;have hnew:ziv (z2l n):=⟨rfl,fun _=>⟨rfl,rfl⟩,fun _=>⟨rfl,rfl⟩,fun _ _=>⟨rfl,rfl⟩⟩;obtain⟨b1,b2,b3,b4⟩:=z8n m hnew hz
    have hr3:r3.data.toList=[]:=by
     have:=zkf h6;rw[this]
    have hk:y.kind=n:=b2;have e3:y.kind.toNat=n:=by omega
    unfold z0w;rw[if_neg (show ¬y.kind=1 by omega),e3,e2];have hz0:many (z2l (n:Int))=0:=rfl;have hmany:many y=m:=by omega
    rw[hmany];rw[hr3] at b4;have:z71 (z2l n)=[]:=rfl;rw[this] at b4;simp only[List.nil_append,List.append_nil] at b4;rw[b4];rfl
   ·rw[if_neg h6] at h5;cases h5
  ·rw[if_neg h3] at h2;cases h2
end Go.Proofs.YtmkhmejempcimaaGreatDoor
namespace Go.Proofs.YtmkhmejempcimaaGreatDoor
open Lib (hid)
open Go.Proofs.Tryz (prog)
open Go.RowKit
attribute [local go_sem ↓] Go.wp_at_zero Go.wp_at_succ
theorem zmr{s:ByteArray}(h:z0u s=0):z08 (z06 s)=0∧z66 (z06 s)=s:=by
 cases hd:z22 s with
 | none=>unfold z0u at h;rw[hd] at h;cases h
 | some x=>
  have hc:z08 x=0:=by unfold z0u at h;rw[hd] at h;exact h
  have ha:=(zer hd hc).2;rw[ha];refine⟨hc,?_⟩;unfold z66;rw[if_pos hc];exact zn3 hd
theorem zok{x:Itm}(h:z08 x=0):z0u (z66 x)=0∧z06 (z66 x)=x:=by
 have e:z66 x=toB (z0w x):=by unfold z66;rw[if_pos h];rfl
 rw[e];exact zer (zng (z2c h)) h
theorem zlr{x:Itm}(h:z8m x):(⟨(z0w x).toArray⟩:ByteArray).size≤281474976710656:=by
 have hm:=h.many;unfold many at hm;have hs:(⟨(z0w x).toArray⟩:ByteArray).size=(z0w x).length:=z3j _;rw[hs];have h1:=z4h z15 61 x.list (fun y hy=>by rw[z0s];have:=h.texts y hy;omega);have h2:=z4h z18 130 x.pairs (fun y hy=>by have:=h.fields y hy;simp only[z18,List.length_append,z0s];omega);have h3:=z4h z13 130 x.scores (fun y hy=>by have:=h.members y hy;simp only[z13,List.length_append,z0s,z2x];omega);have ht:=h.text;have hl:x.text.data.toList.length=x.text.size:=by simp
 unfold z0w;split <;> simp only[List.length_cons,List.length_append] <;> omega
end Go.Proofs.YtmkhmejempcimaaGreatDoor
