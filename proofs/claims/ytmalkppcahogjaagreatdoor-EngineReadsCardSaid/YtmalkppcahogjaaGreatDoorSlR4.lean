/- Contracts; no condition but each theorem's own. -/
import Derived.Test.YtmalkppcahogjaaGreatDoorSlR3
import Derived.Sort.KeysCollected
set_option linter.unusedVariables false
set_option linter.unusedSimpArgs false
set_option maxHeartbeats 8000000
set_option maxRecDepth 100000
namespace Go.Proofs.YtmalkppcahogjaaGreatDoor
open Lib (hid)
open Go.Proofs.Tryz (prog)
open Go.RowKit
theorem zgp{x:Itm}(h:z02 3 x=0):rises ltS x.list=true∧x.list.length≤24:=by
 have k:=z1j h;have hm:=k.le24;refine⟨?_,by unfold many at hm;omega⟩;by_cases h0:x.kind=0
 ·have:=k.none h0;unfold many at this;rw[List.eq_nil_of_length_eq_zero (show x.list.length=0 by omega)];rfl
 ·have hk:x.kind=3:=by
   rcases k.kind with e|e
   ·exact absurd e h0
   ·exact e
  have hc:=k.some h0;unfold z0e at hc;rw[hk] at hc;rw[if_neg (by decide)] at hc;split at hc
  ·cases hc
  ·rw[if_neg (by decide)] at hc;split at hc
   ·cases hc
   ·split at hc
    ·cases hc
    ·split at hc
     ·cases hc
     ·rename_i hn;rcases hr:rises ltS x.list with _|_
      ·exact absurd (.inl ⟨rfl,hr⟩) hn
      ·rfl
theorem z7z(x:Itm)(v:Value)(w:World)(B:Nat)(hs:x.Small)(hB:B≤w.heap.size)(h:z0r w B v x):
  Calls prog 304 #[v] w fun e w'=>e=.returned (.int .i64 (z02 3 x))∧Fr [] w w':=by
 have M:=hid (fun W (hf:Fr [] w W)=>zi4 x 3 v W B hs (Nat.le_trans hB hf.size) (h.fr hf hB (by simp)));obtain⟨A1,c1,A2,c2,A3,c3,rfl,h1,h2,h3⟩:=h;have F1:Fr [] w (w.alloc (.cells #[.int .i64 x.kind,.string x.text,.slice A1 x.list.length c1,.slice A2 x.pairs.length c2,.slice A3 x.scores.length c3] 65)):=(Fr.refl [] w).alloc _;go_enter Tryz.func304,Tryz.ntmps304;go_wp2_with fail;refine(M.out _ F1).mono ?_;rintro e w1 ⟨rfl,f1⟩;go_wp2;go_ret;exact⟨rfl,F1.trans f1⟩
theorem zm9{S:List Nat}{w wr:World}{o:Nat}(h:Fr S w wr)(ho:w.heap.size≤o)(a b c d e:Value):Fr S w (zt1 wr o a b c d e):=
 ((((h.setCell (p:=⟨o,0,none⟩) (.inr ho) _).setCell (p:=⟨o,1,none⟩) (.inr ho) _).setCell (p:=⟨o,2,none⟩) (.inr ho) _).setCell (p:=⟨o,3,none⟩) (.inr ho) _).setCell (p:=⟨o,4,none⟩) (.inr ho) _
def zq0(y:Itm)(base:Nat)(v:Value)(w:World)(e:Ending)(w':World):Prop:=∃u,e=.returned u∧z0q w' base u y∧Fr (z2f v) w w'
theorem zhj(l:List ByteArray)(base:Nat)(v:Value)(w:World)(hl:l.length≤281474976710656)(ht:∀s∈l,s.size≤281474976710656)(hb:base≤w.heap.size)(h:w.ownsRow base 9 1 v l.length (z04 l)):
  Calls prog 305 #[v] w (zq0 (ofK 3 (z8j l)) base v w):=by
 have hul:=za1 l;have hut:∀s∈z8j l,s.size≤281474976710656:=fun s hs=>ht s (z8a.1 hs);have hsm:(zbu 3 (z8j l)).Small:=zj8 (by decide) (by omega) hut;have F0:=hid ((Fr.refl [] w).alloc (.cells #[.int .i64 0,.string ⟨#[]⟩,.slice none 0 0,.slice none 0 0,.slice none 0 0] 65));have B0:=hid (Whole.new w 65 [.int .i64 0,.string ⟨#[]⟩,.slice none 0 0,.slice none 0 0,.slice none 0 0]);have HO:=hid (z0p h F0.out (by simp))
 have hlt:∀k,k∈z2f v→k < w.heap.size:=fun k hk=>by
  unfold z2f at hk;split at hk
  ·simp at hk;subst hk;exact(h.lt _ rfl).2
  ·cases hk
 have HLT:=hid hlt;clear h hlt;go_enter Tryz.func305,Tryz.ntmps305;go_wp2_with fail;refine(zhh l base v _ hl HO.out).mono ?_;rintro e w1 ⟨rfl,ho1,g1⟩;have f1:=z3p g1;have F1:=hid ((F0.out.up (T:=z2f v)).step f1 (fun k hk=>.inl hk));have B1:=hid (B0.out.fr f1 (fun hm=>by have:=HLT.out _ hm;omega));have HO1:=hid (show w1.ownsRow base 9 1 v (z7b l).length (z04 (z7b l)) from by rw[z3i];exact ho1);clear ho1 g1 f1;go_wp2_with fail;refine(zr5 (z7b l) base v _ (by rw[z3i];exact hl) HO1.out).mono ?_;rintro e w2 ⟨v2,rfl,ho2,g2,hbl⟩;have f2:=z3p g2;have F2:=hid (F1.out.step f2 (fun k hk=>.inl hk));have B2:=hid (B1.out.fr f2 (fun hm=>by have:=HLT.out _ hm;omega));have HO2:=hid (show w2.ownsRow base 9 1 v2 (z8j l).length (z04 (z8j l)) from ho2);obtain⟨A2,c2,rfl,-⟩:=z05 HO2.out;clear ho2 g2 f2 hbl;have hv2:z0r w2 w2.heap.size (.agg #[.int .i64 3,.string ⟨#[]⟩,.slice A2 (z8j l).length c2,.slice none 0 0,.slice none 0 0]) (zbu 3 (z8j l)):=⟨A2,c2,none,0,none,0,rfl,z0s HO2.out,Sl.nil _ _ _,Sl.nil _ _ _⟩;have O:=hid (zm7 (zbu 3 (z8j l)) _ w2 w2.heap.size hsm (Nat.le_refl _) hv2 (show(3:Int)≠1 by decide));clear hv2 hsm;have hbs:base≤w2.heap.size:=Nat.le_trans hb F2.out.size
 have EO:=hid (show ofV (.agg #[.int .i64 3,.string ⟨#[]⟩,.slice A2 (z8j l).length c2,.slice none 0 0,.slice none 0 0]) (zbu 3 (z8j l))=if (z8j l).length=0 then .agg #[.int .i64 0,.string ⟨#[]⟩,.slice none 0 0,.slice none 0 0,.slice none 0 0] else .agg #[.int .i64 3,.string ⟨#[]⟩,.slice A2 (z8j l).length c2,.slice none 0 0,.slice none 0 0] from by
  unfold ofV;rw[show many (zbu 3 (z8j l))=(z8j l).length from by show(z8j l).length+0+0=(z8j l).length;omega])
 have EF:=hid (show ofK 3 (z8j l)=if (z8j l).length=0 then z2p 0 else zbu 3 (z8j l) from rfl);rw[EO.out] at O;clear EO;generalize z8j l=r at *;by_cases h0:r.length=0
 ·rw[if_pos h0] at O;have EG:=hid (EF.out.trans (if_pos h0));clear h0 EF;go_wp2_with fail;refine O.out.mono ?_;rintro e w3 ⟨rfl,f3⟩;have F3:=hid (F2.out.step (T:=[]) f3 (fun k hk=>by cases hk));have B3:=hid (B2.out.fr f3 (by simp));obtain⟨a0,a1,a2,a3,a4⟩:=five B3.out;obtain⟨b0,b2,b3,b4,b5⟩:=z12 B3.out;go_wp2;refine bodyPost_ret (v:=.agg #[.int .i64 0,.string ⟨#[]⟩,.slice none 0 0,.slice none 0 0,.slice none 0 0]) (by simp[results,Tryz.results305,go_sem,a0,a1,a2,a3,a4]) rfl ?_;exact⟨_,rfl,by rw[EG.out];exact z0q.nothing _ _,zm9 F3.out (Nat.le_refl _) _ _ _ _ _⟩
 ·rw[if_neg h0] at O;have EG:=hid (EF.out.trans (if_neg h0));clear h0 EF;go_wp2_with fail;refine O.out.mono ?_;rintro e w3 ⟨rfl,f3⟩;have F3:=hid (F2.out.step (T:=[]) f3 (fun k hk=>by cases hk));have B3:=hid (B2.out.fr f3 (by simp));have HO3:=hid (z0p HO2.out f3 (by simp));obtain⟨a0,a1,a2,a3,a4⟩:=five B3.out;obtain⟨b0,b2,b3,b4,b5⟩:=z12 B3.out;go_wp2;refine bodyPost_ret (v:=.agg #[.int .i64 3,.string ⟨#[]⟩,.slice A2 r.length c2,.slice none 0 0,.slice none 0 0]) (by simp[results,Tryz.results305,go_sem,a0,a1,a2,a3,a4]) rfl ?_;exact⟨_,rfl,by rw[EG.out];exact⟨_,_,_,rfl,zuu HO3.out B3.out (by decide) _ _ _ _ _,⟨rfl,.inl ⟨rfl,rfl⟩⟩,⟨rfl,.inl ⟨rfl,rfl⟩⟩⟩,zm9 F3.out (Nat.le_refl _) _ _ _ _ _⟩
theorem zbj(x:Itm)(v:Value)(s:ByteArray)(w:World)(B:Nat)(hs:x.Small)(hB:B≤w.heap.size)(h:z0r w B v x):
  Calls prog 255 #[v,.string s] w fun e w'=>e=.returned (.tuple #[.bool (decide (z02 3 x=0)&&z6s x.list s),.int .i64 (z02 3 x)])∧Fr [] w w':=by
 have RD:=hid (fun W (hf:Fr [] w W)=>z7z x v W B hs (Nat.le_trans hB hf.size) (h.fr hf hB (by simp)));obtain⟨A1,c1,A2,c2,A3,c3,rfl,h1,h2,h3⟩:=h;have H1:=hid h1;have F1:Fr [] w (w.alloc (.cells #[.int .i64 x.kind,.string x.text,.slice A1 x.list.length c1,.slice A2 x.pairs.length c2,.slice A3 x.scores.length c3] 65)):=(Fr.refl [] w).alloc _;have R1:=hid (Whole.new w 65 [.int .i64 x.kind,.string x.text,.slice A1 x.list.length c1,.slice A2 x.pairs.length c2,.slice A3 x.scores.length c3]);obtain⟨d0,d1,d2,d3,d4⟩:=five R1.out;have hsl:=hs.list;clear h1 h2 h3 hs;by_cases ha:z02 3 x=0
 ·have HA:=hid (fun W (hf:Fr [] w W)=>zey x.list s A1 c1 B W (zgp ha).1 hsl (Nat.le_trans hB hf.size) (H1.out.fr hf hB (by simp)));rw[ha] at RD ⊢;rw[decide_eq_true rfl,Bool.true_and];clear ha;generalize z6s x.list s=b at *;go_enter Tryz.func255,Tryz.ntmps255;go_wp2_with fail;refine(RD.out _ F1).mono ?_;rintro e w1 ⟨rfl,f1⟩;have F2:=F1.trans f1;have R2:=hid (R1.out.fr f1 (by simp));clear d0 d1 d2 d3 d4;obtain⟨d0,d1,d2,d3,d4⟩:=five R2.out;go_wp2_with fail;refine(HA.out _ F2).mono ?_;rintro e w2 ⟨rfl,f2⟩;go_wp2;go_ret2;exact⟨rfl,F2.trans f2⟩
 ·have q2:(z02 3 x != 0)=true:=by simpa using ha
  rw[decide_eq_false ha,Bool.false_and];clear ha;generalize z02 3 x=r at *;go_enter Tryz.func255,Tryz.ntmps255;go_wp2_with fail;refine(RD.out _ F1).mono ?_;rintro e w1 ⟨rfl,f1⟩;go_wp2;go_ret2;exact⟨rfl,F1.trans f1⟩
theorem zu9(x:ByteArray)(l:List ByteArray)(A:Option Addr)(c g B:Nat)(w:World)(hl:l.length≤281474976710656)(hB:B≤w.heap.size)(h:Sl w B 1 (.slice A l.length c) l.length (z04 l))(hg:w.cell? ⟨g,0,none⟩=some (.slice A l.length c)):
  Calls prog 306 (#[.string x]++#[.pointer (some ⟨g,0,none⟩)]) w fun e w'=>e=.returned (.bool (z6s l x))∧Fr [] w w':=by
 have CT:=hid (z72 l x A c B w hl hB h);have EH:=hid (show(l.any fun y=>decide (y=x))=z6s l x from rfl);rw[EH.out] at CT;generalize z6s l x=b at *;clear h EH;go_enter Tryz.func306,Tryz.ntmps306;go_wp2_with fail;refine CT.out.mono ?_;rintro e w1 ⟨rfl,rfl⟩;go_wp2;go_ret;exact⟨rfl,Fr.refl _ _⟩
theorem zpg(l:List ByteArray)(A:Option Addr)(c g D:Nat)(w:World)(hl:l.length≤281474976710656)(hD:D≤w.heap.size)(h:Sl w D 1 (.slice A l.length c) l.length (z04 l))(hc:w.cell? ⟨g,0,none⟩=some (.slice A l.length c))(hg:g < D):
  zkr 306 #[.pointer (some ⟨g,0,none⟩)] (fun x=>z6s l x) D w:=
 fun W x hW=>zu9 x l A c g D W hl (Nat.le_trans hD hW.size) (zs2 h hW (Nat.le_refl _)) (z4q hW hc hg (by simp))
theorem zfv(x:Itm)(v:Value)(l:List ByteArray)(A:Option Addr)(c:Nat)(w:World)(B:Nat)(hs:x.Small)(hB:B≤w.heap.size)(h:z0r w B v x)(hl:l.length≤281474976710656)(hL:Sl w B 1 (.slice A l.length c) l.length (z04 l)):
  Calls prog 254 #[v,.slice A l.length c] w (z4d (zad 3 x l) (z02 3 x) (z6a 3 x l) w):=by
 have RD:=hid (fun W (hf:Fr [] w W)=>z7z x v W B hs (Nat.le_trans hB hf.size) (h.fr hf hB (by simp)));obtain⟨A1,c1,A2,c2,A3,c3,rfl,h1,h2,h3⟩:=h;have H1:=hid h1;have HL:=hid hL;have D0:=hid (BO.newL w (.int .i64 x.kind) (.string x.text) (.slice A1 x.list.length c1) (.slice A2 x.pairs.length c2) (.slice A3 x.scores.length c3) (.slice A l.length c));obtain⟨d0,d1,d2,d3,d4⟩:=five D0.out.b
 have S0:=hid (show(((w.alloc (.cells #[.int .i64 x.kind,.string x.text,.slice A1 x.list.length c1,.slice A2 x.pairs.length c2,.slice A3 x.scores.length c3] 65)).alloc (.cells #[.slice A l.length c] 24)).alloc (.cells #[.int .i64 0,.string ⟨#[]⟩,.slice none 0 0,.slice none 0 0,.slice none 0 0] 65)).cell? ⟨w.heap.size+1,0,none⟩=some (.slice A l.length c) from by
  have:=((Whole.new (w.alloc (.cells #[.int .i64 x.kind,.string x.text,.slice A1 x.list.length c1,.slice A2 x.pairs.length c2,.slice A3 x.scores.length c3] 65)) 24 [.slice A l.length c]).alloc (.cells #[.int .i64 0,.string ⟨#[]⟩,.slice none 0 0,.slice none 0 0,.slice none 0 0] 65)).cell 0;simpa using this)
 have EY:=hid (show z6a 3 x l=if z02 3 x=0 then ofK 3 (z91 x.list l) else z2p 0 from rfl);have EK:=hid (show zad 3 x l=if z02 3 x=0 then (x.list.length:Int) - (z91 x.list l).length else 0 from rfl);clear h1 h2 h3 hs hL;by_cases ha:z02 3 x=0
 ·have hok:=z1j ha;rw[EY.out,EK.out,if_pos ha,if_pos ha,ha];rw[ha] at RD;have h24:x.list.length≤24:=by have:=hok.le24;unfold many at this;omega
  have OR:=hid (show rises ltS (z91 x.list l)=true from zj9 (fun y=>!z6s l y) (zgp ha).1);have hrl:(z91 x.list l).length≤x.list.length:=List.length_filter_le _ _;have OF:=hid (fun W base u hb hu=>(show Calls prog 305 #[u] W (zq0 (ofK 3 (z91 x.list l)) base u W) from by have:=zhj (z91 x.list l) base u W (by omega) (fun y hy=>by have:=hok.texts y (List.mem_filter.1 hy).1;omega) hb hu;rw[zfo OR.out] at this;exact this));have CL:=hid (fun W (hW:Fr [] w W)=>z52 x.list.length (z04 x.list) A1 c1 W B (by omega) (Nat.le_trans hB hW.size) (H1.out.fr hW hB (by simp)) (z38 _));have DF:=hid (fun W base u D (hp:zkr 306 #[.pointer (some ⟨w.heap.size+1,0,none⟩)] (fun x=>z6s l x) D W) hD hu=>(show Calls prog 302 #[u,.func (Fn.func 306) #[] #[.pointer (some ⟨w.heap.size+1,0,none⟩)]] W (zcx (z91 x.list l) base u W) from zhi 306 #[.pointer (some ⟨w.heap.size+1,0,none⟩)] (z1t Tryz.func306 (by kernel_rfl) rfl) (fun x=>z6s l x) D x.list base u W hp hD (by omega) hu));clear hok EY EK ha;generalize ofK 3 (z91 x.list l)=y at *;have HW:=hid (show IntKind.i64.wrap ((x.list.length:Int) - ((z91 x.list l).length:Int))=(x.list.length:Int) - (z91 x.list l).length from IntWalk.i64_in _ (by omega));generalize z91 x.list l=r at *;go_enter Tryz.func254,Tryz.ntmps254;go_wp2_with fail;refine(RD.out _ D0.out.f).mono ?_;rintro e w1 ⟨rfl,f1⟩;have D1:=hid (D0.out.go f1);have S1:=hid (f1.cell S0.out (by simp));have hz1:=D1.out.lt;clear d0 d1 d2 d3 d4;obtain⟨d0,d1,d2,d3,d4⟩:=five D1.out.b;go_wp2_with fail;refine(CL.out _ D1.out.f).mono ?_;rintro e w2 ⟨u,rfl,ho,f2⟩;have D2:=hid (D1.out.go f2);have S2:=hid (f2.cell S1.out (by simp));have HO:=hid ho;obtain⟨U,cu,rfl,-⟩:=z05 ho;have hp:=hid (zpg l A c (w.heap.size+1) w1.heap.size w2 hl f2.size (((HL.out.fr D1.out.f hB (by simp)).more (Nat.le_trans hB D1.out.f.size)).fr f2 (Nat.le_refl _) (by simp)) S2.out (by omega));clear d0 d1 d2 d3 d4 ho;obtain⟨d0,d1,d2,d3,d4⟩:=five D2.out.b;go_wp2_with fail;refine(DF.out _ _ _ _ hp.out (Nat.le_refl _) HO.out).mono ?_;rintro e w3 ⟨u3,rfl,ho3,f3,-⟩;have D3:=hid (D2.out.step f3 (fun g hg=>by have:=z1f HO.out hg;omega));have HO3:=hid ho3;obtain⟨U3,cu3,rfl,-⟩:=z05 ho3;clear d0 d1 d2 d3 d4 ho3;obtain⟨d0,d1,d2,d3,d4⟩:=five D3.out.b;have hb3:w1.heap.size≤w3.drew.heap.size:=Nat.le_trans f2.size f3.size;have hne1:¬w.heap.size=w.heap.size+1+1:=by omega
  have hne2:¬w.heap.size+1+1=w.heap.size:=by omega
  go_wp2;go_region_held3 (fun wx=>wx.cell? ⟨w.heap.size,2,none⟩=some (.slice A1 x.list.length c1)) (go_keep) (first|(go_at_call 305;(refine(OF.out _ _ _ hb3 (show w3.drew.ownsRow _ _ _ _ _ _ from HO3.out)).mono ?_);rintro e w5 ⟨u5,rfl,hi,f5⟩;have D5:=hid (D3.out.step (z01 f5) (fun g hg=>by have:=z1f HO3.out hg;omega));clear d0 d1 d2 d3 d4 f5;obtain⟨d0,d1,d2,d3,d4⟩:=five D5.out.b;have HI:=hid hi;obtain⟨P1,p1,P2,p2,P3,p3,rfl⟩:=hi.form;clear hi;have OO:=D5.out.o;rw[show w.heap.size+2=w.heap.size+1+1 from rfl] at OO;obtain⟨a0,a1,a2,a3,a4⟩:=five OO;obtain⟨b0,b2,b3,b4,b5⟩:=z12 OO;clear OO))
  go_wp2;refine bodyPost_ret (v:=.tuple #[.agg #[.int .i64 y.kind,.string y.text,.slice P1 y.list.length p1,.slice P2 y.pairs.length p2,.slice P3 y.scores.length p3],.int .i64 (IntKind.i64.wrap ((x.list.length:Int) - (r.length:Int))),.int .i64 0]) (by simp[results,Tryz.results254,go_sem,a0,a1,a2,a3,a4]) rfl ?_;exact⟨_,by rw[HW.out],(z1n HI.out (by omega) _ _ _ _ _).less (by omega),D5.out.end5 _ _ _ _ _⟩
 ·rw[EY.out,EK.out,if_neg ha,if_neg ha];have q2:(z02 3 x != 0)=true:=by simpa using ha
  clear EY EK ha;generalize z02 3 x=r at *;go_enter Tryz.func254,Tryz.ntmps254;go_wp2_with fail;refine(RD.out _ D0.out.f).mono ?_;rintro e w1 ⟨rfl,f1⟩;have D1:=hid (D0.out.go f1);clear d0 d1 d2 d3 d4;have OO:=D1.out.o;rw[show w.heap.size+2=w.heap.size+1+1 from rfl] at OO;obtain⟨a0,a1,a2,a3,a4⟩:=five OO;obtain⟨b0,b2,b3,b4,b5⟩:=z12 OO;clear OO;go_wp2;refine bodyPost_ret (v:=.tuple #[.agg #[.int .i64 0,.string ⟨#[]⟩,.slice none 0 0,.slice none 0 0,.slice none 0 0],.int .i64 0,.int .i64 r]) (by simp[results,Tryz.results254,go_sem,a0,a1,a2,a3,a4]) rfl ?_;exact⟨_,rfl,z0q.nothing _ _,D1.out.end5 _ _ _ _ _⟩
def z3v(w:World)(B:Nat)(v:Value)(l:List Itm):Prop:=
 ∃A c,∃rs:List (List Value),v=.slice A l.length c∧rs.length=l.length∧(∀(i:Nat) (x:Itm),l[i]? = some x→∃cs:List Value,rs[i]? = some cs∧cs.length=5∧z0r w B (.agg cs.toArray) x)∧Sl w B 5 v l.length rs.flatten
theorem zzi:∀(rs:List (List Value)) (i j:Nat) (cs:List Value),(∀c∈rs,c.length=5)→rs[i]? = some cs→j < 5→rs.flatten[i * 5+j]? = cs[j]?
 | [],i,j,cs,_,h,_=>by simp at h
 | r :: rs,0,j,cs,hl,h,hj=>by
  simp at h;subst h;rw[Nat.zero_mul,Nat.zero_add,List.flatten_cons,List.getElem?_append_left (by rw[hl r (by simp)];exact hj)]
 | r :: rs,i+1,j,cs,hl,h,hj=>by
  have hr:=hl r (by simp);rw[List.flatten_cons,List.getElem?_append_right (by omega),hr,show(i+1) * 5+j - 5=i * 5+j from by omega];exact zzi rs i j cs (fun c hc=>hl c (by simp[hc])) (by simpa using h) hj
structure At5(w:World)(B b o:Nat)(x:Itm)(A1 A2 A3:Option Addr)(c1 c2 c3:Nat):Prop where
 k0:w.cell? ⟨b,o,none⟩=some (.int .i64 x.kind)
 k1:w.cell? ⟨b,o+1,none⟩=some (.string x.text)
 k2:w.cell? ⟨b,o+2,none⟩=some (.slice A1 x.list.length c1)
 k3:w.cell? ⟨b,o+3,none⟩=some (.slice A2 x.pairs.length c2)
 k4:w.cell? ⟨b,o+4,none⟩=some (.slice A3 x.scores.length c3)
 s1:Sl w B 1 (.slice A1 x.list.length c1) x.list.length (z04 x.list)
 s2:Sl w B 2 (.slice A2 x.pairs.length c2) x.pairs.length (z0f x.pairs)
 s3:Sl w B 2 (.slice A3 x.scores.length c3) x.scores.length (z07 x.scores)
theorem At5.item{w:World}{B b o:Nat}{x:Itm}{A1 A2 A3:Option Addr}{c1 c2 c3:Nat}(h:At5 w B b o x A1 A2 A3 c1 c2 c3):z0r w B (.agg #[.int .i64 x.kind,.string x.text,.slice A1 x.list.length c1,.slice A2 x.pairs.length c2,.slice A3 x.scores.length c3]) x:=
 ⟨A1,c1,A2,c2,A3,c3,rfl,h.s1,h.s2,h.s3⟩
theorem At5.fr{w w':World}{B b o:Nat}{x:Itm}{A1 A2 A3:Option Addr}{c1 c2 c3:Nat}{S:List Nat}(h:At5 w B b o x A1 A2 A3 c1 c2 c3)(hf:Fr S w w')(hb:b < B)(hB:B≤w.heap.size)(hS:∀k,k∈S→B≤k):At5 w' B b o x A1 A2 A3 c1 c2 c3:=by
 have hn:b∉S:=fun hm=>by have:=hS b hm;omega
 exact⟨hf.cell h.k0 hn,hf.cell h.k1 hn,hf.cell h.k2 hn,hf.cell h.k3 hn,hf.cell h.k4 hn,h.s1.fr hf hB hS,h.s2.fr hf hB hS,h.s3.fr hf hB hS⟩
theorem z3v.form{w:World}{B:Nat}{v:Value}{l:List Itm}(h:z3v w B v l):∃A c,v=.slice A l.length c:=by
 obtain⟨A,c,rs,rfl,_⟩:=h;exact⟨A,c,rfl⟩
theorem z3v.at_{w:World}{B:Nat}{A:Option Addr}{c:Nat}{l:List Itm}(h:z3v w B (.slice A l.length c) l)(hn:0 < l.length):
  ∃b off,A=some ⟨b,off,none⟩∧b < B∧l.length≤c∧c≤maxLen∧∀(i:Nat) (x:Itm),l[i]? = some x→∃A1 A2 A3 c1 c2 c3,At5 w B b (off+i * 5) x A1 A2 A3 c1 c2 c3:=by
 obtain⟨A',c',rs,hv,hl,hi,hs⟩:=h;cases hv;obtain⟨b,off,rfl,hb,hc,hm,hcell⟩:=hs.at_ hn;refine⟨b,off,rfl,hb,hc,hm,fun i x hx=>?_⟩;obtain⟨cs,hcs,h5,hit⟩:=hi i x hx
 have all5:∀c∈rs,c.length=5:=fun c hc=>by
  obtain⟨j,hj,rfl⟩:=List.getElem_of_mem hc;obtain⟨d,hd,h5',_⟩:=hi j _ (List.getElem?_eq_getElem (show j < l.length by omega));rw[List.getElem?_eq_getElem hj] at hd;cases hd;exact h5'
 obtain⟨A1,c1,A2,c2,A3,c3,he,s1,s2,s3⟩:=hit
 have he':cs=[.int .i64 x.kind,.string x.text,.slice A1 x.list.length c1,.slice A2 x.pairs.length c2,.slice A3 x.scores.length c3]:=by
  have:=congrArg Array.toList (Value.agg.inj he);simpa using this
 subst he'
 have g:∀j u,j < 5→[Value.int .i64 x.kind,.string x.text,.slice A1 x.list.length c1,.slice A2 x.pairs.length c2,.slice A3 x.scores.length c3][j]? = some u→w.cell? ⟨b,off+(i * 5+j),none⟩=some u:=fun j u hj hu=>
  hcell _ _ (by rw[zzi rs i j _ all5 hcs hj];exact hu)
 exact⟨A1,A2,A3,c1,c2,c3,g 0 _ (by decide) rfl,by rw[Nat.add_assoc];exact g 1 _ (by decide) rfl,by rw[Nat.add_assoc];exact g 2 _ (by decide) rfl,by rw[Nat.add_assoc];exact g 3 _ (by decide) rfl,by rw[Nat.add_assoc];exact g 4 _ (by decide) rfl,s1,s2,s3⟩
theorem z3v.fr{w w':World}{B:Nat}{S:List Nat}{v:Value}{l:List Itm}(h:z3v w B v l)(hf:Fr S w w')(hB:B≤w.heap.size)(hS:∀k,k∈S→B≤k):z3v w' B v l:=by
 obtain⟨A,c,rs,rfl,hl,hi,hs⟩:=h
 exact⟨A,c,rs,rfl,hl,fun i x hx=>by
  obtain⟨cs,h1,h2,h3⟩:=hi i x hx;exact⟨cs,h1,h2,h3.fr hf hB hS⟩,hs.fr hf hB hS⟩
theorem lawT:Maps.Keyed prog 9:=Maps.string_keyed Tryz.underlying9
theorem zeroT(w:World):(zeroValue 3).run prog w=.ok (.int .i64 0) w:=by kernel_rfl
theorem Fr.grown0{a b:World}(h:Fr [] a b):a.grownBy b none:=⟨h.os,h.tape,h.output,h.size,fun i hi _=>h.block i hi (by simp)⟩
theorem keyT(s:ByteArray)(hs:s.size≤281474976710656):keyOf prog 9 (.string s)=some (kS s):=WideMaps.keyOf_string_mk Tryz.underlying9 (by unfold maxLen;omega)
theorem zur(key:Value)(kl:Lit)(h:keyOf prog 9 key=some kl):∃s:ByteArray,key=.string s:=by
 obtain⟨x,hx,_,_⟩:=Maps.keyOf_str Tryz.underlying9 h;exact⟨unB x,hx⟩
theorem zux{s:ByteArray}{kl:Lit}(h:keyOf prog 9 (.string s)=some kl):kl=kS s:=by
 obtain⟨x,hx,rfl,_⟩:=Maps.keyOf_str Tryz.underlying9 h;have:=Value.string.inj hx;subst this;rfl
theorem zqp(v:Value)(y:DataW Unit×List MemPlace)(h:plainElem prog 3 v=some y):∃c:Int,v=.int .i64 c:=by
 obtain⟨c,rfl,_⟩:=plainElem_int_inv Tryz.underlying3 h;exact⟨c,rfl⟩
abbrev OwnM(w:World)(b n:Nat)(D:DataW Unit):Prop:=w.ownsMap prog 9 (plainElem prog 3) b n D
abbrev RanM(w:World)(b r n:Nat)(D:DataW Unit)(left:Lit→Bool)(cnt:Nat):Prop:=w.ranges prog 9 (plainElem prog 3) b r n D left cnt
theorem zel{l:List Itm}{k:Nat}{x:Itm}(h:l[k]? = some x):zbt (l.take (k+1))=zbt (l.take k)++x.list:=by
 unfold zbt;rw[List.take_add_one,h];simp
theorem zx2{l:List Itm}{k:Nat}{x:Itm}{c:Int}(h:∀y∈l.take k,z02 c y=0)(hx:l[k]? = some x)(ha:z02 c x=0):∀y∈l.take (k+1),z02 c y=0:=by
 intro y hy;rw[List.take_add_one,hx] at hy;rcases List.mem_append.1 hy with hy|hy
 ·exact h y hy
 ·simp at hy;subst hy;exact ha
theorem zg9{l:List Itm}(h:∀y∈l,z02 3 y=0):(zbt l).length≤24 * l.length:=by
 induction l with
 | nil=>simp[zbt]
 | cons x l ih=>
  have h1:=ih fun y hy=>h y (by simp[hy]);have h2:=(zgp (h x (by simp))).2;unfold zbt at h1 ⊢;rw[List.flatMap_cons,List.length_append,List.length_cons];omega
theorem zs9{n:Nat}{c:Int}(h:nI n=.lit (.int .i64 c)):c=(n:Int):=by
 unfold nI at h;exact(Lit.int.inj (DataW.lit.inj h)).2.symm
theorem elemN(n:Nat)(h:n≤4611686018427387904):plainElem (H:=Unit) prog 3 (.int .i64 ((n:Int)+1))=some (nI (n+1),[]):=
 plainElem_int Tryz.underlying3 (WalkArith.wf_i64 ⟨by omega,by omega⟩)
def zcc(r:List ByteArray)(code:Int)(w:World)(e:Ending)(w':World):Prop:=∃u,e=.returned (.tuple #[u,.int .i64 code])∧w'.ownsRow w.heap.size 9 1 u r.length (z04 r)∧Fr [] w w'
def PredN(g:Nat)(lb:Array Value)(p:Nat→Bool→Bool)(B:Nat)(w:World):Prop:=
 ∀W (n:Nat) (b:Bool),FrB [] B w W→Calls prog g (#[.int .i64 n,.bool b]++lb) W fun e w'=>e=.returned (.bool (p n b))∧Fr [] W w'
theorem z8x(g:Nat)(lb:Array Value)(eg:∀args w,(callFunc g args).run prog w=.ok (.enter g args) w)(p:Nat→Bool→Bool)(l:List Itm)(v:Value)(w:World)(B:Nat)(hp:PredN g lb p w.heap.size w)
  (hs:∀x∈l,x.Small) (hl:l.length≤1048576) (hB:B≤w.heap.size) (h:z3v w B v l):
  Calls prog 309 #[v,.func (Fn.func g) #[] lb] w (zcc (z27 p l) (z0v l) w):=by
 obtain⟨i0,hi,hz0,hz1,hz2⟩:=info_parts z3h;obtain⟨A,c,rfl⟩:=h.form;by_cases h0:l.length=0
 ·have E1:z0v l=1:=if_pos h0;have E2:z27 p l=[]:=by unfold z27;rw[E1,if_neg (by decide)]
  rw[E1,E2];clear E1 E2 hp;rw[h0];go_enter Tryz.func309,Tryz.ntmps309;go_wp2;go_ret2;exact⟨_,rfl,World.ownsRow_nil _ _ _ _,Fr.refl _ _⟩
 ·have HV:=hid h;have HP:=hid hp;have HS:=hid hs;have HC:=hid (show z0v l=z2k 3 l from if_neg h0);have hpos:0 < l.length:=by omega
  clear h hp hs;have q0:((l.length:Int)==0)=false:=by simpa using h0
  have hmm:=@run_makeMap prog;clear h0;go_enter Tryz.func309,Tryz.ntmps309;go_wp2;go_loopg [21] l.length (fun g i wr=>∃(k:Nat) (D:DataW Unit),g=l.length - k∧k≤l.length∧i=.int .i64 k∧(∀x∈l.take k,z02 3 x=0)∧OwnM wr w.heap.size (zbt (l.take k)).length D∧Cnt D (zbt (l.take k))∧Fr [] w wr)
  case atStart=>exact⟨0,.map [],rfl,Nat.zero_le _,rfl,fun x hx=>by simp at hx,World.ownsMap_made _ _ _ _,Cnt.start,(Fr.refl _ _).alloc _⟩
  case round=>
   obtain⟨k,D,rfl,hk,rfl,hok,hm,hcn,hf⟩:=hrel;have HF:=hid hf;have HM:=hid hm;have HN:=hid hcn;have HO:=hid hok;clear hf hm hcn hok;obtain⟨b,off,rfl,hb,hc,hmx,hat⟩:=HV.out.at_ hpos;have HA:=hid hat;clear hat;by_cases hlt:k < l.length
   ·obtain⟨x,hx⟩:∃x,l[k]? = some x:=⟨_,List.getElem?_eq_getElem hlt⟩;obtain⟨A1,A2,A3,c1,c2,c3,h5⟩:=HA.out k x hx;have hxs:=HS.out x (List.mem_of_getElem? hx);have P5:=hid (h5.fr HF.out hb hB (by simp));have a0:=P5.out.k0;have a1:=P5.out.k1;have a2:=P5.out.k2;have a3:=P5.out.k3;have a4:=P5.out.k4;have F1:=hid ((Fr.refl [] wr).alloc (.cells #[.int .i64 x.kind,.string x.text,.slice A1 x.list.length c1,.slice A2 x.pairs.length c2,.slice A3 x.scores.length c3] 65));have W1:=hid (Whole.new wr 65 [.int .i64 x.kind,.string x.text,.slice A1 x.list.length c1,.slice A2 x.pairs.length c2,.slice A3 x.scores.length c3]);have RD:=hid (fun W (hW:Fr [] wr W)=>z7z x (.agg #[.int .i64 x.kind,.string x.text,.slice A1 x.list.length c1,.slice A2 x.pairs.length c2,.slice A3 x.scores.length c3]) W B hxs (Nat.le_trans hB (Nat.le_trans HF.out.size hW.size)) (P5.out.item.fr hW (Nat.le_trans hB HF.out.size) (by simp)));have HX:=hid hx;clear hx hxs;by_cases ha:z02 3 x=0
    ·rw[ha] at RD;have X1:=hid h5.s1;have hx24:=(zgp ha).2;have TX:=hid ((z1j ha).texts)
     have hkl:(zbt (l.take k)).length≤24 * l.length:=by
      have h1:=zg9 HO.out;have h2:(l.take k).length≤l.length:=by rw[List.length_take];omega
      omega
     have OKN:=hid (zx2 HO.out HX.out ha);have ET:=hid (zel HX.out);generalize zbt (l.take k)=ts at *;clear P5 h5;obtain⟨wo,rfl⟩:∃wo,wo=wr:=⟨_,rfl⟩;go_wp2_with fail;refine(RD.out _ F1.out).mono ?_;rintro e w1 ⟨rfl,f1⟩;have F2:=hid (F1.out.trans f1);have W2:=hid (W1.out.fr f1 (by simp));clear f1 a0 a1 a2 a3 a4;obtain⟨a0,a1,a2,a3,a4⟩:=five W2.out;go_wp2;go_loopg [33] x.list.length (fun g j wi=>∃(q:Nat) (D':DataW Unit),g=x.list.length - q∧q≤x.list.length∧j=.int .i64 q∧OwnM wi w.heap.size (ts++x.list.take q).length D'∧Cnt D' (ts++x.list.take q)∧Fr [] w wi)
     case atStart=>exact⟨0,D,rfl,Nat.zero_le _,rfl,by rw[List.take_zero,List.append_nil];exact HM.out.kept F2.out.grown0 (by simp),by rw[List.take_zero,List.append_nil];exact HN.out,HF.out.trans F2.out⟩
     case round=>
      obtain⟨q,D',rfl,hq,rfl,hm,hcn,hf⟩:=hrel;have HFi:=hid hf;have HMi:=hid hm;have HNi:=hid hcn;clear hf hm hcn;have hlen:(ts++x.list.take q).length≤24 * l.length+24:=by rw[List.length_append,List.length_take];omega
      by_cases hlt2:q < x.list.length
      ·obtain⟨s,hs⟩:∃s,x.list[q]? = some s:=⟨_,List.getElem?_eq_getElem hlt2⟩;obtain⟨b1,o1,rfl,hb1,hcx,hmx1,hcell⟩:=X1.out.at_ (by omega);have cc:=HFi.out.cell (show w.cell? ⟨b1,o1+q,none⟩=some (.string s) from hcell q _ (z1b _ q s hs)) (by simp);have hs60:=TX.out s (List.mem_of_getElem? hs);have hn:=zxl (ts++x.list.take q) s;have EA:=hid (HNi.out.at_ s);have NX:=hid (HNi.out.put s);have ES:=hid (show ts++x.list.take (q+1)=(ts++x.list.take q)++[s] from by rw[List.take_add_one,hs,←List.append_assoc];rfl);clear hcell hs;generalize znb (ts++x.list.take q) s=n at *;rw[←ES.out] at NX;have EL:=hid (show(ts++x.list.take (q+1)).length=(ts++x.list.take q).length+1 from by rw[ES.out,List.length_append];rfl);clear ES;generalize hU:ts++x.list.take q=U at *;generalize hU2:ts++x.list.take (q+1)=U2 at *
       go_wp2_with (first
        | (at_lookup;go_loud (refine wpList_lookup_own_int _ rfl _ _ 248 rfl 9 3 .i64 lawT Tryz.underlying248 Tryz.underlying3 (zeroT _) w.heap.size _ D' rfl HMi.out _ _ rfl (keyT s (by omega)) ?_;intro c hat hwc;obtain rfl:=zs9 (EA.out.symm.trans hat);clear hat hwc))
        | (at_mapUpdate;go_loud (refine wpList_mapUpdate_own _ rfl _ _ _ 248 rfl 9 3 lawT Tryz.underlying248 _ w.heap.size _ D' rfl HMi.out (by unfold maxLen;omega) _ _ _ rfl rfl (keyT s (by omega)) (nI (n+1)) [] (elemN n (by omega)) ?_;intro w2 hown2 hgrow2))
        | go_in)
       go_roundg (x.list.length - (q+1))
       case measure=>omega
       case rel=>exact⟨q+1,_,rfl,by omega,by go_num,by rw[hU2,EL.out];exact hown2,by rw[hU2];exact NX.out,HFi.out.grown hgrow2 (fun j hj=>by cases hj;exact .inr (Nat.le_refl _))⟩
      ·obtain rfl:q=x.list.length:=by omega
       rw[List.take_length,←ET.out] at HMi HNi;clear ET hlen;go_wp2;go_roundg (l.length - (k+1))
       case measure=>omega
       case rel=>exact⟨k+1,D',rfl,by omega,by go_num,OKN.out,HMi.out,HNi.out,HFi.out⟩
    ·have E1:=hid (HC.out.trans (zbo HO.out HX.out ha));have E2:=hid (show z27 p l=[] from by unfold z27;rw[E1.out,if_neg ha]);have q1:(z02 3 x != 0)=true:=by simpa using ha
     rw[E1.out,E2.out];clear E1 E2 ha HC;generalize z02 3 x=r at *;go_wp2_with fail;refine(RD.out _ F1.out).mono ?_;rintro e w1 ⟨rfl,f1⟩;go_wp2;go_ret2;exact⟨_,rfl,World.ownsRow_nil _ _ _ _,HF.out.trans (F1.out.trans f1)⟩
   ·obtain rfl:k=l.length:=by omega
    rw[List.take_length] at HO HM HN;have EC:=hid (HC.out.trans (za3 HO.out));have ER:=hid (show z27 p l=z8j ((zbt l).filter (pick p l)) from by unfold z27;rw[if_pos EC.out]);have hal:=zg9 HO.out;have CN:=hid (zhf (l:=l) (fun x hx=>(zgp (HO.out x hx)).1));obtain⟨x0,hx0⟩:∃x,l[0]? = some x:=⟨_,List.getElem?_eq_getElem hpos⟩;obtain⟨A1,A2,A3,c1,c2,c3,h5⟩:=HA.out 0 x0 hx0;rw[Nat.zero_mul,Nat.add_zero] at h5;have H5:=hid h5;have hr0:=(zgp (HO.out x0 (List.mem_of_getElem? hx0))).1;have hl0:=(HS.out x0 (List.mem_of_getElem? hx0)).list
    have EF:=hid (show zwn l=x0.list from by cases l with
     | nil=>simp at hx0
     | cons y l=>simp at hx0;subst hx0;rfl)
    have EP:=hid (show ∀s,pick p l s=p (q0a l s) (z6s x0.list s) from fun s=>by unfold pick;rw[EF.out])
    have TS:=hid (show ∀s∈zbt l,s.size≤60 from fun s hs=>by
     obtain⟨x,hx,hsx⟩:=List.mem_flatMap.1 hs;exact(z1j (HO.out x hx)).texts s hsx)
    have HR0:=hid hr0;clear hx0 h5 hr0 HC EF HO;generalize zbt l=ts at *;generalize pick p l=pk at *;generalize q0a l=hn at *;obtain⟨wo,rfl⟩:∃wo,wo=wr:=⟨_,rfl⟩;have hlo:=HM.out.lt
    go_wp2_with (first
     | (at_range;refine wpList_range_own _ rfl _ 248 rfl 9 3 lawT Tryz.underlying248 _ w.heap.size _ D rfl HM.out ?_;intro w0 hrg0 hg0 hs0)
     | go_in)
    go_frame
    have F0:=hid (HF.out.grown hg0 (fun k hk=>by cases hk));have hs0':wo.heap.size < w0.heap.size:=by omega
    clear hs0;go_loopg [12] (Maps.size D) (fun g v wi=>∃(left:Lit→Bool) (d:List ByteArray),RanM wi w.heap.size wo.heap.size ts.length D left g∧wi.ownsRow wo.heap.size 9 1 v d.length (z04 d)∧Coll ts pk left d∧Fr [] w wi∧wo.heap.size < wi.heap.size)
    case atStart=>exact⟨_,[],hrg0,World.ownsRow_nil _ _ _ _,Coll.start HN.out,F0.out,hs0'⟩
    case round=>
     obtain⟨left,d,hrg,ho,hco,hf,hz⟩:=hrel;have HFi:=hid hf;have HOi:=hid ho;have HCo:=hid hco;have hdl:=hco.le;have hwz:=hf.size;clear hf hco;obtain⟨Ad,cd,rfl,-⟩:=z05 ho;clear ho
     go_wp2_with (first
      | (at_next;refine wpList_next_ranges _ rfl _ rfl 9 lawT (plainElem prog 3) Value.string (Value.int .i64) zur zqp w.heap.size wo.heap.size _ _ _ _ rfl hrg ?_ ?_)
      | go_in)
     ·intro hc0 hl0;have ED:=hid (HCo.out.done hl0);clear hl0;go_wp2_with fail;refine(zhh d wo.heap.size _ _ (by omega) HOi.out).mono ?_;rintro e w1 ⟨rfl,ho1,g1⟩;have HO1:=hid ho1;have G1:=hid g1;have LO:=hid (fun k hk=>HOi.out.lt k hk);clear ho1 g1;go_wp2;go_ret2;rw[EC.out,ER.out,←ED.out];exact⟨_,rfl,z16 (by rw[z3i];exact HO1.out) HF.out.size,HFi.out.grown G1.out (fun k hk=>.inr (by have:=(LO.out k hk).1;have:=HF.out.size;omega))⟩
     ·intro x c' kl yd yp w2 cnt2 hkey hlk hv hat hrg2 hlt2 hg2 hs2 hen;obtain rfl:kl=kS x:=zux hkey
      have hcc:c'=(hn x:Int):=by
       obtain⟨c'',ec,hy,_⟩:=plainElem_int_inv Tryz.underlying3 hv;cases ec;have h1:=hat (nI 0);have h2:=HN.out.at_ x;rw[h1] at h2;rw[←CN.out x];refine zs9 ?_;rw[←h2];exact congrArg Prod.fst hy
      subst hcc
      have hxt:x∈ts:=by
       have h1:=HN.out.has x;rw[Maps.has_true_of_atKey hat] at h1;exact z2s.1 h1.symm
      have hx60:=TS.out x hxt;have HL:=hid hlk;have F2:=hid (HFi.out.grown hg2 (fun k hk=>by cases hk;exact .inr HF.out.size));have HO2:=hid (HOi.out.kept hg2 (Or.inr (row_ne_iter HOi.out hrg).symm));have P5:=hid (H5.out.fr F2.out hb hB (by simp));have a2:=P5.out.k2;have HH:=hid (fun W (hW:Fr [] w2 W)=>zey x0.list x A1 c1 B W HR0.out hl0 (Nat.le_trans hB (Nat.le_trans F2.out.size hW.size)) (P5.out.s1.fr hW (Nat.le_trans hB F2.out.size) (by simp)));have EPx:=hid (EP.out x);have HPx:=hid (fun W (hW:Fr [] w2 W)=>HP.out W (hn x) (z6s x0.list x) ((F2.out.trans hW).toB _));have hsz2:wo.heap.size < w2.heap.size:=by omega
      clear hs2 hkey hv hat hlk;by_cases hpk:pk x=true
      ·have q1:=EPx.out.symm.trans hpk;rw[q1] at HPx;have CT:=hid (HCo.out.take hxt HL.out hpk);clear q1 hpk hxt;go_wp2_with fail;refine(HH.out _ (Fr.refl _ _)).mono ?_;rintro e w3 ⟨rfl,f3⟩;have F3:=hid f3;clear f3;go_wp2_with fail;refine(HPx.out _ F3.out).mono ?_;rintro e w4 ⟨rfl,f4⟩;have F4:=hid (F3.out.trans f4);have HO4:=hid (z0p HO2.out F4.out (by simp));have R4:=hid (hrg2.kept F4.out.grown0 (by simp) (by simp));have hsz4:wo.heap.size < w4.heap.size:=Nat.lt_of_lt_of_le hsz2 F4.out.size;clear f4 hen;go_wp2_with (at_builtin;refine wpList_append_own_at _ rfl _ _ 24 rfl wo.heap.size 9 i0 _ 1 16 Tryz.underlying24 hi hz0 hz1 hz2 rfl (by decide) _ _ _ rfl (HO4.out.alloc _) ⟨w4.heap.size,0,none⟩ 1 1 [.string x] rfl rfl ?c1a ?c2a ?c3a ?c4a ?c5a ?_)
       case c1a=>exact cell_one_new _ _ _
       case c2a=>intro u hu;simp at hu;subst hu;rfl
       case c3a=>unfold maxLen;omega
       case c4a=>omega
       case c5a=>simp;omega
       intro va w5 hown' hgrow _ hata;have HOa:=hid hown';have HFa:=hid (((F2.out.trans F4.out).alloc (.cells #[.string x] 9)).grown hgrow (fun k hk=>.inr (by have:=(HO4.out.lt k hk).1;have:=HF.out.size;omega)));have R5:=hid ((R4.out.alloc (.cells #[.string x] 9)).kept hgrow (row_ne_low HO4.out hlo) (row_ne_iter HO4.out R4.out));have hsz5:wo.heap.size < w5.heap.size:=Nat.lt_of_lt_of_le (by simp;omega) hgrow.size;clear hown' hgrow hata;go_wp2;go_roundg cnt2
       case measure=>exact hlt2
       case rel=>exact⟨_,d++[x],R5.out,by rw[z4r,List.length_append];simpa[z04] using HOa.out,CT.out,HFa.out,hsz5⟩
      ·have q1:=EPx.out.symm.trans (show pk x=false by simpa using hpk);rw[q1] at HPx;have CT:=hid (HCo.out.leave (x:=x) (show pk x=false by simpa using hpk));clear q1 hpk hxt;go_wp2_with fail;refine(HH.out _ (Fr.refl _ _)).mono ?_;rintro e w3 ⟨rfl,f3⟩;have F3:=hid f3;clear f3;go_wp2_with fail;refine(HPx.out _ F3.out).mono ?_;rintro e w4 ⟨rfl,f4⟩;have F4:=hid (F3.out.trans f4);have HO4:=hid (z0p HO2.out F4.out (by simp));have R4:=hid (hrg2.kept F4.out.grown0 (by simp) (by simp));have hsz4:wo.heap.size < w4.heap.size:=Nat.lt_of_lt_of_le hsz2 F4.out.size;clear f4 hen;go_wp2;go_roundg cnt2
       case measure=>exact hlt2
       case rel=>exact⟨_,d,R4.out,HO4.out,CT.out,F2.out.trans F4.out,hsz4⟩
def zb4(m:Nat)(n:Nat)(_:Bool):Bool:=decide (n=m)
def z6w(_:Nat)(_:Bool):Bool:=true
def z8z(n:Nat)(b:Bool):Bool:=b&&decide (n=1)
theorem zrx(l:List Itm)(A:Option Addr)(c g m:Nat)(n:Nat)(b:Bool)(w:World)(hm:m=l.length)(hl:l.length≤281474976710656)(hg:w.cell? ⟨g,0,none⟩=some (.slice A l.length c)):
  Calls prog 311 (#[.int .i64 n,.bool b]++#[.pointer (some ⟨g,0,none⟩)]) w fun e w'=>e=.returned (.bool (zb4 m n b))∧Fr [] w w':=by
 subst hm;by_cases h:n=l.length
 ·have E:zb4 l.length n b=true:=decide_eq_true h;have q:((n:Int)==(l.length:Int))=true:=by simp[h]
  rw[E];clear h E;go_enter Tryz.func311,Tryz.ntmps311;go_wp2;go_ret;exact⟨rfl,Fr.refl _ _⟩
 ·have E:zb4 l.length n b=false:=decide_eq_false h;have q:((n:Int)==(l.length:Int))=false:=beq_eq_false_iff_ne.2 (by omega);rw[E];clear h E;go_enter Tryz.func311,Tryz.ntmps311;go_wp2;go_ret;exact⟨rfl,Fr.refl _ _⟩
theorem zq4(n:Nat)(b:Bool)(w:World):
  Calls prog 310 (#[.int .i64 n,.bool b]++#[]) w fun e w'=>e=.returned (.bool (z6w n b))∧Fr [] w w':=by
 go_enter Tryz.func310,Tryz.ntmps310;go_wp2;go_ret;exact⟨rfl,Fr.refl _ _⟩
theorem zs4(n:Nat)(b:Bool)(w:World):
  Calls prog 312 (#[.int .i64 n,.bool b]++#[]) w fun e w'=>e=.returned (.bool (z8z n b))∧Fr [] w w':=by
 cases b with
 | false=>
  rw[show z8z n false=false from rfl];go_enter Tryz.func312,Tryz.ntmps312;go_wp2;go_ret;exact⟨rfl,Fr.refl _ _⟩
 | true=>
  by_cases h:n=1
  ·subst h;rw[show z8z 1 true=true from rfl];go_enter Tryz.func312,Tryz.ntmps312;go_wp2;go_ret;exact⟨rfl,Fr.refl _ _⟩
  ·have E:z8z n true=false:=by unfold z8z;rw[decide_eq_false h];rfl
   have q:((n:Int)==1)=false:=beq_eq_false_iff_ne.2 (by omega);rw[E];clear h E;go_enter Tryz.func312,Tryz.ntmps312;go_wp2;go_ret;exact⟨rfl,Fr.refl _ _⟩
theorem zju(l:List Itm)(v:Value)(w:World)(B:Nat)(hs:∀x∈l,x.Small)(hl:l.length≤1048576)(hB:B≤w.heap.size)(h:z3v w B v l):
  Calls prog 258 #[v] w (zcc (z27 (zb4 l.length) l) (z0v l) w):=by
 obtain⟨A,c,rfl⟩:=h.form;have F1:=hid ((Fr.refl [] w).alloc (.cells #[.slice A l.length c] 104));have W1:=hid (Whole.new w 104 [.slice A l.length c])
 have SO:=hid (z8x 311 #[.pointer (some ⟨w.heap.size,0,none⟩)] (z1t Tryz.func311 (by kernel_rfl) rfl) (zb4 l.length) l (.slice A l.length c) (w.alloc (.cells #[.slice A l.length c] 104)) B
  (fun W n b hW=>zrx l A c w.heap.size l.length n b W rfl (by omega) (by
   have:=hW.whole W1.out (by simp) (by simp);exact this.cell 0)) hs hl (Nat.le_trans hB F1.out.size) (h.fr F1.out hB (by simp)))
 clear h hs;go_enter Tryz.func258,Tryz.ntmps258;go_wp2_with fail;refine SO.out.mono ?_;rintro e w1 ⟨u,rfl,ho,f1⟩;have HO:=hid ho;have FF:=hid (F1.out.trans f1);clear ho f1;go_wp2;go_ret2;exact⟨_,rfl,z16 HO.out (by simp),FF.out⟩
theorem ze1(l:List Itm)(v:Value)(w:World)(B:Nat)(hs:∀x∈l,x.Small)(hl:l.length≤1048576)(hB:B≤w.heap.size)(h:z3v w B v l):
  Calls prog 256 #[v] w (zcc (z27 z6w l) (z0v l) w):=by
 have SO:=hid (z8x 310 #[] (z1t Tryz.func310 (by kernel_rfl) rfl) z6w l v w B (fun W n b hW=>zq4 n b W) hs hl hB h);obtain⟨A,c,rfl⟩:=h.form;clear h hs;go_enter Tryz.func256,Tryz.ntmps256;go_wp2_with fail;refine SO.out.mono ?_;rintro e w1 ⟨u,rfl,ho,f1⟩;have HO:=hid ho;have FF:=hid f1;clear ho f1;go_wp2;go_ret2;exact⟨_,rfl,HO.out,FF.out⟩
theorem zk8(l:List Itm)(v:Value)(w:World)(B:Nat)(hs:∀x∈l,x.Small)(hl:l.length≤1048576)(hB:B≤w.heap.size)(h:z3v w B v l):
  Calls prog 259 #[v] w (zcc (z27 z8z l) (z0v l) w):=by
 have SO:=hid (z8x 312 #[] (z1t Tryz.func312 (by kernel_rfl) rfl) z8z l v w B (fun W n b hW=>zs4 n b W) hs hl hB h);obtain⟨A,c,rfl⟩:=h.form;clear h hs;go_enter Tryz.func259,Tryz.ntmps259;go_wp2_with fail;refine SO.out.mono ?_;rintro e w1 ⟨u,rfl,ho,f1⟩;have HO:=hid ho;have FF:=hid f1;clear ho f1;go_wp2;go_ret2;exact⟨_,rfl,HO.out,FF.out⟩
theorem z4m(n:Nat):∀(rs:List (List Value)) (i j:Nat) (cs:List Value),(∀c∈rs,c.length=n)→rs[i]? = some cs→j < n→rs.flatten[i * n+j]? = cs[j]?
 | [],i,j,cs,_,h,_=>by simp at h
 | r :: rs,0,j,cs,hl,h,hj=>by
  simp at h;subst h;rw[Nat.zero_mul,Nat.zero_add,List.flatten_cons,List.getElem?_append_left (by rw[hl r (by simp)];exact hj)]
 | r :: rs,i+1,j,cs,hl,h,hj=>by
  have hr:=hl r (by simp);have e:(i+1) * n=i * n+n:=Nat.succ_mul i n;rw[List.flatten_cons,List.getElem?_append_right (by omega),hr,show(i+1) * n+j - n=i * n+j from by omega];exact z4m n rs i j cs (fun c hc=>hl c (by simp[hc])) (by simpa using h) hj
theorem zcj(n:Nat):∀(rs:List (List Value)),(∀c∈rs,c.length=n)→rs.flatten.length=rs.length * n
 | [],_=>by simp
 | r :: rs,hl=>by
  have e:(rs.length+1) * n=rs.length * n+n:=Nat.succ_mul _ n;rw[List.flatten_cons,List.length_append,hl r (by simp),zcj n rs (fun c hc=>hl c (by simp[hc])),List.length_cons,e];omega
theorem z8e(n:Nat):∀(rs:List (List Value)) (i:Nat),(∀c∈rs,c.length=n)→rs.flatten.take (i * n)=(rs.take i).flatten
 | [],i,_=>by simp
 | r :: rs,0,_=>by simp
 | r :: rs,i+1,hl=>by
  have hr:=hl r (by simp);have e:(i+1) * n=n+i * n:=by rw[Nat.succ_mul,Nat.add_comm]
  rw[List.flatten_cons,List.take_succ_cons,List.flatten_cons,e,List.take_append,hr,List.take_of_length_le (by omega),Nat.add_sub_cancel_left,z8e n rs i (fun c hc=>hl c (by simp[hc]))]
theorem zav(n:Nat):∀(rs:List (List Value)) (i:Nat),(∀c∈rs,c.length=n)→rs.flatten.drop (i * n)=(rs.drop i).flatten
 | [],i,_=>by simp
 | r :: rs,0,_=>by simp
 | r :: rs,i+1,hl=>by
  have hr:=hl r (by simp);have e:(i+1) * n=n+i * n:=by rw[Nat.succ_mul,Nat.add_comm]
  rw[List.flatten_cons,List.drop_succ_cons,e,List.drop_append,hr,List.drop_of_length_le (by omega),Nat.add_sub_cancel_left,List.nil_append,zav n rs i (fun c hc=>hl c (by simp[hc]))]
structure Ent where
 key:ByteArray
 item:Itm
 til:Int
abbrev yEa(x:Ent)(A:Option Addr)(a:Nat)(B:Option Addr)(b:Nat)(C:Option Addr)(c:Nat):Array Value:=#[.string x.key,.int .i64 x.item.kind,.string x.item.text,.slice A x.item.list.length a,.slice B x.item.pairs.length b,.slice C x.item.scores.length c,.int .i64 x.til]
abbrev yEl(x:Ent)(A:Option Addr)(a:Nat)(B:Option Addr)(b:Nat)(C:Option Addr)(c:Nat):List Value:=[.string x.key,.int .i64 x.item.kind,.string x.item.text,.slice A x.item.list.length a,.slice B x.item.pairs.length b,.slice C x.item.scores.length c,.int .i64 x.til]
abbrev yEza:Array Value:=#[.string ⟨#[]⟩,.int .i64 0,.string ⟨#[]⟩,.slice none 0 0,.slice none 0 0,.slice none 0 0,.int .i64 0]
abbrev yEzl:List Value:=[.string ⟨#[]⟩,.int .i64 0,.string ⟨#[]⟩,.slice none 0 0,.slice none 0 0,.slice none 0 0,.int .i64 0]
abbrev yEc(w:World)(p:Nat)(x:Ent)(A:Option Addr)(a:Nat)(B:Option Addr)(b:Nat)(C:Option Addr)(c:Nat):Prop:=w.cell? ⟨p,0,none⟩=some (.string x.key)∧w.cell? ⟨p,1,none⟩=some (.int .i64 x.item.kind)∧w.cell? ⟨p,2,none⟩=some (.string x.item.text)∧w.cell? ⟨p,3,none⟩=some (.slice A x.item.list.length a)∧w.cell? ⟨p,4,none⟩=some (.slice B x.item.pairs.length b)∧w.cell? ⟨p,5,none⟩=some (.slice C x.item.scores.length c)∧w.cell? ⟨p,6,none⟩=some (.int .i64 x.til)
def q07:Ent:=⟨⟨#[]⟩,z2p 0,0⟩
structure Ent.Small(e:Ent):Prop where
 key:e.key.size≤281474976710656
 item:e.item.Small
 til:-9223372036854775808≤e.til∧e.til≤9223372036854775807
def z8f(e:Ent)(A1:Option Addr)(c1:Nat)(A2:Option Addr)(c2:Nat)(A3:Option Addr)(c3:Nat):List Value:=
 [.string e.key,.int .i64 e.item.kind,.string e.item.text,.slice A1 e.item.list.length c1,.slice A2 e.item.pairs.length c2,.slice A3 e.item.scores.length c3,.int .i64 e.til]
def zgk(w:World)(B:Nat)(cs:List Value)(e:Ent):Prop:=
 ∃A1 c1 A2 c2 A3 c3,cs=z8f e A1 c1 A2 c2 A3 c3∧Sl w B 1 (.slice A1 e.item.list.length c1) e.item.list.length (z04 e.item.list)∧Sl w B 2 (.slice A2 e.item.pairs.length c2) e.item.pairs.length (z0f e.item.pairs)∧Sl w B 2 (.slice A3 e.item.scores.length c3) e.item.scores.length (z07 e.item.scores)
def z2o(w:World)(base:Nat)(cs:List Value)(e:Ent):Prop:=
 ∃A1 c1 A2 c2 A3 c3,cs=z8f e A1 c1 A2 c2 A3 c3∧w.ownsRow base 9 1 (.slice A1 e.item.list.length c1) e.item.list.length (z04 e.item.list)∧w.ownsRow base 108 2 (.slice A2 e.item.pairs.length c2) e.item.pairs.length (z0f e.item.pairs)∧w.ownsRow base 113 2 (.slice A3 e.item.scores.length c3) e.item.scores.length (z07 e.item.scores)
theorem zgk.len{w:World}{B:Nat}{cs:List Value}{e:Ent}(h:zgk w B cs e):cs.length=7:=by obtain⟨_,_,_,_,_,_,rfl,_⟩:=h;rfl
theorem z2o.len{w:World}{B:Nat}{cs:List Value}{e:Ent}(h:z2o w B cs e):cs.length=7:=by obtain⟨_,_,_,_,_,_,rfl,_⟩:=h;rfl
theorem z2o.c{w:World}{base:Nat}{cs:List Value}{e:Ent}(h:z2o w base cs e):zgk w w.heap.size cs e:=by
 obtain⟨A1,c1,A2,c2,A3,c3,he,h1,h2,h3⟩:=h;exact⟨A1,c1,A2,c2,A3,c3,he,z0s h1,z0s h2,z0s h3⟩
theorem zgk.fr{w w':World}{B:Nat}{S:List Nat}{cs:List Value}{e:Ent}(h:zgk w B cs e)(hf:Fr S w w')(hB:B≤w.heap.size)(hS:∀k,k∈S→B≤k):zgk w' B cs e:=by
 obtain⟨A1,c1,A2,c2,A3,c3,he,h1,h2,h3⟩:=h;exact⟨A1,c1,A2,c2,A3,c3,he,h1.fr hf hB hS,h2.fr hf hB hS,h3.fr hf hB hS⟩
theorem zgk.more{w:World}{B B':Nat}{cs:List Value}{e:Ent}(h:zgk w B cs e)(hB:B≤B'):zgk w B' cs e:=by
 obtain⟨A1,c1,A2,c2,A3,c3,he,h1,h2,h3⟩:=h;exact⟨A1,c1,A2,c2,A3,c3,he,h1.more hB,h2.more hB,h3.more hB⟩
theorem z2o.fr{w w':World}{base:Nat}{cs:List Value}{e:Ent}(h:z2o w base cs e)(hf:Fr [] w w'):z2o w' base cs e:=by
 obtain⟨A1,c1,A2,c2,A3,c3,he,h1,h2,h3⟩:=h;exact⟨A1,c1,A2,c2,A3,c3,he,z0p h1 hf (by simp),z0p h2 hf (by simp),z0p h3 hf (by simp)⟩
theorem z2o.base{w:World}{base base':Nat}{cs:List Value}{e:Ent}(h:z2o w base cs e)(hb:base'≤base):z2o w base' cs e:=by
 obtain⟨A1,c1,A2,c2,A3,c3,he,h1,h2,h3⟩:=h;exact⟨A1,c1,A2,c2,A3,c3,he,z16 h1 hb,z16 h2 hb,z16 h3 hb⟩
theorem z40{w:World}{base base' e e' size size' n n':Nat}{v v':Value}{xs xs':List Value}(h:w.ownsRow base e size v n xs)(h':w.ownsRow base' e' size' v' n' xs')(hT:e≠e'):∀k,v.ownBlock=some k→k∉z2f v':=fun k hk hm=>by
 rcases zxt h h' hT with h1|h1
 ·rw[h1] at hk;cases hk
 ·refine h1 ?_;rw[hk];unfold z2f at hm;split at hm
  ·simp at hm;subst hm;rfl
  ·cases hm
theorem z2o.row{w w':World}{base base' T size n:Nat}{v:Value}{xs cs:List Value}{e:Ent}(h:z2o w base cs e)(ho:w.ownsRow base' T size v n xs)(hT:9≠T∧108≠T∧113≠T)(hf:Fr (z2f v) w w'):z2o w' base cs e:=by
 obtain⟨A1,c1,A2,c2,A3,c3,he,h1,h2,h3⟩:=h;exact⟨A1,c1,A2,c2,A3,c3,he,z0p h1 hf (z40 h1 ho hT.1),z0p h2 hf (z40 h2 ho hT.2.1),z0p h3 hf (z40 h3 ho hT.2.2)⟩
theorem zgk.item{w:World}{B:Nat}{e:Ent}{A1 A2 A3:Option Addr}{c1 c2 c3:Nat}(h:zgk w B (z8f e A1 c1 A2 c2 A3 c3) e):
  z0r w B (.agg #[.int .i64 e.item.kind,.string e.item.text,.slice A1 e.item.list.length c1,.slice A2 e.item.pairs.length c2,.slice A3 e.item.scores.length c3]) e.item:=by
 obtain⟨B1,d1,B2,d2,B3,d3,he,h1,h2,h3⟩:=h;simp only[z8f,List.cons.injEq,Value.slice.injEq] at he;obtain⟨-,-,-,⟨rfl,-,rfl⟩,⟨rfl,-,rfl⟩,⟨rfl,-,rfl⟩,-⟩:=he;exact⟨_,_,_,_,_,_,rfl,h1,h2,h3⟩
theorem z2o.item{w:World}{base:Nat}{e:Ent}{A1 A2 A3:Option Addr}{c1 c2 c3:Nat}(h:z2o w base (z8f e A1 c1 A2 c2 A3 c3) e):
  z0q w base (.agg #[.int .i64 e.item.kind,.string e.item.text,.slice A1 e.item.list.length c1,.slice A2 e.item.pairs.length c2,.slice A3 e.item.scores.length c3]) e.item:=by
 obtain⟨B1,d1,B2,d2,B3,d3,he,h1,h2,h3⟩:=h;simp only[z8f,List.cons.injEq,Value.slice.injEq] at he;obtain⟨-,-,-,⟨rfl,-,rfl⟩,⟨rfl,-,rfl⟩,⟨rfl,-,rfl⟩,-⟩:=he;exact⟨_,_,_,rfl,h1,h2,h3⟩
def z1l(w:World)(B:Nat)(v:Value)(l:List Ent):Prop:=
 ∃A c,∃rs:List (List Value),v=.slice A l.length c∧rs.length=l.length∧(∀(i:Nat) (e:Ent),l[i]? = some e→∃cs:List Value,rs[i]? = some cs∧zgk w B cs e)∧Sl w B 7 v l.length rs.flatten
def z1s(w:World)(base:Nat)(v:Value)(l:List Ent):Prop:=
 ∃rs:List (List Value),rs.length=l.length∧(∀(i:Nat) (e:Ent),l[i]? = some e→∃cs:List Value,rs[i]? = some cs∧z2o w base cs e)∧w.ownsRow base 81 7 v l.length rs.flatten
theorem z1l.form{w:World}{B:Nat}{v:Value}{l:List Ent}(h:z1l w B v l):∃A c,v=.slice A l.length c:=by
 obtain⟨A,c,rs,rfl,_⟩:=h;exact⟨A,c,rfl⟩
theorem z1s.form{w:World}{B:Nat}{v:Value}{l:List Ent}(h:z1s w B v l):∃A c,v=.slice A l.length c:=by
 obtain⟨rs,_,_,ho⟩:=h;obtain⟨A,c,rfl,-⟩:=z05 ho;exact⟨A,c,rfl⟩
theorem z1s.v{w:World}{base:Nat}{v:Value}{l:List Ent}(h:z1s w base v l):z1l w w.heap.size v l:=by
 obtain⟨rs,h1,h2,h3⟩:=h;obtain⟨A,c,rfl,-⟩:=z05 h3
 exact⟨A,c,rs,rfl,h1,fun i e he=>by
  obtain⟨cs,h4,h5⟩:=h2 i e he;exact⟨cs,h4,h5.c⟩,z0s h3⟩
theorem z1l.fr{w w':World}{B:Nat}{S:List Nat}{v:Value}{l:List Ent}(h:z1l w B v l)(hf:Fr S w w')(hB:B≤w.heap.size)(hS:∀k,k∈S→B≤k):z1l w' B v l:=by
 obtain⟨A,c,rs,rfl,hl,hi,hs⟩:=h
 exact⟨A,c,rs,rfl,hl,fun i x hx=>by
  obtain⟨cs,h1,h2⟩:=hi i x hx;exact⟨cs,h1,h2.fr hf hB hS⟩,hs.fr hf hB hS⟩
theorem z1l.more{w:World}{B B':Nat}{v:Value}{l:List Ent}(h:z1l w B v l)(hB:B≤B'):z1l w B' v l:=by
 obtain⟨A,c,rs,rfl,hl,hi,hs⟩:=h
 exact⟨A,c,rs,rfl,hl,fun i x hx=>by
  obtain⟨cs,h1,h2⟩:=hi i x hx;exact⟨cs,h1,h2.more hB⟩,hs.more hB⟩
theorem z1s.fr{w w':World}{base:Nat}{v:Value}{l:List Ent}(h:z1s w base v l)(hf:Fr [] w w'):z1s w' base v l:=by
 obtain⟨rs,h1,h2,h3⟩:=h
 exact⟨rs,h1,fun i e he=>by
  obtain⟨cs,h4,h5⟩:=h2 i e he;exact⟨cs,h4,h5.fr hf⟩,z0p h3 hf (by simp)⟩
theorem z1s.base{w:World}{base base':Nat}{v:Value}{l:List Ent}(h:z1s w base v l)(hb:base'≤base):z1s w base' v l:=by
 obtain⟨rs,h1,h2,h3⟩:=h
 exact⟨rs,h1,fun i e he=>by
  obtain⟨cs,h4,h5⟩:=h2 i e he;exact⟨cs,h4,h5.base hb⟩,z16 h3 hb⟩
theorem z1l.nil(w:World)(B:Nat):z1l w B (.slice none 0 0) []:=⟨none,0,[],rfl,rfl,fun i x h=>by simp at h,Sl.nil _ _ _⟩
theorem z1s.nil(w:World)(base:Nat):z1s w base (.slice none 0 0) []:=⟨[],rfl,fun i x h=>by simp at h,World.ownsRow_nil _ _ _ _⟩
theorem zi1{P:List Value→Ent→Prop}{l:List Ent}{rs:List (List Value)}(hl:rs.length=l.length)(hP:∀cs e,P cs e→cs.length=7)(h:∀(i:Nat) (e:Ent),l[i]? = some e→∃cs:List Value,rs[i]? = some cs∧P cs e):∀c∈rs,c.length=7:=fun c hc=>by
 obtain⟨j,hj,rfl⟩:=List.getElem_of_mem hc;obtain⟨d,hd,h5⟩:=h j _ (List.getElem?_eq_getElem (show j < l.length by omega));rw[List.getElem?_eq_getElem hj] at hd;cases hd;exact hP _ _ h5
structure At7(w:World)(B b o:Nat)(e:Ent)(A1 A2 A3:Option Addr)(c1 c2 c3:Nat):Prop where
 k0:w.cell? ⟨b,o,none⟩=some (.string e.key)
 k1:w.cell? ⟨b,o+1,none⟩=some (.int .i64 e.item.kind)
 k2:w.cell? ⟨b,o+2,none⟩=some (.string e.item.text)
 k3:w.cell? ⟨b,o+3,none⟩=some (.slice A1 e.item.list.length c1)
 k4:w.cell? ⟨b,o+4,none⟩=some (.slice A2 e.item.pairs.length c2)
 k5:w.cell? ⟨b,o+5,none⟩=some (.slice A3 e.item.scores.length c3)
 k6:w.cell? ⟨b,o+6,none⟩=some (.int .i64 e.til)
 ent:zgk w B (z8f e A1 c1 A2 c2 A3 c3) e
theorem At7.fr{w w':World}{B b o:Nat}{e:Ent}{A1 A2 A3:Option Addr}{c1 c2 c3:Nat}{S:List Nat}(h:At7 w B b o e A1 A2 A3 c1 c2 c3)(hf:Fr S w w')(hb:b < B)(hB:B≤w.heap.size)(hS:∀k,k∈S→B≤k):At7 w' B b o e A1 A2 A3 c1 c2 c3:=by
 have hn:b∉S:=fun hm=>by have:=hS b hm;omega
 exact⟨hf.cell h.k0 hn,hf.cell h.k1 hn,hf.cell h.k2 hn,hf.cell h.k3 hn,hf.cell h.k4 hn,hf.cell h.k5 hn,hf.cell h.k6 hn,h.ent.fr hf hB hS⟩
theorem z1l.at_{w:World}{B:Nat}{A:Option Addr}{c:Nat}{l:List Ent}(h:z1l w B (.slice A l.length c) l)(hn:0 < l.length):
  ∃b off,A=some ⟨b,off,none⟩∧b < B∧l.length≤c∧c≤maxLen∧∀(i:Nat) (e:Ent),l[i]? = some e→∃A1 A2 A3 c1 c2 c3,At7 w B b (off+i * 7) e A1 A2 A3 c1 c2 c3:=by
 obtain⟨A',c',rs,hv,hl,hi,hs⟩:=h;cases hv;obtain⟨b,off,rfl,hb,hc,hm,hcell⟩:=hs.at_ hn;refine⟨b,off,rfl,hb,hc,hm,fun i e he=>?_⟩;obtain⟨cs,hcs,hE⟩:=hi i e he;have all7:=zi1 hl (fun cs e h=>zgk.len h) hi;obtain⟨A1,c1,A2,c2,A3,c3,rfl,s1,s2,s3⟩:=hE
 have g:∀j u,j < 7→(z8f e A1 c1 A2 c2 A3 c3)[j]? = some u→w.cell? ⟨b,off+(i * 7+j),none⟩=some u:=fun j u hj hu=>
  hcell _ _ (by rw[z4m 7 rs i j _ all7 hcs hj];exact hu)
 exact⟨A1,A2,A3,c1,c2,c3,g 0 _ (by decide) rfl,by rw[Nat.add_assoc];exact g 1 _ (by decide) rfl,by rw[Nat.add_assoc];exact g 2 _ (by decide) rfl,by rw[Nat.add_assoc];exact g 3 _ (by decide) rfl,by rw[Nat.add_assoc];exact g 4 _ (by decide) rfl,by rw[Nat.add_assoc];exact g 5 _ (by decide) rfl,by rw[Nat.add_assoc];exact g 6 _ (by decide) rfl,⟨A1,c1,A2,c2,A3,c3,rfl,s1,s2,s3⟩⟩
def z3e(n:Int):Bool:=decide (0≤n)&&decide (n≤1000000)
def z4o(til now:Int):Bool:=decide (til≠0)&&decide (til≤now)
def z4l:Option ByteArray→ByteArray→Bool
 | none,_=>false
 | some k,s=>!ltS k s
def z35(p:Option ByteArray)(e:Ent):Int:=
 if 60 < e.key.size then 2 else if z0e e.item≠0 then z0e e.item else if z3e e.til=false then 3 else if z4l p e.key=true then 4 else 0
def zou:Option ByteArray→List Ent→Int
 | _,[]=>0
 | p,e :: l=>if z35 p e≠0 then z35 p e else zou (some e.key) l
def z1q(l:List Ent):Int:=if 16 < l.length then 2 else zou none l
def z79(l:List Ent)(k:Nat):Option ByteArray:=if k=0 then none else (l[k - 1]?).map (·.key)
theorem zqd{l:List Ent}{k:Nat}{e:Ent}(h:l[k]? = some e):zou (z79 l k) (l.drop k)=if z35 (z79 l k) e≠0 then z35 (z79 l k) e else zou (z79 l (k+1)) (l.drop (k+1)):=by
 have hk:=(List.getElem?_eq_some_iff.1 h).1
 have e1:l.drop k=e :: l.drop (k+1):=by
  rw[List.drop_eq_getElem_cons hk];congr 1;rw[List.getElem?_eq_getElem hk] at h;exact Option.some.inj h
 have e2:z79 l (k+1)=some e.key:=by unfold z79;rw[if_neg (by omega),Nat.add_sub_cancel,h];rfl
 rw[e1,e2];rfl
theorem zn5(l:List Ent):z79 l 0=none:=rfl
structure z1y(l:List Ent):Prop where
 le:l.length≤16
 keys:∀e∈l,e.key.size≤60
 items:∀e∈l,z0e e.item=0
 times:∀e∈l,0≤e.til∧e.til≤1000000
 rise:rises (ltK Ent.key) l=true
theorem znz{p:Option ByteArray}{e:Ent}(h:z35 p e=0):e.key.size≤60∧z0e e.item=0∧(0≤e.til∧e.til≤1000000)∧z4l p e.key=false:=by
 unfold z35 at h;split at h
 ·cases h
 ·rename_i h1;split at h
  ·rename_i h2;exact absurd h h2
  ·rename_i h2;split at h
   ·cases h
   ·rename_i h3;split at h
    ·cases h
    ·rename_i h4;refine⟨by omega,by simpa using h2,?_,by simpa using h4⟩;have:z3e e.til=true:=by simpa using h3
     unfold z3e at this;simpa using this
theorem zi9:∀ {l:List Ent} {p:Option ByteArray},zou p l=0→(∀e∈l,e.key.size≤60∧z0e e.item=0∧(0≤e.til∧e.til≤1000000))∧rises ltS (l.map (·.key))=true∧(∀e,l[0]? = some e→z4l p e.key=false)
 | [],p,_=>⟨(fun e he=>by cases he),rfl,(fun e he=>by simp at he)⟩
 | e :: l,p,h=>by
  unfold zou at h;by_cases hc:z35 p e=0
  ·rw[if_neg (by simpa using hc)] at h;obtain⟨h1,h2,h3⟩:=zi9 h;obtain⟨k1,k2,k3,k4⟩:=znz hc;refine⟨fun x hx=>?_,?_,fun x hx=>by simp at hx;subst hx;exact k4⟩
   ·rcases List.mem_cons.1 hx with rfl|hx
    ·exact⟨k1,k2,k3⟩
    ·exact h1 x hx
   ·cases l with
    | nil=>rfl
    | cons y l=>
     have:=h3 y rfl;unfold z4l at this;rw[List.map_cons,List.map_cons];rw[List.map_cons] at h2;unfold rises;rw[Bool.and_eq_true];exact⟨by simpa using this,h2⟩
  ·rw[if_pos hc] at h;exact absurd h hc
theorem zwu{l:List Ent}(h:z1q l=0):z1y l:=by
 unfold z1q at h;split at h
 ·cases h
 ·rename_i hl;obtain⟨h1,h2,_⟩:=zi9 h;refine⟨by omega,fun e he=>(h1 e he).1,fun e he=>(h1 e he).2.1,fun e he=>(h1 e he).2.2,?_⟩;refine z3q ?_;have:=z3b (lt:=ltS) (fun a b c h1 h2=>decide_eq_true (z54 (of_decide_eq_true h1) (of_decide_eq_true h2))) h2;rw[List.pairwise_map] at this;exact this
theorem zb5(n:Nat)(xs:List Value)(A:Option Addr)(c:Nat)(w:World)(B:Nat)(hl:n≤1000000)(hB:B≤w.heap.size)(h:Sl w B 2 (.slice A n c) n xs)(h1:∀u∈xs,u.oneCell'=true):
  Calls prog 196 #[.slice A n c] w (z7p 113 2 n xs w):=by
 obtain⟨i0,hi,hz0,hz1,hz2⟩:=info_parts z6e;have q29:∀(w:World) (a:Option Addr) (n c n' c':Nat),(binOp .eql 63 (.slice a n c) (.slice none n' c')).run prog w=.ok (.bool a.isNone) w:=fun w a n c n' c'=>Lib.run_eql_slice_nil w _ _ a n c n' c' Tryz.underlying63;cases A with
 | none=>
  obtain⟨A',c',e,hlx,hc,hm,hr⟩:=h;cases e
  have h0:n=0:=by
   rcases Nat.eq_zero_or_pos n with h0|h0
   ·exact h0
   ·obtain⟨_,_,h,_⟩:=hr h0;cases h
  subst h0;obtain rfl:xs=[]:=List.eq_nil_of_length_eq_zero (by omega);clear hr h1;go_enter Tryz.func196,Tryz.ntmps196;go_wp2;go_ret;exact⟨_,rfl,World.ownsRow_nil _ _ _ _,Fr.refl [] w⟩
 | some ad=>
  have hO:=(World.ownsRow_lit (base:=w.heap.size) (e:=113) (size:=2) w #[] 0 (Nat.le_refl _) (Nat.zero_le _) rfl);have hsl:=h.fr ((Fr.refl [] w).alloc (.cells #[] 113)) hB (by simp);have H1:=hid h1;have HS:=hid hsl;clear h h1 hsl;go_enter Tryz.func196,Tryz.ntmps196;go_wp2_with (at_builtin;refine z0j _ rfl _ _ 63 rfl w.heap.size 113 i0 _ 2 24 Tryz.underlying63 hi hz0 hz1 hz2 rfl (by decide) _ _ _ rfl hO B _ n xs rfl HS.out H1.out ?c1 ?c2 (by simp) ?_)
  case c1=>unfold maxLen;omega
  case c2=>omega
  intro v' w2 hown' hgrow hat;go_wp2;go_ret;refine⟨_,rfl,by simpa using hown',((Fr.refl [] w).alloc _).grown hgrow (fun k hk=>?_)⟩;simp[Value.ownBlock] at hk;subst hk;exact .inr (Nat.le_refl _)
def zwq(x:Itm)(w wx:World):Prop:=∃S1 s1 S2 s2 S3 s3,
 wx.ownsRow (w.heap.size+2) 9 1 (.slice S1 x.list.length s1) x.list.length (z04 x.list)∧wx.ownsRow (w.heap.size+2) 108 2 (.slice S2 x.pairs.length s2) x.pairs.length (z0f x.pairs)∧wx.ownsRow (w.heap.size+2) 113 2 (.slice S3 x.scores.length s3) x.scores.length (z07 x.scores) ∧
 BO w 1 [.int .i64 x.kind,.string x.text,.slice S1 x.list.length s1,.slice S2 x.pairs.length s2,.slice S3 x.scores.length s3] wx
theorem zsm{x:Itm}{w w3:World}{A1 A2 A3 S1 S2 S3:Option Addr}{c1 c2 c3 s1 s2 s3 b1 b2 b3:Nat}(h:BO w 1 [.int .i64 x.kind,.string x.text,.slice A1 x.list.length c1,.slice A2 x.pairs.length c2,.slice A3 x.scores.length c3] w3)
  (o1:w3.ownsRow b1 9 1 (.slice S1 x.list.length s1) x.list.length (z04 x.list)) (o2:w3.ownsRow b2 108 2 (.slice S2 x.pairs.length s2) x.pairs.length (z0f x.pairs)) (o3:w3.ownsRow b3 113 2 (.slice S3 x.scores.length s3) x.scores.length (z07 x.scores))
  (h1:w.heap.size+2≤b1) (h2:w.heap.size+2≤b2) (h3:w.heap.size+2≤b3):
  zwq x w (((w3.setCell ⟨w.heap.size,2,none⟩ (.slice S1 x.list.length s1)).setCell ⟨w.heap.size,3,none⟩ (.slice S2 x.pairs.length s2)).setCell ⟨w.heap.size,4,none⟩ (.slice S3 x.scores.length s3)):=by
 have kp:∀ {e size n:Nat} {v:Value} {xs:List Value} {b:Nat} {u1 u2 u3:Value},w.heap.size+2≤b→w3.ownsRow b e size v n xs→(((w3.setCell ⟨w.heap.size,2,none⟩ u1).setCell ⟨w.heap.size,3,none⟩ u2).setCell ⟨w.heap.size,4,none⟩ u3).ownsRow (w.heap.size+2) e size v n xs:=fun hb ho=>
  z16 (z0w (z0w (z0w ho (by show w.heap.size < _;omega) _) (by show w.heap.size < _;omega) _) (by show w.heap.size < _;omega) _) hb
 refine⟨S1,s1,S2,s2,S3,s3,kp h1 o1,kp h2 o2,kp h3 o3,?_,?_,?_⟩
 ·have:=((h.b.set_ 2 (.slice S1 x.list.length s1)).set_ 3 (.slice S2 x.pairs.length s2)).set_ 4 (.slice S3 x.scores.length s3);exact this
 ·exact((h.o.far (by show w.heap.size+1≠w.heap.size;omega) _).far (by show w.heap.size+1≠w.heap.size;omega) _).far (by show w.heap.size+1≠w.heap.size;omega) _
 ·exact((h.f.setCell (p:=⟨w.heap.size,2,none⟩) (.inr (Nat.le_refl _)) _).setCell (p:=⟨w.heap.size,3,none⟩) (.inr (Nat.le_refl _)) _).setCell (p:=⟨w.heap.size,4,none⟩) (.inr (Nat.le_refl _)) _
theorem z8t(x:Itm)(v:Value)(w:World)(B:Nat)(hs:x.Small)(l1:x.list.length≤1000000)(l2:x.pairs.length≤1000000)(l3:x.scores.length≤1000000)(hB:B≤w.heap.size)(h:z0r w B v x):
  Calls prog 138 #[v] w (OwnI w.heap.size x w):=by
 obtain⟨A1,c1,A2,c2,A3,c3,rfl,h1,h2,h3⟩:=h;have CS:=hid (fun W (hW:Fr [] w W)=>z52 x.list.length (z04 x.list) A1 c1 W B l1 (Nat.le_trans hB hW.size) (h1.fr hW hB (by simp)) (z38 _));have CP:=hid (fun W (hW:Fr [] w W)=>zb9 x.pairs.length (z0f x.pairs) A2 c2 W B l2 (Nat.le_trans hB hW.size) (h2.fr hW hB (by simp)) (za4 _));have CC:=hid (fun W (hW:Fr [] w W)=>zb5 x.scores.length (z07 x.scores) A3 c3 W B l3 (Nat.le_trans hB hW.size) (h3.fr hW hB (by simp)) (z4z _));have D0:=hid (BO.new w (.int .i64 x.kind) (.string x.text) (.slice A1 x.list.length c1) (.slice A2 x.pairs.length c2) (.slice A3 x.scores.length c3));obtain⟨d0,d1,d2,d3,d4⟩:=five D0.out.b;clear h1 h2 h3 hs;go_enter Tryz.func138,Tryz.ntmps138;go_wp2_with fail;go_cut [] (fun wx=>zwq x w wx)
 case first=>
  go_region_law (first
   | (go_simp;go_at_call 139;refine(CS.out _ (D0.out.f.drew)).mono ?_;rintro e w1 ⟨u1,rfl,o1,f1⟩;have D1:=hid (D0.out.go (z01 f1));have O1:=hid o1;obtain⟨S1,s1,rfl,-⟩:=z05 o1;clear o1 f1 d0 d1 d2 d3 d4;obtain⟨d0,d1,d2,d3,d4⟩:=five D1.out.b)
   | (go_simp;go_at_call 195;refine(CP.out _ D1.out.f).mono ?_;rintro e w2 ⟨u2,rfl,o2,f2⟩;have D2:=hid (D1.out.go f2);have O12:=hid (z0p O1.out f2 (by simp));have O2:=hid o2;obtain⟨S2,s2,rfl,-⟩:=z05 o2;clear o2 f2 d0 d1 d2 d3 d4;obtain⟨d0,d1,d2,d3,d4⟩:=five D2.out.b)
   | (go_simp;go_at_call 196;refine(CC.out _ D2.out.f).mono ?_;rintro e w3 ⟨u3,rfl,o3,f3⟩;have D3:=hid (D2.out.go f3);have O13:=hid (z0p O12.out f3 (by simp));have O23:=hid (z0p O2.out f3 (by simp));have O3:=hid o3;obtain⟨S3,s3,rfl,-⟩:=z05 o3;clear o3 f3 d0 d1 d2 d3 d4;obtain⟨d0,d1,d2,d3,d4⟩:=five D3.out.b;obtain⟨e0,e1,e2,e3,e4⟩:=z12 D3.out.b))
  all_goals
   go_wp2;go_meet
   case rel=>exact zsm D3.out O13.out O23.out O3.out (by simp[World.drew]) (by have:=D1.out.lt;omega) (by have:=D2.out.lt;omega)
 case rest=>
  obtain⟨S1,s1,S2,s2,S3,s3,o1,o2,o3,hD⟩:=hcut;have O1:=hid o1;have O2:=hid o2;have O3:=hid o3;have DD:=hid hD;clear o1 o2 o3 hD d0 d1 d2 d3 d4;have hne1:¬w.heap.size=w.heap.size+1:=by omega
  have hne2:¬w.heap.size+1=w.heap.size:=by omega
  obtain⟨d0,d1,d2,d3,d4⟩:=five DD.out.b;obtain⟨a0,a1,a2,a3,a4⟩:=five DD.out.o;obtain⟨b0,b1,b2,b3,b4⟩:=z12 DD.out.o;go_wp2;refine bodyPost_ret (v:=.agg #[.int .i64 x.kind,.string x.text,.slice S1 x.list.length s1,.slice S2 x.pairs.length s2,.slice S3 x.scores.length s3]) (by simp[results,Tryz.results138,go_sem,a0,a1,a2,a3,a4]) rfl ?_;exact⟨_,rfl,⟨_,_,_,rfl,z16 (z4y O1.out (by omega) _ _ _ _ _) (by omega),z16 (z4y O2.out (by omega) _ _ _ _ _) (by omega),z16 (z4y O3.out (by omega) _ _ _ _ _) (by omega)⟩,DD.out.end5 _ _ _ _ _⟩
theorem z82(n:Int)(w:World):Calls prog 39 #[.int .i64 n] w fun e w'=>e=.returned (.bool (z3e n))∧w=w':=by
 by_cases h1:0≤n
 ·by_cases h2:n≤1000000
  ·rw[show z3e n=true from by unfold z3e;rw[decide_eq_true h1,decide_eq_true h2];rfl];go_enter Tryz.func39,Tryz.ntmps39;go_wp2;go_ret;exact⟨rfl,rfl⟩
  ·rw[show z3e n=false from by unfold z3e;rw[decide_eq_false h2,Bool.and_false]];have h3:decide (n≤1000000)=false:=decide_eq_false h2;go_enter Tryz.func39,Tryz.ntmps39;go_wp2;go_ret;exact⟨rfl,rfl⟩
 ·rw[show z3e n=false from by unfold z3e;rw[decide_eq_false h1,Bool.false_and]];have h3:decide (0≤n)=false:=decide_eq_false h1;go_enter Tryz.func39,Tryz.ntmps39;go_wp2;go_ret;exact⟨rfl,rfl⟩
theorem zce(t n:Int)(w:World):Calls prog 166 #[.int .i64 t,.int .i64 n] w fun e w'=>e=.returned (.bool (z4o t n))∧w=w':=by
 by_cases h1:t=0
 ·rw[show z4o t n=false from by unfold z4o;rw[decide_eq_false (by simpa using h1),Bool.false_and]];have q1:(t != 0)=false:=by simpa using h1
  clear h1;go_enter Tryz.func166,Tryz.ntmps166;go_wp2;go_ret;exact⟨rfl,rfl⟩
 ·have q1:(t != 0)=true:=by simpa using h1
  by_cases h2:t≤n
  ·rw[show z4o t n=true from by unfold z4o;rw[decide_eq_true h1,decide_eq_true h2];rfl];clear h1;go_enter Tryz.func166,Tryz.ntmps166;go_wp2;go_ret;exact⟨rfl,rfl⟩
  ·rw[show z4o t n=false from by unfold z4o;rw[decide_eq_false h2,Bool.and_false]];have h3:decide (t≤n)=false:=decide_eq_false h2;clear h1 h2;go_enter Tryz.func166,Tryz.ntmps166;go_wp2;go_ret;exact⟨rfl,rfl⟩
theorem seven{w:World}{g t:Nat}{a b c d e f h:Value}(hw:Whole w g t [a,b,c,d,e,f,h]):
  w.cell? ⟨g,0,none⟩=some a∧w.cell? ⟨g,1,none⟩=some b∧w.cell? ⟨g,2,none⟩=some c∧w.cell? ⟨g,3,none⟩=some d∧w.cell? ⟨g,4,none⟩=some e∧w.cell? ⟨g,5,none⟩=some f∧w.cell? ⟨g,6,none⟩=some h:=
 ⟨hw.cell 0,hw.cell 1,hw.cell 2,hw.cell 3,hw.cell 4,hw.cell 5,hw.cell 6⟩
theorem z3u{w:World}{g t:Nat}{a b c d e f h:Value}(hw:Whole w g t [a,b,c,d,e,f,h]):
  w.frozen? ⟨g,0,none⟩=false∧w.frozen? ⟨g,1,none⟩=false∧w.frozen? ⟨g,2,none⟩=false∧w.frozen? ⟨g,3,none⟩=false∧w.frozen? ⟨g,4,none⟩=false∧w.frozen? ⟨g,5,none⟩=false∧w.frozen? ⟨g,6,none⟩=false:=
 ⟨hw.frozen 0,hw.frozen 1,hw.frozen 2,hw.frozen 3,hw.frozen 4,hw.frozen 5,hw.frozen 6⟩
theorem zi8(k s:ByteArray)(b c d e f g:Value)(w:World):Calls prog 286 (#[.agg #[.string k,b,c,d,e,f,g],.string s]++#[]) w fun e w'=>e=.returned (.int .i64 (z4k k s))∧Fr [] w w':=by
 have F1:=hid ((Fr.refl [] w).alloc (.cells #[.string k,b,c,d,e,f,g] 81));go_enter Tryz.func286,Tryz.ntmps286;go_wp2_with fail;refine(z70 k s _).mono ?_;rintro e w1 ⟨rfl,rfl⟩;go_wp2;go_ret;exact⟨rfl,F1.out⟩
theorem zuw(l:List Ent)(s:ByteArray)(A:Option Addr)(c B:Nat)(w:World)(hr:rises (ltK Ent.key) l=true)(hl:l.length≤281474976710656)(hB:B≤w.heap.size)(h:z1l w B (.slice A l.length c) l):
  Calls prog 285 #[.slice A l.length c,.string s,.func (Fn.func 286) #[] #[]] w (z4c (z1x Ent.key l s) (z5y Ent.key l s) w):=by
 have HS:=hid h;have hlow:=z5t Ent.key l s;have HR:=hid hr;clear h hr;have eg:=z1t Tryz.func286 (by kernel_rfl) rfl;go_enter Tryz.func285,Tryz.ntmps285;go_wp2;go_loopg [9,10] l.length (fun g s9 s10 wr=>∃(lo hi:Nat),g=hi - lo∧s9=.int .i64 lo∧s10=.int .i64 hi∧lo≤z1x Ent.key l s∧z1x Ent.key l s≤hi∧hi≤l.length∧Fr [] w wr)
 case atStart=>exact⟨0,l.length,rfl,rfl,rfl,Nat.zero_le _,hlow,Nat.le_refl _,Fr.refl _ _⟩
 case round=>
  obtain⟨lo,hi,rfl,rfl,rfl,h1,h2,h3,hf⟩:=hrel;have HF:=hid hf;clear hf;by_cases hlt:lo < hi
  ·obtain⟨m,hm⟩:∃m,m=(lo+hi) / 2:=⟨_,rfl⟩;have hml:m < l.length:=by omega
   obtain⟨b,off,rfl,hb,hc,hmx,hat⟩:=HS.out.at_ (by omega);obtain⟨q,hq⟩:∃q,l[m]? = some q:=⟨_,List.getElem?_eq_getElem hml⟩;obtain⟨A1,A2,A3,c1,c2,c3,h7⟩:=hat m q hq;obtain⟨x0,x1,x2,x3,x4,x5,x6,-⟩:=h7.fr HF.out hb hB (by simp);have hmi:((lo:Int)+(hi:Int)) / 2=(m:Int):=by omega
   have hM:=hid hm
   have hnew:(z4k q.key s < 0→m < z1x Ent.key l s)∧(¬z4k q.key s < 0→z1x Ent.key l s≤m):=⟨fun h=>by
    rcases Nat.lt_or_ge m (z1x Ent.key l s) with h'|h'
    ·exact h'
    ·exact absurd h (zga Ent.key HR.out h' hq),fun h=>by
    rcases Nat.lt_or_ge m (z1x Ent.key l s) with h'|h'
    ·exact absurd (z7h Ent.key h' hq) h
    ·exact h'⟩
   have HN:=hid hnew;have FL:=hid (fun W b c d e f g=>zi8 q.key s b c d e f g W);clear hat h7 hq hnew hm;generalize z4k q.key s=o at *;by_cases ho:o < 0
   ·have hn:=HN.out.1 ho;clear HN;go_wp2_with fail;refine(FL.out _ _ _ _ _ _ _).mono ?_;rintro e w2 ⟨rfl,f2⟩;clear hmi;go_wp2;go_roundg (hi - (m+1))
    case measure=>have:=hM.out;omega
    case rel=>exact⟨m+1,hi,rfl,by go_num,rfl,by omega,h2,h3,HF.out.trans f2⟩
   ·have hn:=HN.out.2 ho;clear HN;go_wp2_with fail;refine(FL.out _ _ _ _ _ _ _).mono ?_;rintro e w2 ⟨rfl,f2⟩;clear hmi;go_wp2;go_roundg (m - lo)
    case measure=>have:=hM.out;omega
    case rel=>exact⟨lo,m,rfl,rfl,rfl,h1,hn,by omega,HF.out.trans f2⟩
  ·obtain rfl:hi=lo:=by omega
   obtain⟨lw,hlw⟩:∃lw,lw=z1x Ent.key l s:=⟨_,rfl⟩;obtain rfl:hi=lw:=by omega
   have HL:=hid hlw;by_cases hn:hi < l.length
   ·obtain⟨b,off,rfl,hb,hc,hmx,hat⟩:=HS.out.at_ (by omega);obtain⟨q,hq⟩:∃q,l[hi]? = some q:=⟨_,List.getElem?_eq_getElem hn⟩;obtain⟨A1,A2,A3,c1,c2,c3,h7⟩:=hat hi q hq;obtain⟨x0,x1,x2,x3,x4,x5,x6,-⟩:=h7.fr HF.out hb hB (by simp);have FL:=hid (fun W b c d e f g=>zi8 q.key s b c d e f g W);have HH:=hid (show z5y Ent.key l s=decide (z4k q.key s=0) from by unfold z5y;rw[←hlw,hq]);clear hat h7 hq hlw h1 h2;generalize z4k q.key s=o at *;by_cases ho:o=0
    ·subst ho;have HH2:=hid (HH.out.trans (decide_eq_true rfl));clear HH;go_wp2_with fail;refine(FL.out _ _ _ _ _ _ _).mono ?_;rintro e w2 ⟨rfl,f2⟩;go_wp2;go_ret2;refine⟨?_,HF.out.trans f2⟩;rw[←HL.out,HH2.out];rfl
    ·have q1:(o==0)=false:=by simpa using ho
     have HH2:=hid (HH.out.trans (decide_eq_false ho));clear ho HH;go_wp2_with fail;refine(FL.out _ _ _ _ _ _ _).mono ?_;rintro e w2 ⟨rfl,f2⟩;go_wp2;go_ret2;refine⟨?_,HF.out.trans f2⟩;rw[←HL.out,HH2.out];rfl
   ·have HH:=hid (show z5y Ent.key l s=false from by unfold z5y;rw[←hlw,List.getElem?_eq_none (by omega)]);clear h1 h2 hlw;go_wp2;go_ret2;refine⟨?_,HF.out⟩;rw[←HL.out,HH.out];rfl
theorem z9s(l:List Ent)(s:ByteArray)(A:Option Addr)(c B:Nat)(w:World)(hr:rises (ltK Ent.key) l=true)(hl:l.length≤281474976710656)(hB:B≤w.heap.size)(h:z1l w B (.slice A l.length c) l):
  Calls prog 211 #[.slice A l.length c,.string s] w (z4c (z1x Ent.key l s) (z5y Ent.key l s) w):=by
 have I:=hid (zuw l s A c B w hr hl hB h);clear h;unfold z4c at I ⊢;go_enter Tryz.func211,Tryz.ntmps211;go_wp2_with fail;refine I.out.mono ?_;rintro e w1 ⟨rfl,f1⟩;go_wp2;go_ret2;exact⟨rfl,f1⟩
def zbx(l:List Ent)(now:Int)(s:ByteArray):Option Ent:=l.find? fun e=>decide (e.key=s)&&!z4o e.til now
def z00(l:List Ent)(now:Int)(s:ByteArray):Ent:=(zbx l now s).getD q07
def z18(l:List Ent)(now:Int)(s:ByteArray):Bool:=(zbx l now s).isSome
theorem zpb{l:List Ent}(hr:rises (ltK Ent.key) l=true){i j:Nat}{a b:Ent}(ha:l[i]? = some a)(hb:l[j]? = some b)(h:a.key=b.key):a=b:=by
 have h1:=zf4 Ent.key hr ha;have h2:=zf4 Ent.key hr hb;rw[h] at h1;have:i=j:=by rw[←h1,←h2]
 subst this;rw[ha] at hb;exact Option.some.inj hb
theorem zlx{l:List Ent}(hr:rises (ltK Ent.key) l=true){i:Nat}{e:Ent}(he:l[i]? = some e)(now:Int):zbx l now e.key=if z4o e.til now=true then none else some e:=by
 unfold zbx;by_cases hg:z4o e.til now=true
 ·rw[if_pos hg,List.find?_eq_none];intro x hx hp;obtain⟨j,hj⟩:=List.getElem?_of_mem hx;simp at hp;have:=zpb hr hj he hp.1;rw[this,hg] at hp;exact absurd hp.2 (by decide)
 ·rw[if_neg hg];rcases hf:l.find? (fun x=>decide (x.key=e.key)&&!z4o x.til now) with _|x
  ·have:=List.find?_eq_none.1 hf e (List.mem_of_getElem? he);simp at this;exact absurd this hg
  ·have h1:=List.find?_some hf;have h2:=List.mem_of_find?_eq_some hf;obtain⟨j,hj⟩:=List.getElem?_of_mem h2;simp at h1;rw[hf,zpb hr hj he h1.1]
theorem zsa{l:List Ent}(hr:rises (ltK Ent.key) l=true){s:ByteArray}(h:z5y Ent.key l s=false)(now:Int):zbx l now s=none:=by
 unfold zbx;rw[List.find?_eq_none];intro x hx hp;simp at hp;obtain⟨j,hj⟩:=List.getElem?_of_mem hx;have:=zcm Ent.key hr hj;rw[hp.1,h] at this;cases this
def zw1(e:Ent)(b:Bool)(B:Nat)(w:World)(r:Ending)(w':World):Prop:=∃cs,r=.returned (.tuple #[.agg cs,.bool b])∧zgk w' B cs.toList e∧Fr [] w w'
theorem zwo(w:World)(B:Nat):zgk w B [.string ⟨#[]⟩,.int .i64 0,.string ⟨#[]⟩,.slice none 0 0,.slice none 0 0,.slice none 0 0,.int .i64 0] q07:=⟨none,0,none,0,none,0,rfl,Sl.nil _ _ _,Sl.nil _ _ _,Sl.nil _ _ _⟩
def set7(w:World)(o:Nat)(a b c d e f g:Value):World:=((((((w.setCell ⟨o,0,none⟩ a).setCell ⟨o,1,none⟩ b).setCell ⟨o,2,none⟩ c).setCell ⟨o,3,none⟩ d).setCell ⟨o,4,none⟩ e).setCell ⟨o,5,none⟩ f).setCell ⟨o,6,none⟩ g
theorem z5o{w wr:World}{o:Nat}(h:Fr [] w wr)(ho:w.heap.size≤o)(a b c d e f g:Value):Fr [] w (set7 wr o a b c d e f g):=
 ((((((h.setCell (p:=⟨o,0,none⟩) (.inr ho) _).setCell (p:=⟨o,1,none⟩) (.inr ho) _).setCell (p:=⟨o,2,none⟩) (.inr ho) _).setCell (p:=⟨o,3,none⟩) (.inr ho) _).setCell (p:=⟨o,4,none⟩) (.inr ho) _).setCell (p:=⟨o,5,none⟩) (.inr ho) _).setCell (p:=⟨o,6,none⟩) (.inr ho) _
theorem z96(l:List Ent)(v:Value)(now:Int)(s:ByteArray)(w:World)(B:Nat)(hr:rises (ltK Ent.key) l=true)(hl:l.length≤281474976710656)(hB:B≤w.heap.size)(h:z1l w B v l):
  Calls prog 162 #[v,.int .i64 now,.string s] w (zw1 (z00 l now s) (z18 l now s) B w):=by
 obtain⟨A,c,rfl⟩:=h.form;have F0:=hid ((Fr.refl [] w).alloc (.cells #[.string ⟨#[]⟩,.int .i64 0,.string ⟨#[]⟩,.slice none 0 0,.slice none 0 0,.slice none 0 0,.int .i64 0] 81));have W0:=hid (Whole.new w 81 [.string ⟨#[]⟩,.int .i64 0,.string ⟨#[]⟩,.slice none 0 0,.slice none 0 0,.slice none 0 0,.int .i64 0]);have FD:=hid (fun W (hW:Fr [] w W)=>z9s l s A c B W hr hl (Nat.le_trans hB hW.size) (h.fr hW hB (by simp)));have HV:=hid h;have HR:=hid hr;unfold z4c at FD;clear h hr;by_cases hh:z5y Ent.key l s=true
 ·obtain⟨e,he,hk⟩:=(z32 Ent.key).1 hh;subst hk;have hlt:=(List.getElem?_eq_some_iff.1 he).1;obtain⟨b,off,rfl,hb,hc,hmx,hat⟩:=HV.out.at_ (by omega);obtain⟨A1,A2,A3,c1,c2,c3,h7⟩:=hat _ e he;have H7:=hid h7;have EL:=hid (zlx HR.out he now);have GO:=hid (fun W=>zce e.til now W);rw[hh] at FD;clear hat h7 he hh;generalize z1x Ent.key l e.key=k at *;have ix0:(0:Int)≤(k:Int):=by omega
  have ix1:(k:Int) < (l.length:Int):=by omega
  unfold maxLen at hmx;by_cases hg:z4o e.til now=true
  ·have E1:=hid (show zbx l now e.key=none from EL.out.trans (if_pos hg));rw[hg] at GO;clear EL hg;go_enter Tryz.func162,Tryz.ntmps162;go_wp2_with fail;refine(FD.out _ F0.out).mono ?_;rintro e1 w1 ⟨rfl,f1⟩;have F1:=hid (F0.out.trans f1);have W1:=hid (W0.out.fr f1 (by simp));have P7:=hid (H7.out.fr F1.out hb hB (by simp));obtain⟨x0,x1,x2,x3,x4,x5,x6,-⟩:=P7.out;clear f1;go_wp2_with fail;refine(GO.out _).mono ?_;rintro e2 w2 ⟨rfl,rfl⟩;obtain⟨a0,a1,a2,a3,a4,a5,a6⟩:=seven W1.out;obtain⟨b0,b1,b2,b3,b4,b5,b6⟩:=z3u W1.out;go_wp2;refine bodyPost_ret (v:=.tuple #[.agg #[.string ⟨#[]⟩,.int .i64 0,.string ⟨#[]⟩,.slice none 0 0,.slice none 0 0,.slice none 0 0,.int .i64 0],.bool false]) (by simp[results,Tryz.results162,go_sem,a0,a1,a2,a3,a4,a5,a6]) rfl ?_;unfold z00 z18;rw[E1.out];exact⟨_,rfl,zwo _ _,z5o F1.out (Nat.le_refl _) _ _ _ _ _ _ _⟩
  ·have hg':z4o e.til now=false:=by simpa using hg
   have E1:=hid (show zbx l now e.key=some e from EL.out.trans (if_neg hg));rw[hg'] at GO;clear EL hg hg';go_enter Tryz.func162,Tryz.ntmps162;go_wp2_with fail;refine(FD.out _ F0.out).mono ?_;rintro e1 w1 ⟨rfl,f1⟩;have F1:=hid (F0.out.trans f1);have W1:=hid (W0.out.fr f1 (by simp));have P7:=hid (H7.out.fr F1.out hb hB (by simp));obtain⟨x0,x1,x2,x3,x4,x5,x6,-⟩:=P7.out;clear f1;go_wp2_with fail;refine(GO.out _).mono ?_;rintro e2 w2 ⟨rfl,rfl⟩;obtain⟨a0,a1,a2,a3,a4,a5,a6⟩:=seven W1.out;obtain⟨b0,b1,b2,b3,b4,b5,b6⟩:=z3u W1.out;go_wp2;refine bodyPost_ret (v:=.tuple #[.agg (z8f e A1 c1 A2 c2 A3 c3).toArray,.bool true]) (by simp[results,Tryz.results162,go_sem,z8f,a0,a1,a2,a3,a4,a5,a6]) rfl ?_;unfold z00 z18;rw[E1.out];exact⟨_,rfl,H7.out.ent.fr (z5o F1.out (Nat.le_refl _) _ _ _ _ _ _ _) hB (by simp),z5o F1.out (Nat.le_refl _) _ _ _ _ _ _ _⟩
 ·have hh':z5y Ent.key l s=false:=by simpa using hh
  have E1:=hid (zsa HR.out hh' now);rw[hh'] at FD;clear hh hh';generalize z1x Ent.key l s=k at *;go_enter Tryz.func162,Tryz.ntmps162;go_wp2_with fail;refine(FD.out _ F0.out).mono ?_;rintro e1 w1 ⟨rfl,f1⟩;have F1:=hid (F0.out.trans f1);have W1:=hid (W0.out.fr f1 (by simp));clear f1;obtain⟨a0,a1,a2,a3,a4,a5,a6⟩:=seven W1.out;obtain⟨b0,b1,b2,b3,b4,b5,b6⟩:=z3u W1.out;go_wp2;refine bodyPost_ret (v:=.tuple #[.agg #[.string ⟨#[]⟩,.int .i64 0,.string ⟨#[]⟩,.slice none 0 0,.slice none 0 0,.slice none 0 0,.int .i64 0],.bool false]) (by simp[results,Tryz.results162,go_sem,a0,a1,a2,a3,a4,a5,a6]) rfl ?_;unfold z00 z18;rw[E1.out];exact⟨_,rfl,zwo _ _,z5o F1.out (Nat.le_refl _) _ _ _ _ _ _ _⟩
end Go.Proofs.YtmalkppcahogjaaGreatDoor
