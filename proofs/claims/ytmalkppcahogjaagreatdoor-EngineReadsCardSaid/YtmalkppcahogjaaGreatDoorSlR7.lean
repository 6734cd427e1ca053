/- Contracts; no condition but each theorem's own. -/
import Derived.Test.YtmalkppcahogjaaGreatDoorSlR6
import Derived.Defers
import Derived.Laws.ResultCell
import Derived.Recover
import Derived.StillTailTactics
set_option linter.unusedVariables false
set_option linter.unusedSimpArgs false
set_option maxHeartbeats 8000000
set_option maxRecDepth 100000
namespace Go.Proofs.YtmalkppcahogjaaGreatDoor
open Lib (hid)
open Go.Proofs.Tryz (prog)
open Go.RowKit
attribute [local go_sem] z1k
def z3t(w:World)(pb:Nat)(p:ByteArray)(k:Nat)(e:Ending)(w':World):Prop:=
 match z2x p k with
 | some x=>∃a f:Value,e=.returned (.agg #[a,f])∧z5j w' w.heap.size w'.heap.size x.1 a f∧PSt w' pb p x.2∧Fr [pb] w w'
 | none=>e=.panicked [{ v:=zda,recovered:=false }]∧Fr [pb] w w'
theorem partAt_cls'{p:ByteArray}{a:Nat}(h:a < p.size)(h91:z03 p a=91):z2x p a =
  (match cls p (if z48 p (a+1+0) 94 then a+1+1 else a+1) with
   | none=>none
   | some y=>if y.1.isEmpty then none else some (Part.cls (z48 p (a+1+0) 94) y.1,y.2+1)):=by
 unfold z2x z48;rw[if_pos h,if_neg (by omega),if_neg (by omega),if_pos h91];simp only[Bool.decide_and,Nat.add_zero];rfl
theorem Whole.two{w:World}{g:Nat}{t:TypeId}{a b:Value}(h:Whole w g t [a,b]):
  w.cell? ⟨g,0,none⟩=some a∧w.cell? ⟨g,1,none⟩=some b∧w.frozen? ⟨g,0,none⟩=false∧w.frozen? ⟨g,1,none⟩=false:=⟨h.cell 0,h.cell 1,h.frozen 0,h.frozen 1⟩
theorem z7g{w w1:World}{pb:Nat}{p:ByteArray}{k k':Nat}{P:Part}{a f:Value}(E:z2x p k=some (P,k'))(hpi:z5j w1 w.heap.size w1.heap.size P a f)(hp:PSt w1 pb p k')(hf:Fr [pb] w w1):
  z3t w pb p k (.returned (.agg #[a,f])) w1:=by
 unfold z3t;rw[E];exact⟨a,f,rfl,hpi,hp,hf⟩
theorem zp8{w w1:World}{pb:Nat}{p:ByteArray}{k:Nat}(E:z2x p k=none)(hf:Fr [pb] w w1):
  z3t w pb p k (.panicked [{ v:=zda,recovered:=false }]) w1:=by
 unfold z3t;rw[E];exact⟨rfl,hf⟩
theorem zq8(p:ByteArray)(pb k:Nat)(w:World)(hs:p.size≤281474976710656)(h:PSt w pb p k)(hk:k < p.size)(h42:z03 p k=42):
  Calls prog 342 #[.pointer (some ⟨pb,0,none⟩)] w (z3t w pb p k):=by
 have hlt:=h.lt;have b0:=z1u p k;have H:=hid h;clear h;have g42:((z03 p k:Int)==42)=true:=by simp;omega
 have E:=hid (show z2x p k=some (.star,k+1) by unfold z2x;rw[if_pos hk,if_pos h42]);clear h42;go_enter Tryz.func342,Tryz.ntmps342;go_wp2_with fail;refine(z6m p pb k _ hs (H.out.alloc _) hk).mono ?_;rintro e w1 ⟨rfl,hp1,hf1⟩;have hq1:=(Whole.new w 286 [.bool false,.nilFunc]).fr hf1 (by simp;omega);have HF1:=hid (((Fr.refl [pb] w).alloc _).trans hf1);have hsz1:w.heap.size < w1.heap.size:=hq1.lt;clear hf1;obtain⟨a0,a1,z0,z1⟩:=hq1.two;go_wp2;refine bodyPost_ret (v:=.agg #[.bool true,.nilFunc]) (by simp[results,Tryz.results342,go_sem,a0,a1]) rfl ?_;exact z7g E.out ⟨rfl,rfl⟩ ((hp1.far (by simp;omega) _).far (by simp;omega) _) ((HF1.out.setCell (.inr (by simp)) _).setCell (.inr (by simp)) _)
theorem q0o(p:ByteArray)(pb k:Nat)(w:World)(hs:p.size≤281474976710656)(h:PSt w pb p k)(hk:k < p.size)(h63:z03 p k=63):
  Calls prog 342 #[.pointer (some ⟨pb,0,none⟩)] w (z3t w pb p k):=by
 have hlt:=h.lt;have b0:=z1u p k;have H:=hid h;clear h;have g42:((z03 p k:Int)==42)=false:=by simp;omega
 have g63:((z03 p k:Int)==63)=true:=by simp;omega
 have E:=hid (show z2x p k=some (.any,k+1) by unfold z2x;rw[if_pos hk,if_neg (by omega),if_pos h63]);clear h63;go_enter Tryz.func342,Tryz.ntmps342;go_wp2_with fail;refine(z6m p pb k _ hs (H.out.alloc _) hk).mono ?_;rintro e w1 ⟨rfl,hp1,hf1⟩;have hq1:=(Whole.new w 286 [.bool false,.nilFunc]).fr hf1 (by simp;omega);have HF1:=hid (((Fr.refl [pb] w).alloc _).trans hf1);have hsz1:w.heap.size < w1.heap.size:=hq1.lt;clear hf1;obtain⟨a0,a1,z0,z1⟩:=hq1.two;go_wp2;refine bodyPost_ret (v:=.agg #[.bool false,.func (.func 365) #[] #[]]) (by simp[results,Tryz.results342,go_sem,a0,a1]) rfl ?_;exact z7g E.out ⟨rfl,rfl⟩ ((hp1.far (by simp;omega) _).far (by simp;omega) _) ((HF1.out.setCell (.inr (by simp)) _).setCell (.inr (by simp)) _)
theorem zxv(p:ByteArray)(pb k:Nat)(w:World)(hs:p.size≤281474976710656)(h:PSt w pb p k)(hk:k < p.size)(h91:z03 p k=91):
  Calls prog 342 #[.pointer (some ⟨pb,0,none⟩)] w (z3t w pb p k):=by
 have hlt:=h.lt;have b0:=z1u p k;have H:=hid h;clear h;have g42:((z03 p k:Int)==42)=false:=by simp;omega
 have g63:((z03 p k:Int)==63)=false:=by simp;omega
 have g91:((z03 p k:Int)==91)=true:=by simp;omega
 have hE:=partAt_cls' hk h91;have E:=hid hE;clear h91 hE;go_enter Tryz.func342,Tryz.ntmps342;go_wp2_with fail;refine(z6m p pb k _ hs (H.out.alloc _) hk).mono ?_;rintro e w1 ⟨rfl,hp1,hf1⟩;have hq1:=(Whole.new w 286 [.bool false,.nilFunc]).fr hf1 (by simp;omega);have HF1:=hid (((Fr.refl [pb] w).alloc _).trans hf1);have hsz1:w.heap.size < w1.heap.size:=hq1.lt;clear hf1;go_wp2_with fail;refine(zr4 p pb (k+1) _ _ _ hs hp1 (by omega) rfl rfl).mono ?_;rintro e w2 hpost;unfold zrm at hpost;rcases hpost with⟨x,f,hx,hne,rfl,hpi,hps,hf2⟩|⟨hno,rfl,hf2⟩
 ·have hE2:z2x p k=some (.cls (z48 p (k+1+0) 94) x.1,x.2+1):=by
   rw[E.out,hx];simp only;rw[if_neg (by simpa using hne)]
  have E2:=hid hE2;have hq2:=hq1.fr hf2 (by simp;omega);have HF2:=hid (HF1.out.trans hf2);obtain⟨a0,a1,z0,z1⟩:=hq2.two;obtain⟨hfa,b,b2,hl,hb,hl2,hb2,rfl,ht,hn⟩:=hpi;have HPI:=hid (show z5j w2 w1.heap.size w2.heap.size (.cls (z48 p (k+1+0) 94) x.1) (.bool false) _ from⟨rfl,b,b2,hl,hb,hl2,hb2,rfl,ht,hn⟩);clear hE2 hx hne hf2 ht hn;go_wp2;refine bodyPost_ret (v:=.agg #[.bool false,.func (.func 378) #[] #[.pointer (some ⟨b,0,none⟩),.pointer (some ⟨b2,0,none⟩)]]) (by simp[results,Tryz.results342,go_sem,a0,a1]) rfl ?_;exact z7g E2.out (HPI.out.keep (fun g _ _ hg _ _ _=>by
  rw[Below.heap_setCell _ _ _ _ (by simp;omega),Below.heap_setCell _ _ _ _ (by simp;omega)]) (by omega) (by simp[World.setCell]))
    ((hps.far (by simp;omega) _).far (by simp;omega) _) ((HF2.out.setCell (.inr (by simp)) _).setCell (.inr (by simp)) _)
 ·have hE2:z2x p k=none:=by
   rw[E.out];cases hc:cls p (if z48 p (k+1+0) 94 then k+1+1 else k+1) with
   | none=>rfl
   | some x=>simp only;rw[if_pos (by simpa using hno x hc)]
  have E2:=hid hE2;clear hE2 hno;go_wp2;exact⟨rfl,zp8 E2.out (HF1.out.trans hf2)⟩
theorem zyi(p:ByteArray)(pb k:Nat)(w:World)(hs:p.size≤281474976710656)(h:PSt w pb p k)(hk:k < p.size)(h92:z03 p k=92):
  Calls prog 342 #[.pointer (some ⟨pb,0,none⟩)] w (z3t w pb p k):=by
 have hlt:=h.lt;have b0:=z1u p k;have H:=hid h;clear h;have g42:((z03 p k:Int)==42)=false:=by simp;omega
 have g63:((z03 p k:Int)==63)=false:=by simp;omega
 have g91:((z03 p k:Int)==91)=false:=by simp;omega
 have g92:((z03 p k:Int)==92)=true:=by simp;omega
 have hE:z2x p k=if k+1 < p.size then some (.lit (z03 p (k+1)),k+2) else none:=by
  unfold z2x;rw[if_pos hk,if_neg (by omega),if_neg (by omega),if_neg (by omega),if_pos h92]
 by_cases h2:k+1 < p.size
 ·rw[if_pos h2] at hE;have E:=hid hE;have b1:=z1u p (k+1);clear hE h92;go_enter Tryz.func342,Tryz.ntmps342;go_wp2_with fail;refine(z6m p pb k _ hs (H.out.alloc _) hk).mono ?_;rintro e w1 ⟨rfl,hp1,hf1⟩;have hq1:=(Whole.new w 286 [.bool false,.nilFunc]).fr hf1 (by simp;omega);have HF1:=hid (((Fr.refl [pb] w).alloc _).trans hf1);have hsz1:w.heap.size < w1.heap.size:=hq1.lt;clear hf1;go_wp2_with fail;refine(z6m p pb (k+1) _ hs hp1 h2).mono ?_;rintro e w2 ⟨rfl,hp2,hf2⟩;have hq2:=hq1.fr hf2 (by simp;omega);have HF2:=hid (HF1.out.trans hf2);have hsz2:w.heap.size < w2.heap.size:=hq2.lt;clear hf2 hq1 hp1;go_wp2_with fail;refine(zf1 _ _).mono ?_;rintro e w3 ⟨⟨f,rfl,hpi⟩,hf3⟩;have hq3:=hq2.fr hf3 (by simp);have HF3:=hid (HF2.out.trans hf3.up);have hps:=hid (Whole.fr hp2 hf3 (by simp));obtain⟨a0,a1,z0,z1⟩:=hq3.two;obtain⟨hfa,b,hl,hb,rfl,ht⟩:=hpi;have HPI:=hid (show z5j w3 w2.heap.size w3.heap.size (.lit (z03 p (k+1))) (.bool false) _ from⟨rfl,b,hl,hb,rfl,ht⟩);clear hf3 ht;go_wp2;refine bodyPost_ret (v:=.agg #[.bool false,.func (.func 379) #[] #[.pointer (some ⟨b,0,none⟩)]]) (by simp[results,Tryz.results342,go_sem,a0,a1]) rfl ?_
  exact z7g E.out (HPI.out.keep (fun g _ _ hg _ _ _=>by
   rw[Below.heap_setCell _ _ _ _ (by simp;omega),Below.heap_setCell _ _ _ _ (by simp;omega)]) (by omega) (by simp[World.setCell]))
    ((PSt.far hps.out (by simp;omega) _).far (by simp;omega) _) ((HF3.out.setCell (.inr (by simp)) _).setCell (.inr (by simp)) _)
 ·rw[if_neg h2] at hE;have E:=hid hE;clear hE h92;go_enter Tryz.func342,Tryz.ntmps342;go_wp2_with fail;refine(z6m p pb k _ hs (H.out.alloc _) hk).mono ?_;rintro e w1 ⟨rfl,hp1,hf1⟩;have hq1:=(Whole.new w 286 [.bool false,.nilFunc]).fr hf1 (by simp;omega);have HF1:=hid (((Fr.refl [pb] w).alloc _).trans hf1);have hsz1:w.heap.size < w1.heap.size:=hq1.lt;clear hf1;go_wp2_with fail;refine(zme p pb (k+1) _ hs hp1 (by omega)).mono ?_;rintro e w2 ⟨rfl,hf2⟩;go_wp2;exact⟨rfl,zp8 E.out (HF1.out.trans hf2)⟩
theorem zvr(p:ByteArray)(pb k:Nat)(w:World)(hs:p.size≤281474976710656)(h:PSt w pb p k)(hk:k < p.size)(h42:z03 p k≠42)(h63:z03 p k≠63)(h91:z03 p k≠91)(h92:z03 p k≠92):
  Calls prog 342 #[.pointer (some ⟨pb,0,none⟩)] w (z3t w pb p k):=by
 have hlt:=h.lt;have b0:=z1u p k;have H:=hid h;clear h;have g42:((z03 p k:Int)==42)=false:=by simp;omega
 have g63:((z03 p k:Int)==63)=false:=by simp;omega
 have g91:((z03 p k:Int)==91)=false:=by simp;omega
 have g92:((z03 p k:Int)==92)=false:=by simp;omega
 have E:=hid (show z2x p k=some (.lit (z03 p k),k+1) by
  unfold z2x;rw[if_pos hk,if_neg h42,if_neg h63,if_neg h91,if_neg h92])
 clear h42 h63 h91 h92;go_enter Tryz.func342,Tryz.ntmps342;go_wp2_with fail;refine(z6m p pb k _ hs (H.out.alloc _) hk).mono ?_;rintro e w1 ⟨rfl,hp1,hf1⟩;have hq1:=(Whole.new w 286 [.bool false,.nilFunc]).fr hf1 (by simp;omega);have HF1:=hid (((Fr.refl [pb] w).alloc _).trans hf1);have hsz1:w.heap.size < w1.heap.size:=hq1.lt;clear hf1;go_wp2_with fail;refine(zf1 _ _).mono ?_;rintro e w3 ⟨⟨f,rfl,hpi⟩,hf3⟩;have hq3:=hq1.fr hf3 (by simp);have HF3:=hid (HF1.out.trans hf3.up);have hps:=hid (Whole.fr hp1 hf3 (by simp));obtain⟨a0,a1,z0,z1⟩:=hq3.two;obtain⟨hfa,b,hl,hb,rfl,ht⟩:=hpi;have HPI:=hid (show z5j w3 w1.heap.size w3.heap.size (.lit (z03 p k)) (.bool false) _ from⟨rfl,b,hl,hb,rfl,ht⟩);clear hf3 ht;go_wp2;refine bodyPost_ret (v:=.agg #[.bool false,.func (.func 379) #[] #[.pointer (some ⟨b,0,none⟩)]]) (by simp[results,Tryz.results342,go_sem,a0,a1]) rfl ?_
 exact z7g E.out (HPI.out.keep (fun g _ _ hg _ _ _=>by
  rw[Below.heap_setCell _ _ _ _ (by simp;omega),Below.heap_setCell _ _ _ _ (by simp;omega)]) (by omega) (by simp[World.setCell]))
   ((PSt.far hps.out (by simp;omega) _).far (by simp;omega) _) ((HF3.out.setCell (.inr (by simp)) _).setCell (.inr (by simp)) _)
theorem zud(p:ByteArray)(pb k:Nat)(w:World)(hs:p.size≤281474976710656)(h:PSt w pb p k)(hk:k < p.size):
  Calls prog 342 #[.pointer (some ⟨pb,0,none⟩)] w (z3t w pb p k):=by
 by_cases h42:z03 p k=42
 ·exact zq8 p pb k w hs h hk h42
 ·by_cases h63:z03 p k=63
  ·exact q0o p pb k w hs h hk h63
  ·by_cases h91:z03 p k=91
   ·exact zxv p pb k w hs h hk h91
   ·by_cases h92:z03 p k=92
    ·exact zyi p pb k w hs h hk h92
    ·exact zvr p pb k w hs h hk h42 h63 h91 h92
attribute [local go_sem] z1k
theorem caught(b1 b2:Nat)(v1 v2:Value)(w:World)(h1:w.cell? ⟨b1,0,none⟩=some v1)(h2:w.cell? ⟨b2,0,none⟩=some v2)(hb:b1 < w.heap.size)(hb2:b2 < w.heap.size)(hne:b1≠b2)(z1:w.frozen? ⟨b1,0,none⟩=false)(z2:w.frozen? ⟨b2,0,none⟩=false):
  CallsD prog 341 #[.pointer (some ⟨b1,0,none⟩),.pointer (some ⟨b2,0,none⟩)] (.panicking [{ v:=zda,recovered:=false }]) w fun e u' w'=>
   e=.returned (.tuple #[])∧u'=.panicking [{ v:=zda,recovered:=true }]∧w'=((w.setCell ⟨b1,0,none⟩ (.slice none 0 0)).setCell ⟨b2,0,none⟩ (.bool false)).alloc (.cells #[] 325):=by
 have hta:∀W:World,(Instr.typeAssert (.iface 325 (.agg #[])) 20 325 true).run prog W=.ok (.tuple #[.agg #[],.bool true]) W:=fun _=>by kernel_rfl
 refine callsD_of_wpS Tryz.func341 rfl fun c₀ cs hu=>?_;unfold zda at hu ⊢;apply wpS_seq;apply wpS_region;simp[wpOpsS,go_sem,recoverD,hu,Tryz.ntmps341,Exit.thenS];apply wpS_seq;apply wpS_region;simp[wpOpsS,go_sem,Exit.thenS,Array.replicate];refine wpS_cond (t:=true) (by simp[Act.eval]) ?_;simp only[if_true];refine wpS_of_wp ?_;go_wp2;simp[bodyPostS,results,Tryz.results341]
theorem idle(b1 b2:Nat)(w:World):
  CallsD prog 341 #[.pointer (some ⟨b1,0,none⟩),.pointer (some ⟨b2,0,none⟩)] .returning w fun e u' w'=>e=.returned (.tuple #[])∧u'=.returning∧w'=w:=by
 refine callsD_of_wpS Tryz.func341 rfl fun c₀ cs hu=>?_;apply wpS_seq;apply wpS_region;simp[wpOpsS,go_sem,recoverD,hu,Tryz.ntmps341,Exit.thenS];apply wpS_seq;apply wpS_region;simp[wpOpsS,go_sem,Exit.thenS,Array.replicate];refine wpS_cond (t:=false) (by simp[Act.eval]) ?_;simp only[Bool.false_eq_true,if_false];refine wpS_of_wp (wp_skip ?_);cases c₀
 simp_all [bodyPostS,results,Tryz.results341]
theorem Tryz.info286:(prog.info? 286).map (fun i=>(i.zero,i.size,i.bytes))=some (some (.agg #[.bool false,.nilFunc]),2,16):=by kernel_rfl
def cellsOf(w:World)(L B:Nat):List Part→List Value→Prop
 | [],xs=>xs=[]
 | P :: ps,xs=>∃a f r,xs=a :: f :: r∧z5j w L B P a f∧cellsOf w L B ps r
structure PtL(w wr:World)(p:ByteArray)(k n:Nat)(v:Value)(ps:List Part)(xs:List Value):Prop where
 st:PSt wr (w.heap.size+1+1) p k
 c0:Whole wr w.heap.size 238 [v]
 c1:Whole wr (w.heap.size+1) 4 [.bool false]
 own:wr.ownsRow (w.heap.size+3) 286 2 v n xs
 cells:cellsOf wr (w.heap.size+3) wr.heap.size ps xs
 fr:Fr [] w wr
 sz:w.heap.size+3≤wr.heap.size
def z99(w:World)(p:ByteArray)(e:Ending)(w':World):Prop:=
 match z2a p 0 with
 | some l=>∃v n xs,e=.returned (.tuple #[v,.bool true])∧w'.ownsRow (w.heap.size+3) 286 2 v n xs∧cellsOf w' (w.heap.size+3) w'.heap.size (l.map (·.2)) xs∧n=l.length∧Fr [] w w'
 | none=>e=.returned (.tuple #[.slice none 0 0,.bool false])∧Fr [] w w'
theorem cellsOf.keep{w w':World}{L L' B B':Nat}(hb:∀(g:Nat) (t:TypeId) (cs:Array Value),L≤g→g < B→t≠286→w.heap[g]? = some (.cells cs t (0,0))→w'.heap[g]? = w.heap[g]?)(hL:L'≤L)(hB:B≤B'):∀ {ps:List Part} {xs:List Value},cellsOf w L B ps xs→cellsOf w' L' B' ps xs
 | [],_,h=>h
 | P :: ps,xs,h=>by
  obtain⟨a,f,r,e,h1,h2⟩:=h;exact⟨a,f,r,e,h1.keep hb hL hB,cellsOf.keep hb hL hB h2⟩
theorem cellsOf.snoc{w:World}{L B:Nat}{P:Part}{a f:Value}(hP:z5j w L B P a f):∀ {ps:List Part} {xs:List Value},cellsOf w L B ps xs→cellsOf w L B (ps++[P]) (xs++[a,f])
 | [],xs,h=>by
  have:xs=[]:=h;subst this;exact⟨a,f,[],rfl,hP,rfl⟩
 | Q :: ps,xs,h=>by
  obtain⟨a',f',r,e,h1,h2⟩:=h;subst e;exact⟨a',f',r++[a,f],rfl,h1,cellsOf.snoc hP h2⟩
theorem zbq{w:World}{base:Nat}{e:TypeId}{size n:Nat}{v:Value}{xs:List Value}(h:w.ownsRow base e size v n xs):∃A c,v=.slice A n c:=by
 rcases h.2 with⟨rfl,rfl⟩|⟨g,cap,cur,rfl,_⟩
 ·exact⟨_,_,rfl⟩
 ·exact⟨_,_,rfl⟩
theorem zaz{w w':World}{base:Nat}{e:TypeId}{size n:Nat}{v:Value}{xs:List Value}{S:List Nat}(h:w.ownsRow base e size v n xs)(hf:Fr S w w')(hS:∀g,v.ownBlock=some g→g∉S):w'.ownsRow base e size v n xs:=by
 refine⟨h.1,?_⟩;rcases h.2 with hn|⟨g,cap,cur,rfl,hb,hgg,rest⟩
 ·exact .inl hn
 ·exact .inr ⟨g,cap,cur,rfl,hb,(hf.block g (Array.getElem?_eq_some_iff.1 hgg).1 (hS g rfl)).trans hgg,rest⟩
theorem zow(p:ByteArray)(w:World)(hs:p.size≤60):
  Calls prog 289 #[.string p] w (z99 w p):=by
 have hmf:∀(fn:Fn) (first cap:Array Value) (w:World),(Instr.makeFunc fn first cap).run prog w=.ok (.func fn first cap) w:=fun _ _ _ _=>rfl;obtain⟨i0,hi,hz0,hz1,hz2⟩:=info_parts Tryz.info286
 have hL0:PtL w (((w.alloc (.cells #[.slice none 0 0] 238)).alloc (.cells #[.bool false] 4)).alloc (.cells #[.string p,.int .i64 0] 329)) p 0 0 (.slice none 0 0) [] []:=
  ⟨show Whole _ _ _ _ by simpa using Whole.new ((w.alloc (.cells #[.slice none 0 0] 238)).alloc (.cells #[.bool false] 4)) 329 [.string p,.int .i64 0],
   ((Whole.new w 238 [.slice none 0 0]).alloc _).alloc _,by simpa using (Whole.new (w.alloc (.cells #[.slice none 0 0] 238)) 4 [.bool false]).alloc _,
   World.ownsRow_nil _ _ _ _,rfl,(((Fr.refl _ w).alloc _).alloc _).alloc _,by simp⟩
 have HL0:=hid hL0;have HI:=hid hi;have HZ:=hid hz0;have HZ1:=hid hz1;have HZ2:=hid hz2;clear hL0 hi hz0 hz1 hz2
 go_enter_defers Tryz.func289,Tryz.ntmps289
 go_wp2;go_loopg [5] p.size (fun g _ wr=>∃(k n:Nat) (A:Option Addr) (c:Nat) (ps:List (Nat×Part)) (xs:List Value),g=p.size - k∧k≤p.size∧n≤k∧n=ps.length∧PtL w wr p k n (.slice A n c) (ps.map (·.2)) xs∧z2a p 0=(z2a p k).map (ps++·))
 case atStart=>exact⟨0,0,_,_,[],[],rfl,Nat.zero_le _,Nat.le_refl _,rfl,HL0.out,by simp⟩
 case round=>
  clear HL0;obtain⟨k,n,A,c,ps,xs,rfl,hk,hnk,hn,hL,hR⟩:=hrel;have HL:=hid hL;have HR:=hid hR;have HN:=hid hn;obtain⟨c0,c1,f0,f1,_⟩:=hL.st.facts;have q0:=hL.c0.cell 0;have z0:=hL.c0.frozen 0;have q1:=hL.c1.cell 0;have z1:=hL.c1.frozen 0;simp at q0 q1;have l0:=hL.c0.lt;have l1:=hL.c1.lt;clear hL hR hn;by_cases hlt:k < p.size
  ·go_wp2_with fail;refine(zud p (w.heap.size+1+1) k _ (by omega) HL.out.st hlt).mono ?_;intro e w1 hpost;unfold z3t at hpost;cases hpa:z2x p k with
   | none=>
    rw[hpa] at hpost;obtain⟨rfl,hf⟩:=hpost;have hno:z2a p 0=none:=by rw[HR.out,z5r,if_pos hlt,hpa];rfl
    have HNO:=hid hno;clear hno hpa;have e0:=HL.out.c0.fr hf (by simp;omega);have e1:=HL.out.c1.fr hf (by simp);have HFF:=hid ((HL.out.fr.step hf (fun x hx=>.inr (by simp at hx;omega))));have r0:=e0.cell 0;have r1:=e1.cell 0;have y0:=e0.frozen 0;have y1:=e1.frozen 0;simp at r0 r1;have l0':=e0.lt;have l1':=e1.lt;have E0:=hid e0;have E1:=hid e1;clear e0 e1 hf;go_wp2;refine leaves_cons (f:=341) (args:=#[.pointer (some ⟨w.heap.size,0,none⟩),.pointer (some ⟨w.heap.size+1,0,none⟩)]) (by simp) (by simp[go_sem]) ?_;refine(caught _ _ _ _ _ r0 r1 l0' l1' (by simp) y0 y1).mono ?_;rintro e u' w'' ⟨rfl,rfl,rfl⟩;have s0:=(((E0.out.set_ 0 (.slice none 0 0)).far (p:=⟨w.heap.size+1,0,none⟩) (by simp) (.bool false)).alloc (.cells #[] 325)).cell 0;have s1:=(((E1.out.far (p:=⟨w.heap.size,0,none⟩) (by simp) (.slice none 0 0)).set_ 0 (.bool false)).alloc (.cells #[] 325)).cell 0;simp at s0 s1;simp[Leaves,settle,results,Tryz.results289,go_sem,s0,s1];unfold z99;rw[HNO.out];exact⟨rfl,((HFF.out.setCell (.inr (by simp)) _).setCell (.inr (by simp)) _).alloc _⟩
   | some x=>
    rw[hpa] at hpost;obtain⟨a,f,rfl,hpi,hps,hf⟩:=hpost;have hx:=zak hpa;have hst:=hpi.one;have hsa:∀(W:World) (ad:Addr) (m:Mode),(store ad a m).run prog W=stored prog W ad a m:=fun W ad m=>run_store _ _ _ _ _ hst.1;have hsf:∀(W:World) (ad:Addr) (m:Mode),(store ad f m).run prog W=stored prog W ad f m:=fun W ad m=>run_store _ _ _ _ _ hst.2;have e0:=HL.out.c0.fr hf (by simp;omega);have e1:=HL.out.c1.fr hf (by simp);have r0:=e0.cell 0;have r1:=e1.cell 0;have y0:=e0.frozen 0;have y1:=e1.frozen 0;simp at r0 r1;have l0':=e0.lt;have l1':=e1.lt
    have hown1:=((zaz HL.out.own hf (fun g hg=>by
     have:=HL.out.own.lt g hg;simp;omega)).alloc (.cells #[a,f] 286)).alloc (.cells #[a,f] 286)
    have hsz1:=hf.size;have HPI:=hid hpi;have HPS:=hid hps;have HPA:=hid hpa;have HF:=hid hf;have HST:=hid hst;have E0:=hid e0;have E1:=hid e1;clear hpi hps hpa hf hst e0 e1;go_wp2_with (at_builtin;refine wpList_append_own _ rfl (.tmp 19) (.tmp 21) 238 rfl (w.heap.size+3) 286 i0 (.agg #[.bool false,.nilFunc]) 2 16 Tryz.underlying238 HI.out HZ.out HZ1.out HZ2.out rfl (by decide) (.slice A n c) n xs rfl hown1 ⟨w1.heap.size+1,0,none⟩ 1 1 [a,f] rfl rfl ?c1 ?c2 ?c3 ?c4 ?c5 ?_)
    case c1=>
     intro j u hj
     match j,hj with
     | 0,hj=>simpa[Addr.add] using hj
     | 1,hj=>simpa[Addr.add] using hj
    case c2=>
     intro u hu;simp at hu;rcases hu with rfl|rfl
     ·exact HST.out.1
     ·exact HST.out.2
    case c3=>simp[maxLen];omega
    case c4=>omega
    case c5=>simp;have:=HL.out.sz;omega
    intro v' w2 hown2 hgrow _;obtain⟨A',c',hv'⟩:=zbq hown2
    have hne:(Value.slice A n c).ownBlock≠some w.heap.size:=fun e=>by
     have:=HL.out.own.lt _ e;omega
    have hne1:(Value.slice A n c).ownBlock≠some (w.heap.size+1):=fun e=>by
     have:=HL.out.own.lt _ e;omega
    have hne2:(Value.slice A n c).ownBlock≠some (w.heap.size+1+1):=fun e=>by
     have:=HL.out.own.lt _ e;omega
    have g0:=((E0.out.alloc (.cells #[a,f] 286)).alloc (.cells #[a,f] 286)).grown hgrow (Ne.symm hne);have g1:=((E1.out.alloc (.cells #[a,f] 286)).alloc (.cells #[a,f] 286)).grown hgrow (Ne.symm hne1);have g2:PSt w2 (w.heap.size+1+1) p x.2:=Whole.grown (Whole.alloc (Whole.alloc HPS.out _) _) hgrow (Ne.symm hne2);have HFW:=hid ((((HL.out.fr.step HF.out (fun x hx=>.inr (by simp at hx;omega))).alloc (.cells #[a,f] 286)).alloc (.cells #[a,f] 286)).grown hgrow (fun k hk=>.inr (by have:=HL.out.own.lt k hk;omega)));have HOWN:=hid hown2;have HG:=hid hgrow;have m0:=g0.cell 0;have y0':=g0.frozen 0;simp at m0;have G0:=hid g0;have G1:=hid g1;have G2:=hid g2;clear hown2 hgrow hne hne1 hne2 g0 g1 g2 hown1;subst hv';go_wp2;go_roundg (p.size - x.2)
    case measure=>omega
    case rel=>
     have hown:=HOWN.out;have hG:=HG.out;have hsz:=HL.out.sz;have hlt2:=hG.size;simp at hlt2;have hset:Fr [w.heap.size] w2 (w2.setCell ⟨w.heap.size,0,none⟩ (.slice A' (n+1) c')):=(Fr.refl _ _).setCell (.inl (by simp)) _
     have hblk:∀(g:Nat) (t:TypeId) (cs:Array Value),w.heap.size+3≤g→g < w1.heap.size→t≠286→w1.heap[g]? = some (.cells cs t (0,0))→(w2.setCell ⟨w.heap.size,0,none⟩ (.slice A' (n+1) c')).heap[g]? = w1.heap[g]? := by
      intro g t cs hg hg2 ht hc;rw[Below.heap_setCell _ _ _ _ (by simp;omega)]
      have hal:((w1.alloc (.cells #[a,f] 286)).alloc (.cells #[a,f] 286)).heap[g]? = w1.heap[g]? := by
       rw[Below.heap_alloc _ _ _ (by simp;omega),Below.heap_alloc _ _ _ hg2]
      rw[hG.block g (by simp;omega) ?_,hal];intro e;rcases HL.out.own.2 with⟨e2,_⟩|⟨g',cap,cur,e2,_,hcur,_⟩
      ·cases e2;cases e
      ·cases e2;simp[Value.ownBlock] at e;subst e;have:=(HF.out.block g (by have:=HL.out.own.lt g rfl;omega) (by simp;omega));rw[hc,hcur] at this;injection this with this
       injection this with _ h2
       exact ht h2
     refine⟨x.2,n+1,A',c',ps++[(k,x.1)],xs++[a,f],rfl,hx.2,by omega,by simp[HN.out],⟨Whole.far G2.out (by simp;omega) _,G0.out.set_ 0 _,G1.out.far (by simp) _,zaz hown hset (fun g hg=>by have:=hown.lt g hg;simp;omega),?_,HFW.out.setCell (.inr (by simp)) _,?_⟩,?_⟩
     ·rw[List.map_append];refine cellsOf.snoc (P:=x.1) (HPI.out.keep (fun g t cs hg hg2 ht hc=>hblk g t cs (by omega) hg2 ht hc) hsz ?_) ?_
      ·simp[World.setCell];omega
      ·refine HL.out.cells.keep (fun g t cs hg hg2 ht hc=>?_) (Nat.le_refl _) ?_
       ·have e1:=HF.out.block g hg2 (by simp;omega);rw[←e1];exact hblk g t cs hg (by omega) ht (e1.trans hc)
       ·simp[World.setCell];omega
     ·simp[World.setCell];omega
     ·rw[HR.out,z5r,if_pos hlt,HPA.out];simp;rfl
  ·have hyes:z2a p 0=some ps:=by rw[HR.out,z5r,if_neg hlt];simp
   have HY:=hid hyes;clear hyes;go_wp2;refine leaves_cons (f:=341) (args:=#[.pointer (some ⟨w.heap.size,0,none⟩),.pointer (some ⟨w.heap.size+1,0,none⟩)]) (by simp) (by simp[go_sem]) ?_;refine(idle _ _ _).mono ?_;rintro e u' w'' ⟨rfl,rfl,rfl⟩;simp[Leaves,settle,results,Tryz.results289,go_sem,q0,q1];unfold z99;rw[HY.out];have hL:=HL.out
   have hf2:Fr [w.heap.size,w.heap.size+1] wr ((wr.setCell ⟨w.heap.size,0,none⟩ (.slice A n c)).setCell ⟨w.heap.size+1,0,none⟩ (.bool true)):=
    ((Fr.refl _ _).setCell (.inl (by simp)) _).setCell (.inl (by simp)) _
   refine⟨_,n,xs,rfl,zaz hL.own hf2 (fun g hg=>by have:=hL.own.lt g hg;simp;omega),hL.cells.keep (fun g _ _ hg hg2 _ _=>hf2.block g hg2 (by simp;omega)) (Nat.le_refl _) (by simp[World.setCell]),HN.out,?_⟩
   ·exact hL.fr.step hf2 (fun x hx=>.inr (by simp at hx;omega))
attribute [local go_sem] z1k
def zre(w:World)(p:ByteArray)(e:Ending)(w':World):Prop:=
 (z0y p=0∧p.size≤60∧∃l v xs,z2a p 0=some l∧e=.returned (.tuple #[v,.int .i64 0])∧w'.ownsRow (w.heap.size+3) 286 2 v l.length xs∧cellsOf w' (w.heap.size+3) w'.heap.size (l.map (·.2)) xs∧Fr [] w w') ∨
 (z0y p≠0∧e=.returned (.tuple #[.slice none 0 0,.int .i64 (z0y p)])∧Fr [] w w')
theorem z9c(p:ByteArray)(w:World)(hs:p.size≤281474976710656):
  Calls prog 214 #[.string p] w (zre w p):=by
 by_cases h60:60 < p.size
 ·have hE:z0y p=2:=by unfold z0y;rw[if_pos h60]
  have E:=hid hE;clear hE;go_enter Tryz.func214,Tryz.ntmps214;go_wp2;go_ret2;refine .inr ⟨by rw[E.out];decide,by rw[E.out];rfl,Fr.refl _ _⟩
 ·have hE:z0y p=if (z2a p 0).isSome then 0 else 1:=by unfold z0y okAt;rw[if_neg h60]
  have E:=hid hE;clear hE;go_enter Tryz.func214,Tryz.ntmps214;go_wp2_with fail;refine(zow p _ (by omega)).mono ?_;intro e w1 hpost;unfold z99 at hpost;cases hp:z2a p 0 with
  | none=>
   rw[hp] at hpost E;obtain⟨rfl,hf⟩:=hpost;go_wp2;go_ret2;refine .inr ⟨by rw[E.out];decide,by rw[E.out];rfl,hf⟩
  | some l=>
   rw[hp] at hpost E;obtain⟨v,n,xs,rfl,hown,hcells,rfl,hf⟩:=hpost;have HP:=hid hp;clear hp;go_wp2;go_ret2;exact .inl ⟨by rw[E.out];rfl,by omega,l,v,xs,HP.out,rfl,hown,hcells,hf⟩
theorem zgf(p:ByteArray)(w:World)(hs:p.size≤281474976710656):
  Calls prog 164 #[.string p] w fun e w'=>e=.returned (.int .i64 (z0y p))∧Fr [] w w':=by
 go_enter Tryz.func164,Tryz.ntmps164;go_wp2_with fail;refine(z9c p _ hs).mono ?_;intro e w1 hpost;rcases hpost with⟨hc,_,l,v,xs,hp,rfl,_,_,hf⟩|⟨hc,rfl,hf⟩
 ·have HC:=hid hc;clear hc hp;go_wp2;go_ret;rw[HC.out];exact⟨rfl,hf⟩
 ·clear hc;go_wp2;go_ret;exact⟨rfl,hf⟩
attribute [local go_sem] z1k
theorem Tryz.info4:(prog.info? 4).map (fun i=>(i.zero,i.size,i.bytes))=some (some (.bool false),1,1):=by kernel_rfl
theorem zci{w:World}{L B:Nat}:∀ {ps:List Part} {xs:List Value} {k:Nat} {P:Part},cellsOf w L B ps xs→ps[k]? = some P→∃a f,xs[k * 2]? = some a∧xs[k * 2+1]? = some f∧z5j w L B P a f
 | [],_,k,P,_,hk=>by simp at hk
 | Q :: ps,xs,0,P,h,hk=>by
  obtain⟨a,f,r,rfl,h1,h2⟩:=h;simp at hk;subst hk;exact⟨a,f,rfl,rfl,h1⟩
 | Q :: ps,xs,k+1,P,h,hk=>by
  obtain⟨a,f,r,rfl,h1,h2⟩:=h;simp at hk;obtain⟨a',f',e1,e2,h3⟩:=zci h2 hk;refine⟨a',f',?_,?_,h3⟩
  ·rw[show(k+1) * 2=k * 2+1+1 by omega];simpa using e1
  ·rw[show(k+1) * 2+1=k * 2+1+1+1 by omega];simpa using e2
structure MOut(w wr:World)(g m:Nat)(f:Nat→Bool):Prop where
 row:wr.rowIs g 4 m (fun i=>.bool (f i))
 lo:w.heap.size≤g
 fr:Fr [] w wr
structure MIn(w wi:World)(g g1 m i:Nat)(F N:Nat→Bool)(a f:Value):Prop where
 row:wi.rowIs g 4 m (fun j=>.bool (F j))
 nx:wi.rowIs (g1+1) 4 m (fun j=>.bool (if j < i then N j else false))
 bx:Whole wi g1 286 [a,f]
 fr:Fr [] w wi
 sz:g1+1 < wi.heap.size
theorem MIn.put{w wi:World}{g g1 m i:Nat}{F N:Nat→Bool}{a f:Value}(h:MIn w wi g g1 m i F N a f)(hg:g < g1)(hw:w.heap.size≤g1)(b:Bool)(hb:b=N i):
  MIn w (wi.setCell ⟨g1+1,i,none⟩ (.bool b)) g g1 m (i+1) F N a f:=
 ⟨h.row.setOther (by simp;omega) _,(h.nx.set i _).congr (fun j _=>by
  by_cases hj:j=i
  ·subst hj;simp[hb]
  ·rw[if_neg hj];by_cases h1:j < i
   ·rw[if_pos h1,if_pos (by omega)]
   ·rw[if_neg h1,if_neg (by omega)]),h.bx.far (by simp) _,h.fr.setCell (.inr (by simp;omega)) _,by simpa[World.setCell] using h.sz⟩
theorem MIn.skip{w wi:World}{g g1 m:Nat}{F N:Nat→Bool}{a f:Value}(h:MIn w wi g g1 m 0 F N a f)(h0:N 0=false):MIn w wi g g1 m 1 F N a f:=
 ⟨h.row,h.nx.congr (fun j _=>by
  by_cases hj:j=0
  ·subst hj;simp[h0]
  ·rw[if_neg (by omega),if_neg (by omega)]),h.bx,h.fr,h.sz⟩
theorem MIn.like{w wi wj:World}{g g1 m i:Nat}{F N:Nat→Bool}{a f:Value}(h:MIn w wi g g1 m i F N a f)(e:wj.heap=wi.heap)(e2:wj.os=wi.os)(e3:wj.tape=wi.tape)(e4:wj.output=wi.output):MIn w wj g g1 m i F N a f:=by
 cases wi;cases wj;simp only at e e2 e3 e4;subst e;subst e2;subst e3;subst e4;exact⟨h.row,h.nx,h.bx,⟨h.fr.os,h.fr.tape,h.fr.output,h.fr.size,h.fr.block⟩,h.sz⟩
theorem zqn(ps:List Part)(base B:Nat)(v:Value)(xs:List Value)(s:ByteArray)(w:World)(hs:s.size≤60)(hps:ps.length≤60)(hB:B≤w.heap.size)
  (hown:w.ownsRow base 286 2 v ps.length xs) (hcells:cellsOf w base B ps xs):
  Calls prog 215 #[v,.string s] w fun e w'=>e=.returned (.bool (z3c ps s s.size))∧Fr [] w w':=by
 have hmk:=run_make_row' (P:=prog) 208 4 (.bool false) 1 Tryz.underlying208 Tryz.info4 rfl .i64 .i64 (s.size+1) (by omega) (by omega);have ec:((s.size+1:Nat):Int)=(s.size:Int)+1:=by omega
 rw[ec] at hmk;clear ec;obtain⟨A,c,hv⟩:=zbq hown;subst hv;have HOWN:=hid hown;have HC:=hid hcells;clear hown hcells
 have hA0:MOut w ((w.alloc (.cells (madeCells #[.bool false] (s.size+1)) 4)).setCell ⟨w.heap.size,0,none⟩ (.bool true)) w.heap.size (s.size+1) (z3c (ps.take 0) s):=
  ⟨((World.rowIs_made w (.bool false) (s.size+1) 4).set 0 (.bool true)).congr (fun i _=>by
   by_cases h:i=0 <;> simp[z3c,h]),Nat.le_refl _,((Fr.refl _ w).alloc _).setCell (.inr (by simp)) _⟩
 rw[World.setCell_alloc_at _ _ _ _ _ rfl] at hA0;have HA0:=hid hA0;clear hA0;have r0:=(World.rowIs_made w (.bool false) (s.size+1) 4).cell (i:=0) (by omega);have z0:=(World.rowIs_made w (.bool false) (s.size+1) 4).frozen 0;go_enter Tryz.func215,Tryz.ntmps215;go_wp2;clear r0 z0;go_loopg [5,7,8,9,18] ps.length (fun gk s5 _ _ _ s18 wr=>∃k g:Nat,gk=ps.length - k∧k≤ps.length∧s18=.int .i64 k∧s5=.slice (some ⟨g,0,none⟩) (s.size+1) (s.size+1)∧MOut w wr g (s.size+1) (z3c (ps.take k) s))
 case atStart=>exact⟨0,_,rfl,Nat.zero_le _,rfl,rfl,HA0.out⟩
 case round=>
  clear HA0;obtain⟨k,g,rfl,hk,rfl,rfl,hM⟩:=hrel;have HM:=hid hM;have hsz:=hM.fr.size;clear hM;by_cases hlt:k < ps.length
  ·obtain⟨P,hP⟩:∃P,ps[k]? = some P:=⟨ps[k],List.getElem?_eq_getElem hlt⟩;obtain⟨a,f,hxa,hxf,hpi⟩:=zci HC.out hP
   obtain⟨G,hA,hGlt⟩:∃G,A=some ⟨G,0,none⟩∧G < w.heap.size:=by
    rcases HOWN.out.2 with⟨e,h0⟩|⟨G,cap,cur,e,_,hG,_⟩
    ·omega
    ·cases e;exact⟨G,rfl,(Array.getElem?_eq_some_iff.1 hG).1⟩
   subst hA
   have q0:wr.cell? ⟨G,k * 2,none⟩=some a:=by
    rw[(HM.out.fr.cell? (p:=⟨G,k * 2,none⟩) hGlt (by simp)),HOWN.out.cellAt (k * 2) (by omega),hxa]
   have q1:wr.cell? ⟨G,k * 2+1,none⟩=some f:=by
    rw[(HM.out.fr.cell? (p:=⟨G,k * 2+1,none⟩) hGlt (by simp)),HOWN.out.cellAt (k * 2+1) (by omega),hxf]
   have hst:=hpi.one;have hsa:∀(W:World) (ad:Addr) (m:Mode),(store ad a m).run prog W=stored prog W ad a m:=fun W ad m=>run_store _ _ _ _ _ hst.1;have hsf:∀(W:World) (ad:Addr) (m:Mode),(store ad f m).run prog W=stored prog W ad f m:=fun W ad m=>run_store _ _ _ _ _ hst.2;have HPI:=hid hpi;have HP:=hid hP;clear hpi hP hxa hxf hst;obtain⟨F,hF⟩:∃F,F=z3c (ps.take k) s:=⟨_,rfl⟩;have HF:=hid hF;rw[←hF] at HM;clear hF;have hglt:g < wr.heap.size:=HM.out.row.lt
   have hI0:MIn w ((wr.alloc (.cells #[a,f] 286)).alloc (.cells (madeCells #[.bool false] (s.size+1)) 4)) g wr.heap.size (s.size+1) 0 F (z3d P F s) a f:=
    ⟨(HM.out.row.alloc _).alloc _,by simpa using World.rowIs_made (wr.alloc (.cells #[a,f] 286)) (.bool false) (s.size+1) 4,(Whole.new wr 286 [a,f]).alloc _,(HM.out.fr.alloc _).alloc _,by simp⟩
   have HI0:=hid hI0;clear hI0;go_wp2;clear q0 q1;obtain⟨g1,hg1⟩:∃g1,g1=wr.heap.size:=⟨_,rfl⟩;rw[←hg1] at HI0 hglt hsz ⊢;go_loopg [9,28] (s.size+1) (fun gk _ s28 wr=>∃i:Nat,gk=s.size+1 - i∧i≤s.size+1∧s28=.int .i64 i∧MIn w wr g g1 (s.size+1) i F (z3d P F s) a f)
   case atStart=>exact⟨0,rfl,Nat.zero_le _,rfl,HI0.out⟩
   case round=>
    clear HI0 hg1;obtain⟨i,rfl,hi,rfl,hI⟩:=hrel;have HI:=hid hI;have hisz:=hI.sz;obtain⟨bx0,bx1,_,_⟩:=hI.bx.two;clear hI;by_cases hil:i < s.size+1
    ·have cI:=HI.out.row.cell hil;have nI:=HI.out.nx.cell hil;have fI:=HI.out.nx.frozen i;cases hP:P with
     | star=>
      subst hP;obtain⟨rfl,rfl⟩:=HPI.out;cases hFi:F i with
      | true=>
       simp only[hFi] at cI;have HFi:=hid hFi;clear hFi;go_wp2;go_roundg (s.size+1 - (i+1))
       case measure=>omega
       case rel=>exact⟨i+1,rfl,by omega,by go_num,HI.out.put hglt (by omega) true (by cases i <;> simp[z3d,HFi.out])⟩
      | false=>
       simp only[hFi] at cI;have HFi:=hid hFi;clear hFi;cases i with
       | zero=>
        go_wp2;go_roundg (s.size+1 - 1)
        case measure=>omega
        case rel=>exact⟨1,rfl,by omega,rfl,HI.out.put hglt (by omega) false (by simp[z3d,HFi.out])⟩
       | succ j=>
        have nJ:=HI.out.nx.cell (i:=j) (by omega);simp only[Nat.lt_succ_self,if_true] at nJ;have hj0:decide ((0:Int) < (j:Int)+1)=true:=decide_eq_true (by omega);go_wp2;go_roundg (s.size+1 - (j+1+1))
        case measure=>omega
        case rel=>exact⟨j+1+1,rfl,by omega,by go_num,HI.out.put hglt (by omega) _ (by simp[z3d,HFi.out])⟩
     | any=>
      subst hP;obtain⟨rfl,rfl⟩:=HPI.out;have hN0:z3d .any F s 0=false:=rfl;have hN:∀j,z3d .any F s (j+1)=(F j&&true):=fun _=>rfl;have HN0:=hid hN0;have HN:=hid hN;clear hN0 hN;cases i with
      | zero=>
       go_wp2;go_roundg (s.size+1 - 1)
       case measure=>omega
       case rel=>exact⟨1,rfl,by omega,rfl,HI.out.skip HN0.out⟩
      | succ j=>
       have cJ:=HI.out.row.cell (i:=j) (by omega);have bj:=z1u s j;have hj0:(j:Int) < s.size:=by omega
       have hw1:IntKind.i64.wrap (j:Int)=(j:Int):=IntWalk.i64_in _ (by omega);have hw3:(j:Int) < (s.size:Int)+1:=by omega
       cases hFj:F j with
       | false=>
        simp only[hFj] at cJ;have HFj:=hid hFj;clear hFj;go_wp2
        go_region
        go_wp2;go_roundg (s.size+1 - (j+1+1))
        case measure=>omega
        case rel=>exact⟨j+1+1,rfl,by omega,by go_num,(HI.out.put hglt (by omega) false (by rw[HN.out,HFj.out];rfl)).like rfl rfl rfl rfl⟩
       | true=>
        simp only[hFj] at cJ;have HFj:=hid hFj;clear hFj;go_wp2
        go_region_with (refine(zvg _ _).mono ?_;rintro e w2 ⟨rfl,rfl⟩)
        all_goals
         go_wp2;go_roundg (s.size+1 - (j+1+1))
         case measure=>omega
         case rel=>exact⟨j+1+1,rfl,by omega,by go_num,(HI.out.put hglt (by omega) (true) (by rw[HN.out,HFj.out];rfl)).like rfl rfl rfl rfl⟩
     | lit x=>
      subst hP;obtain⟨rfl,b,hb1,hb2,rfl,hbw⟩:=HPI.out;have hN0:z3d (.lit x) F s 0=false:=rfl;have hN:∀j,z3d (.lit x) F s (j+1)=(F j&&decide (z03 s j=x)):=fun _=>rfl;have HN0:=hid hN0;have HN:=hid hN;clear hN0 hN;cases i with
      | zero=>
       go_wp2;go_roundg (s.size+1 - 1)
       case measure=>omega
       case rel=>exact⟨1,rfl,by omega,rfl,HI.out.skip HN0.out⟩
      | succ j=>
       have cJ:=HI.out.row.cell (i:=j) (by omega);have bj:=z1u s j;have hj0:(j:Int) < s.size:=by omega
       have hw1:IntKind.i64.wrap (j:Int)=(j:Int):=IntWalk.i64_in _ (by omega);have hw3:(j:Int) < (s.size:Int)+1:=by omega
       cases hFj:F j with
       | false=>
        simp only[hFj] at cJ;have HFj:=hid hFj;clear hFj;go_wp2
        go_region
        go_wp2;go_roundg (s.size+1 - (j+1+1))
        case measure=>omega
        case rel=>exact⟨j+1+1,rfl,by omega,by go_num,(HI.out.put hglt (by omega) false (by rw[HN.out,HFj.out];rfl)).like rfl rfl rfl rfl⟩
       | true=>
        simp only[hFj] at cJ;have HFj:=hid hFj;clear hFj;have hx:∀W:World,W.cell? ⟨b,0,none⟩=some (.int .u8 x)→Calls prog 379 #[.int .u8 (z03 s j:Int),.pointer (some ⟨b,0,none⟩)] W fun e w'=>e=.returned (.bool (decide (z03 s j=x)))∧W=w':=fun W hW=>zvx _ x b W hW;have HX:=hid hx;clear hx;have xc:wr.cell? ⟨b,0,none⟩=some (.int .u8 x):=(HI.out.fr.cell? (p:=⟨b,0,none⟩) (by show b < w.heap.size;omega) (by simp)).trans (hbw.cell 0);go_wp2
        go_region_with (refine(HX.out _ (by simpa using xc)).mono ?_;rintro e w2 ⟨rfl,rfl⟩)
        all_goals
         go_wp2;go_roundg (s.size+1 - (j+1+1))
         case measure=>omega
         case rel=>exact⟨j+1+1,rfl,by omega,by go_num,(HI.out.put hglt (by omega) (decide (z03 s j=x)) (by rw[HN.out,HFj.out];rfl)).like rfl rfl rfl rfl⟩
     | cls neg rs=>
      subst hP;obtain⟨rfl,b,b2,hb1,hb2,hb3,hb4,rfl,hbw,hbw2⟩:=HPI.out;have hN0:z3d (.cls neg rs) F s 0=false:=rfl;have hN:∀j,z3d (.cls neg rs) F s (j+1)=(F j&&(z2j rs (z03 s j) != neg)):=fun _=>rfl;have HN0:=hid hN0;have HN:=hid hN;clear hN0 hN;cases i with
      | zero=>
       go_wp2;go_roundg (s.size+1 - 1)
       case measure=>omega
       case rel=>exact⟨1,rfl,by omega,rfl,HI.out.skip HN0.out⟩
      | succ j=>
       have cJ:=HI.out.row.cell (i:=j) (by omega);have bj:=z1u s j;have hj0:(j:Int) < s.size:=by omega
       have hw1:IntKind.i64.wrap (j:Int)=(j:Int):=IntWalk.i64_in _ (by omega);have hw3:(j:Int) < (s.size:Int)+1:=by omega
       cases hFj:F j with
       | false=>
        simp only[hFj] at cJ;have HFj:=hid hFj;clear hFj;go_wp2
        go_region
        go_wp2;go_roundg (s.size+1 - (j+1+1))
        case measure=>omega
        case rel=>exact⟨j+1+1,rfl,by omega,by go_num,(HI.out.put hglt (by omega) false (by rw[HN.out,HFj.out];rfl)).like rfl rfl rfl rfl⟩
       | true=>
        simp only[hFj] at cJ;have HFj:=hid hFj;clear hFj;have hx:∀W:World,W.cell? ⟨b,z03 s j,none⟩=some (.bool (z2j rs (z03 s j)))→W.cell? ⟨b2,0,none⟩=some (.bool neg)→Calls prog 378 #[.int .u8 (z03 s j:Int),.pointer (some ⟨b,0,none⟩),.pointer (some ⟨b2,0,none⟩)] W fun e w'=>e=.returned (.bool (z2j rs (z03 s j) != neg))∧∃n,w'=W.drewN n:=fun W hW hW2=>ztd _ b b2 _ neg W bj hW hW2;have HX:=hid hx;clear hx;have xc:wr.cell? ⟨b,z03 s j,none⟩=some (.bool (z2j rs (z03 s j))):=(HI.out.fr.cell? (p:=⟨b,z03 s j,none⟩) (by show b < w.heap.size;omega) (by simp)).trans (hbw.cell bj);have xc2:wr.cell? ⟨b2,0,none⟩=some (.bool neg):=(HI.out.fr.cell? (p:=⟨b2,0,none⟩) (by show b2 < w.heap.size;omega) (by simp)).trans (hbw2.cell 0);go_wp2
        go_region_with (refine(HX.out _ (by simpa using xc) (by simpa using xc2)).mono ?_;rintro e w2 ⟨rfl,n2,rfl⟩)
        all_goals
         go_wp2;go_roundg (s.size+1 - (j+1+1))
         case measure=>omega
         case rel=>exact⟨j+1+1,rfl,by omega,by go_num,(HI.out.put hglt (by omega) ((z2j rs (z03 s j) != neg)) (by rw[HN.out,HFj.out];rfl)).like rfl rfl rfl rfl⟩
    ·have hie:i=s.size+1:=by omega
     go_wp2;go_roundg (ps.length - (k+1))
     case measure=>omega
     case rel=>
      refine⟨k+1,g1+1,rfl,by omega,by go_num,rfl,?_,by omega,HI.out.fr⟩;rw[zfl HP.out,←HF.out];exact HI.out.nx.congr (fun j hj=>by rw[if_pos (by omega)])
  ·have hke:k=ps.length:=by omega
   have cL:=HM.out.row.cell (i:=s.size) (by omega);have HKE:=hid hke;clear hke;go_wp2;go_ret;have:=HKE.out;subst this;rw[List.take_length];exact⟨rfl,HM.out.fr⟩
def z3r(p s:ByteArray):Int:=if z0y p=0∧60 < s.size then 2 else z0y p
def z4b(p s:ByteArray):Bool:=decide (z3r p s=0)&&z3c (((z2a p 0).getD []).map (·.2)) s s.size
theorem zfm(p s:ByteArray)(w:World)(hp:p.size≤281474976710656)(hs:s.size≤281474976710656):
  Calls prog 165 #[.string p,.string s] w fun e w'=>e=.returned (.tuple #[.bool (z4b p s),.int .i64 (z3r p s)])∧Fr [] w w':=by
 go_enter Tryz.func165,Tryz.ntmps165;go_wp2_with fail;refine(z9c p _ hp).mono ?_;intro e w1 hpost;rcases hpost with⟨hc,hp60,l,v,xs,hpl,rfl,hown,hcells,hf⟩|⟨hc,rfl,hf⟩
 ·by_cases h60:60 < s.size
  ·have hE:z3r p s=2:=by unfold z3r;rw[if_pos ⟨hc,h60⟩]
   have hA:z4b p s=false:=by unfold z4b;rw[hE];rfl
   have E:=hid hE;have A:=hid hA;clear hE hA hc hpl hown hcells;go_wp2;go_ret2;rw[E.out,A.out];exact⟨rfl,hf⟩
  ·have hE:z3r p s=0:=by unfold z3r;rw[if_neg (fun h=>h60 h.2),hc]
   have hA:z4b p s=z3c (l.map (·.2)) s s.size:=by unfold z4b;rw[hE,hpl];simp
   have E:=hid hE;have A:=hid hA;have hll:l.length≤60:=by have:=zhy hpl;omega
   clear hE hA hc hpl;have hown':=(show w1.ownsRow (w.heap.size+3) 286 2 v (l.map (·.2)).length xs by simpa using hown);clear hown;go_wp2_with fail;refine(zqn (l.map (·.2)) _ _ v xs s _ (by omega) (by simpa using hll) (Nat.le_refl _) hown' hcells).mono ?_;rintro e w2 ⟨rfl,hf2⟩;go_wp2;go_ret2;rw[E.out,A.out];exact⟨rfl,hf.trans hf2⟩
 ·have hE:z3r p s=z0y p:=by unfold z3r;rw[if_neg (fun h=>hc h.1)]
  have hA:z4b p s=false:=by unfold z4b;rw[hE];simp[hc]
  have E:=hid hE;have A:=hid hA;have hb:(z0y p==0)=false:=by simpa using hc
  have hb2:(z0y p != 0)=true:=by simpa using hc
  clear hE hA hc;go_wp2;go_ret2;rw[E.out,A.out];exact⟨rfl,hf⟩
attribute [local go_sem] z1k
end Go.Proofs.YtmalkppcahogjaaGreatDoor
namespace Go.Proofs.YtmalkppcahogjaaGreatDoor
open Lib (hid)
open Go.Proofs.Tryz (prog)
def nums(s:ByteArray):List Nat:=s.data.toList.map (·.toNat)
end Go.Proofs.YtmalkppcahogjaaGreatDoor
namespace Go.Proofs.YtmalkppcahogjaaGreatDoor
open Lib (hid)
open Go.Proofs.Tryz (prog)
open Go.RowKit
attribute [local go_sem] z1k
def keyM(p:ByteArray)(now:Int)(e:Ent):Bool:=z4b p e.key&&!z4o e.til now
def zd7(l:List Ent)(now:Int)(p:ByteArray):List ByteArray:=(l.filter (keyM p now)).map Ent.key
def zfd(l:List Ent)(now:Int)(p:ByteArray):Int:=if z0u l now ⟨#[]⟩=0 then z0y p else z0u l now ⟨#[]⟩
def zby(l:List Ent)(now:Int)(p:ByteArray):List ByteArray:=if zfd l now p=0 then zd7 l now p else []
def TCP(r:List ByteArray)(c:Int)(w:World)(e:Ending)(w':World):Prop:=∃A n,e=.returned (.tuple #[.slice A r.length n,.int .i64 c])∧w'.ownsRow w.heap.size 9 1 (.slice A r.length n) r.length (z04 r)∧Fr [] w w'
theorem zsz{l:List Ent}{k:Nat}{e:Ent}(now:Int)(p:ByteArray)(h:l[k]? = some e):zd7 (l.take (k+1)) now p=zd7 (l.take k) now p++(if keyM p now e=true then [e.key] else []):=by
 unfold zd7;rw[zkz _ h,List.map_append];congr 1;split <;> rfl
theorem zlq(l:List Ent)(k:Nat)(now:Int)(p:ByteArray):(zd7 (l.take k) now p).length≤l.length:=by
 unfold zd7;rw[List.length_map];exact zeb _ _
theorem za2(l:List Ent)(v:Value)(now:Int)(p:ByteArray)(w:World)(B:Nat)(hs:∀e∈l,e.Small)(hl:l.length≤281474976710656)(hz:p.size≤281474976710656)(hB:B≤w.heap.size)(h:z1l w B v l):
  Calls prog 109 #[v,.int .i64 now,.string p] w (TCP (zby l now p) (zfd l now p) w):=by
 obtain⟨i0,hi,hz0,hz1,hz2⟩:=info_parts z3h;obtain⟨A,c,rfl⟩:=h.form;have RD:=hid (z36 l _ now ⟨#[]⟩ w B hs hl (by decide) hB h);have GC:=hid (fun W=>zgf p W hz);have HV:=hid h;have HS:=hid hs;have EC:=hid (show zfd l now p=if z0u l now ⟨#[]⟩=0 then z0y p else z0u l now ⟨#[]⟩ from rfl);have ER:=hid (show zby l now p=if zfd l now p=0 then zd7 l now p else [] from rfl);clear h hs;by_cases ha:z0u l now ⟨#[]⟩=0
 ·rw[if_pos ha] at EC;have hl16:=(zwu (q0n ha).1).le;rw[ha] at RD;rw[EC.out] at ER ⊢;clear ha EC;by_cases hg:z0y p=0
  ·rw[if_pos hg] at ER;rw[hg] at GC ⊢;rw[ER.out];clear hg ER;go_enter Tryz.func109,Tryz.ntmps109;go_wp2_with fail;refine RD.out.mono ?_;rintro e1 w1 ⟨rfl,f1⟩;go_wp2_with fail;refine(GC.out _).mono ?_;rintro e2 w2 ⟨rfl,f2⟩;have F2:=hid (f1.trans f2);clear f1 f2;go_wp2;go_loopg [9,26] l.length (fun g o i wr=>∃(k:Nat) (cur:List ByteArray),g=l.length - k∧k≤l.length∧i=.int .i64 k∧Hid (cur=zd7 (l.take k) now p)∧wr.ownsRow w.heap.size 9 1 o cur.length (z04 cur)∧Fr [] w wr)
   case atStart=>exact⟨0,[],rfl,Nat.zero_le _,rfl,hid rfl,World.ownsRow_nil _ _ _ _,F2.out⟩
   case round=>
    obtain⟨k,cur,rfl,hk,rfl,hcur,hO,hf⟩:=hrel;have HF:=hid hf;have HO:=hid hO;have hzz:=hf.size;obtain⟨Ao,co,rfl,-⟩:=z05 hO;have hcl:cur.length≤l.length:=by rw[hcur.out];exact zlq _ _ _ _
    clear hf hO F2;by_cases hlt:k < l.length
    ·obtain⟨b,off,rfl,hb,hc,hmx,hat⟩:=HV.out.at_ (by omega);obtain⟨e,he⟩:∃e,l[k]? = some e:=⟨_,List.getElem?_eq_getElem hlt⟩;obtain⟨A1,A2,A3,c1,c2,c3,h7⟩:=hat k e he;have hes:=(HS.out e (List.mem_of_getElem? he)).key;have P7:=hid (h7.fr HF.out hb hB (by simp));obtain⟨x0,x1,x2,x3,x4,x5,x6,-⟩:=P7.out;have ET:=hid (zsz now p he);have GM:=hid (fun W=>zfm p e.key W hz hes);have GO:=hid (fun W=>zce e.til now W);have V1:=hid (Whole.new wr 81 [.string e.key,.int .i64 e.item.kind,.string e.item.text,.slice A1 e.item.list.length c1,.slice A2 e.item.pairs.length c2,.slice A3 e.item.scores.length c3,.int .i64 e.til]);have F1:=hid ((Fr.refl [] wr).alloc (.cells #[.string e.key,.int .i64 e.item.kind,.string e.item.text,.slice A1 e.item.list.length c1,.slice A2 e.item.pairs.length c2,.slice A3 e.item.scores.length c3,.int .i64 e.til] 81));have KM:=hid (show keyM p now e=(z4b p e.key&&!z4o e.til now) from rfl);clear hat h7 he hes;rw[KM.out,←hcur.out] at ET;generalize z3r p e.key=mc at *;rcases hm:z4b p e.key with _|_
     ·rw[hm] at GM ET;have ET2:=hid (ET.out.trans (by rw[Bool.false_and,if_neg (by decide),List.append_nil]));clear hm ET KM;go_wp2_with fail;refine(GM.out _).mono ?_;rintro e2 w2 ⟨rfl,f2⟩;have G2:=hid (F1.out.trans f2);clear f2;go_wp2;go_roundg (l.length - (k+1))
      case measure=>omega
      case rel=>exact⟨k+1,cur,rfl,by omega,by go_num,hid ET2.out.symm,z0p HO.out G2.out (by simp),HF.out.trans G2.out⟩
     ·rcases hg:z4o e.til now with _|_
      ·rw[hm,hg] at ET;rw[hm] at GM;rw[hg] at GO;have ET2:=hid (ET.out.trans (by rw[show(true&&!false)=true from rfl,if_pos rfl]));clear hm hg ET KM;go_wp2_with fail;refine(GM.out _).mono ?_;rintro e2 w2 ⟨rfl,f2⟩;have V2:=hid (V1.out.fr f2 (by simp));have G2:=hid (F1.out.trans f2);clear f2;have hzw:=V2.out.lt;obtain⟨y0,y1,y2,y3,y4,y5,y6⟩:=seven V2.out;have HO2:=hid ((z0p HO.out G2.out (by simp)).alloc (.cells #[.string e.key] 9));go_wp2_with fail;refine(GO.out _).mono ?_;rintro e3 w3 ⟨rfl,rfl⟩;have hO1:=hid (z0s (World.ownsRow_lit (base:=w2.heap.size) (e:=9) (size:=1) w2 #[.string e.key] 1 (Nat.le_refl _) (by decide) rfl));have h1:∀u∈[Value.string e.key],u.oneCell'=true:=fun u hu=>by simp at hu;subst hu;rfl
       go_wp2_with (at_builtin;refine z0j _ rfl _ _ 24 rfl w.heap.size 9 i0 _ 1 16 Tryz.underlying24 hi hz0 hz1 hz2 rfl (by decide) _ _ _ rfl HO2.out _ _ 1 _ rfl hO1.out h1 ?c1 ?c2 ?c3 ?_)
       case c1=>unfold maxLen;omega
       case c2=>omega
       case c3=>first|omega|(simp;omega)
       intro v' w5 hown hgrow hat5;have HO5:=hid hown;have F5:=hid ((HF.out.trans (G2.out.alloc (.cells #[.string e.key] 9))).grown hgrow (fun j hj=>.inr (HO2.out.lt j hj).1));clear hown hgrow hat5;go_wp2;go_roundg (l.length - (k+1))
       case measure=>omega
       case rel=>exact⟨k+1,_,rfl,by omega,by go_num,hid rfl,by rw[ET2.out,z4r,List.length_append];exact HO5.out,F5.out⟩
      ·rw[hm,hg] at ET;rw[hm] at GM;rw[hg] at GO;have ET2:=hid (ET.out.trans (by rw[show(true&&!true)=false from rfl,if_neg (by decide),List.append_nil]));clear hm hg ET KM;go_wp2_with fail;refine(GM.out _).mono ?_;rintro e2 w2 ⟨rfl,f2⟩;have V2:=hid (V1.out.fr f2 (by simp));have G2:=hid (F1.out.trans f2);clear f2;have hzw:=V2.out.lt;obtain⟨y0,y1,y2,y3,y4,y5,y6⟩:=seven V2.out;go_wp2_with fail;refine(GO.out _).mono ?_;rintro e3 w3 ⟨rfl,rfl⟩;go_wp2;go_roundg (l.length - (k+1))
       case measure=>omega
       case rel=>exact⟨k+1,cur,rfl,by omega,by go_num,hid ET2.out.symm,z0p HO.out G2.out (by simp),HF.out.trans G2.out⟩
    ·obtain rfl:k=l.length:=by omega
     have hc2:=hcur.out;rw[List.take_length] at hc2;go_wp2;go_ret2;rw[←hc2];exact⟨_,_,rfl,HO.out,HF.out⟩
  ·rw[if_neg hg] at ER;rw[ER.out];have q1:(z0y p != 0)=true:=by simpa using hg
   clear hg ER;generalize z0y p=r at *;go_enter Tryz.func109,Tryz.ntmps109;go_wp2_with fail;refine RD.out.mono ?_;rintro e1 w1 ⟨rfl,f1⟩;go_wp2_with fail;refine(GC.out _).mono ?_;rintro e2 w2 ⟨rfl,f2⟩;go_wp2;go_ret2;exact⟨_,_,rfl,World.ownsRow_nil _ _ _ _,f1.trans f2⟩
 ·rw[if_neg ha] at EC;rw[EC.out] at ER ⊢;rw[if_neg ha] at ER;rw[ER.out];have q1:(z0u l now ⟨#[]⟩ != 0)=true:=by simpa using ha
  have q2:(z0u l now ⟨#[]⟩==0)=false:=by simpa using ha
  clear ha ER EC;generalize z0u l now ⟨#[]⟩=r at *;go_enter Tryz.func109,Tryz.ntmps109;go_wp2_with fail;refine RD.out.mono ?_;rintro e1 w1 ⟨rfl,f1⟩;go_wp2;go_ret2;exact⟨_,_,rfl,World.ownsRow_nil _ _ _ _,f1⟩
def z5w(x:Itm)(l:List ByteArray):List ByteArray:=z8j (x.list++l)
def zms(x:Itm)(l:List ByteArray):Int:=if z02 3 x≠0 then z02 3 x else z13 l
def ze3(x:Itm)(l:List ByteArray):Int:=if zms x l≠0 then zms x l else if 24 < (z5w x l).length then 2 else 0
def zag(x:Itm)(l:List ByteArray):Itm:=if ze3 x l=0 then ofK 3 (z5w x l) else z2p 0
def ze5(x:Itm)(l:List ByteArray):Int:=if ze3 x l=0 then ((z5w x l).length:Int) - x.list.length else 0
theorem zxw{x:Itm}{l:List ByteArray}(h:zms x l=0):z02 3 x=0∧z13 l=0:=by
 unfold zms at h;by_cases ha:z02 3 x=0
 ·rw[if_neg (by simpa using ha)] at h;exact⟨ha,h⟩
 ·rw[if_pos ha] at h;exact absurd h ha
theorem zjf{x:Itm}{l:List ByteArray}(h:ze3 x l=0):zms x l=0∧(z5w x l).length≤24:=by
 unfold ze3 at h;by_cases hp:zms x l=0
 ·rw[if_neg (by simpa using hp)] at h;refine⟨hp,?_⟩;by_cases hc:24 < (z5w x l).length
  ·rw[if_pos hc] at h;cases h
  ·omega
 ·rw[if_pos hp] at h;exact absurd h hp
theorem zcv{x:Itm}{l:List ByteArray}(h:zms x l=0):∀s∈z5w x l,s.size≤60:=fun s hs=>by
 obtain⟨ha,hb⟩:=zxw h;rcases List.mem_append.1 (z8a.1 hs) with h1|h1
 ·exact(z1j ha).texts s h1
 ·exact z67 hb s h1
theorem znp(x:Itm)(v:Value)(l:List ByteArray)(Al:Option Addr)(cl:Nat)(w:World)(B:Nat)(hs:x.Small)(hB:B≤w.heap.size)(h:z0r w B v x)(hl:l.length≤8796093021952)(hL:Sl w B 1 (.slice Al l.length cl) l.length (z04 l)):
  Calls prog 253 #[v,.slice Al l.length cl] w (z4d (ze5 x l) (ze3 x l) (zag x l) w):=by
 have RD:=hid (fun W (hf:Fr [] w W)=>z7z x v W B hs (Nat.le_trans hB hf.size) (h.fr hf hB (by simp)));have SM:=hid (fun W (hf:Fr [] w W)=>zmd l Al cl W B (by omega) (Nat.le_trans hB hf.size) (hL.fr hf hB (by simp)));have HL:=hid hL;obtain⟨A1,c1,A2,c2,A3,c3,rfl,h1,h2,h3⟩:=h;have H1:=hid h1;have D0:=hid (BO.new w (.int .i64 x.kind) (.string x.text) (.slice A1 x.list.length c1) (.slice A2 x.pairs.length c2) (.slice A3 x.scores.length c3));obtain⟨d0,d1,d2,d3,d4⟩:=five D0.out.b;have EP:=hid (show zms x l=if z02 3 x≠0 then z02 3 x else z13 l from rfl);have EC:=hid (show ze3 x l=if zms x l≠0 then zms x l else if 24 < (z5w x l).length then 2 else 0 from rfl);have EY:=hid (show zag x l=if ze3 x l=0 then ofK 3 (z5w x l) else z2p 0 from rfl);have EK:=hid (show ze5 x l=if ze3 x l=0 then ((z5w x l).length:Int) - x.list.length else 0 from rfl);have OA:=hid (fun(h:z02 3 x=0)=>(zgp h).2);have ON:=hid (fun(h:z13 l=0)=>z67 h);have OX:=hid (fun(h:z02 3 x=0)=>(z1j h).texts);have EL:=hid (zvw 3 (z5w x l));have LL:=hid (show(z5w x l).length≤x.list.length+l.length from by have:=za1 (x.list++l);rw[List.length_append] at this;exact this);clear h1 h2 h3 hs hL
 have no0:∀c:Int,c≠0→ze3 x l=c→zag x l=z2p 0∧ze5 x l=0:=fun c hc he=>by
  have h0:ze3 x l≠0:=by rw[he];exact hc
  exact⟨by rw[EY.out,if_neg h0],by rw[EK.out,if_neg h0]⟩
 have NO:=hid no0;clear no0;by_cases ha:z02 3 x=0
 ·rw[ha] at RD;by_cases hb:z13 l=0
  ·rw[hb] at SM;have hp:zms x l=0:=by rw[EP.out,if_neg (by simpa using ha)];exact hb
   have h24:=OA.out ha;have hll:=LL.out
   have OF:=hid (fun W base u hb0 hu=>(show Calls prog 305 #[u] W (zq0 (ofK 3 (z5w x l)) base u W) from zhj (x.list++l) base u W (by rw[List.length_append];omega) (fun s hs=>by
    rcases List.mem_append.1 hs with h|h
    ·have:=OX.out ha s h;omega
    ·have:=ON.out hb s h;omega) hb0 hu))
   have HW:=hid (show IntKind.i64.wrap (((z5w x l).length:Int) - (x.list.length:Int))=((z5w x l).length:Int) - x.list.length from IntWalk.i64_in _ (by omega));by_cases hc:24 < (z5w x l).length
   ·have E:=hid (show ze3 x l=2 from by rw[EC.out,if_neg (by simpa using hp),if_pos hc]);obtain⟨e1,e2⟩:=NO.out 2 (by decide) E.out;rw[e1,e2,E.out];have q:((z5w x l).length:Int) > 24:=by omega
    have ELL:=hid (congrArg List.length EL.out);clear e1 e2 EP EC EY EK OA ON OX ha hb hc NO hp EL LL HW;generalize ofK 3 (z5w x l)=y at *;generalize (z5w x l).length=N at *;go_enter Tryz.func253,Tryz.ntmps253;go_wp2_with fail;refine(RD.out _ D0.out.f).mono ?_;rintro e w1 ⟨rfl,f1⟩;have D1:=hid (D0.out.go f1);clear d0 d1 d2 d3 d4;obtain⟨d0,d1,d2,d3,d4⟩:=five D1.out.b;go_wp2_with fail;refine(SM.out _ D1.out.f).mono ?_;rintro e w2 ⟨rfl,f2⟩;have D2:=hid (D1.out.go f2);clear d0 d1 d2 d3 d4;obtain⟨d0,d1,d2,d3,d4⟩:=five D2.out.b;have D3:=hid (D2.out.alloc (.cells #[.slice A1 x.list.length c1,.slice Al l.length cl] 24));have V3:=hid (Whole.new w2 24 [.slice A1 x.list.length c1,.slice Al l.length cl]);have CC:=hid (z6c x.list l _ _ w2.heap.size 2 _ B (by omega) (by omega) (by omega) (by omega) (Nat.le_trans hB D3.out.f.size) (H1.out.fr D3.out.f hB (by simp)) (HL.out.fr D3.out.f hB (by simp)) (V3.out.cell 0) (V3.out.cell 1));go_wp2_with fail;refine CC.out.mono ?_;rintro e w3 ⟨u,rfl,ho,f3⟩;have D4:=hid (D3.out.go f3);have hz:=D3.out.lt;obtain⟨U,cu,hu,-⟩:=z05 ho;rw[List.length_append] at hu;subst hu;have HO:=hid ho;clear d0 d1 d2 d3 d4 ho;go_wp2_with fail;refine(OF.out _ _ _ f3.size HO.out).mono ?_;rintro e w4 ⟨u,rfl,hi,f4⟩;have D4:=hid (D4.out.step f4 (fun g hg=>by have:=z1f HO.out hg;omega));have HI:=hid hi;obtain⟨P1,p1,P2,p2,P3,p3,rfl⟩:=hi.form;clear hi;have D5:=hid (D4.out.alloc (.cells #[.int .i64 y.kind,.string y.text,.slice P1 y.list.length p1,.slice P2 y.pairs.length p2,.slice P3 y.scores.length p3] 65));have V5:=hid (Whole.new w4 65 [.int .i64 y.kind,.string y.text,.slice P1 y.list.length p1,.slice P2 y.pairs.length p2,.slice P3 y.scores.length p3]);have q:(y.list.length:Int) > 24:=by rw[ELL.out];exact q
    obtain⟨a0,a1,a2,a3,a4⟩:=five D5.out.o;obtain⟨b0,b2,b3,b4,b5⟩:=z12 D5.out.o;obtain⟨g0,g1,g2,g3,g4⟩:=five V5.out;go_wp2;refine bodyPost_ret (v:=.tuple #[.agg #[.int .i64 0,.string ⟨#[]⟩,.slice none 0 0,.slice none 0 0,.slice none 0 0],.int .i64 0,.int .i64 2]) (by simp[results,Tryz.results253,go_sem,a0,a1,a2,a3,a4]) rfl ?_;exact⟨_,rfl,z0q.nothing _ _,D5.out.end5 _ _ _ _ _⟩
   ·have E:=hid (show ze3 x l=0 from by rw[EC.out,if_neg (by simpa using hp),if_neg hc]);rw[EY.out,EK.out,E.out,if_pos rfl,if_pos rfl];have q:¬(((z5w x l).length:Int) > 24):=by omega
    have ELL:=hid (congrArg List.length EL.out);clear EP EC EY EK OA ON OX ha hb hc NO hp EL LL E;generalize ofK 3 (z5w x l)=y at *;generalize (z5w x l).length=N at *;go_enter Tryz.func253,Tryz.ntmps253;go_wp2_with fail;refine(RD.out _ D0.out.f).mono ?_;rintro e w1 ⟨rfl,f1⟩;have D1:=hid (D0.out.go f1);clear d0 d1 d2 d3 d4;obtain⟨d0,d1,d2,d3,d4⟩:=five D1.out.b;go_wp2_with fail;refine(SM.out _ D1.out.f).mono ?_;rintro e w2 ⟨rfl,f2⟩;have D2:=hid (D1.out.go f2);clear d0 d1 d2 d3 d4;obtain⟨d0,d1,d2,d3,d4⟩:=five D2.out.b;have D3:=hid (D2.out.alloc (.cells #[.slice A1 x.list.length c1,.slice Al l.length cl] 24));have V3:=hid (Whole.new w2 24 [.slice A1 x.list.length c1,.slice Al l.length cl]);have CC:=hid (z6c x.list l _ _ w2.heap.size 2 _ B (by omega) (by omega) (by omega) (by omega) (Nat.le_trans hB D3.out.f.size) (H1.out.fr D3.out.f hB (by simp)) (HL.out.fr D3.out.f hB (by simp)) (V3.out.cell 0) (V3.out.cell 1));go_wp2_with fail;refine CC.out.mono ?_;rintro e w3 ⟨u,rfl,ho,f3⟩;have D4:=hid (D3.out.go f3);have hz:=D3.out.lt;obtain⟨U,cu,hu,-⟩:=z05 ho;rw[List.length_append] at hu;subst hu;have HO:=hid ho;clear d0 d1 d2 d3 d4 ho;go_wp2_with fail;refine(OF.out _ _ _ f3.size HO.out).mono ?_;rintro e w4 ⟨u,rfl,hi,f4⟩;have D4:=hid (D4.out.step f4 (fun g hg=>by have:=z1f HO.out hg;omega));have HI:=hid hi;obtain⟨P1,p1,P2,p2,P3,p3,rfl⟩:=hi.form;clear hi;have D5:=hid (D4.out.alloc (.cells #[.int .i64 y.kind,.string y.text,.slice P1 y.list.length p1,.slice P2 y.pairs.length p2,.slice P3 y.scores.length p3] 65));have V5:=hid (Whole.new w4 65 [.int .i64 y.kind,.string y.text,.slice P1 y.list.length p1,.slice P2 y.pairs.length p2,.slice P3 y.scores.length p3]);have q:¬((y.list.length:Int) > 24):=by rw[ELL.out];omega
    have hz4:=D4.out.lt;have hne1:¬w.heap.size=w.heap.size+1:=by omega
    have hne2:¬w.heap.size+1=w.heap.size:=by omega
    have hne3:¬w4.heap.size=w.heap.size+1:=by omega
    have hne4:¬w.heap.size+1=w4.heap.size:=by omega
    have HI5:=hid (HI.out.go ((Fr.refl [] _).alloc (.cells #[.int .i64 y.kind,.string y.text,.slice P1 y.list.length p1,.slice P2 y.pairs.length p2,.slice P3 y.scores.length p3] 65)));go_wp2_with fail;generalize hw5:w4.alloc (.cells #[.int .i64 y.kind,.string y.text,.slice P1 y.list.length p1,.slice P2 y.pairs.length p2,.slice P3 y.scores.length p3] 65)=w5;rw[hw5] at D5 V5 HI5;clear hw5;obtain⟨a0,a1,a2,a3,a4⟩:=five D5.out.o;obtain⟨b0,b2,b3,b4,b5⟩:=z12 D5.out.o;obtain⟨d0,d1,d2,d3,d4⟩:=five D5.out.b;obtain⟨g0,g1,g2,g3,g4⟩:=five V5.out;go_wp2;go_region_held3 (fun wx=>wx.cell? ⟨w.heap.size,2,none⟩=some (.slice A1 x.list.length c1)∧wx.cell? ⟨w4.heap.size,0,none⟩=some (.int .i64 y.kind)∧wx.cell? ⟨w4.heap.size,1,none⟩=some (.string y.text)∧wx.cell? ⟨w4.heap.size,2,none⟩=some (.slice P1 y.list.length p1)∧wx.cell? ⟨w4.heap.size,3,none⟩=some (.slice P2 y.pairs.length p2)∧wx.cell? ⟨w4.heap.size,4,none⟩=some (.slice P3 y.scores.length p3)) (go_keep) (first|fail)
    go_wp2;refine bodyPost_ret (v:=.tuple #[.agg #[.int .i64 y.kind,.string y.text,.slice P1 y.list.length p1,.slice P2 y.pairs.length p2,.slice P3 y.scores.length p3],.int .i64 (IntKind.i64.wrap ((y.list.length:Int) - (x.list.length:Int))),.int .i64 0]) (by simp[results,Tryz.results253,go_sem,a0,a1,a2,a3,a4]) rfl ?_;exact⟨_,by rw[ELL.out,HW.out],((z1n (HI5.out.go (Fr.refl [] _).drew) (by omega) _ _ _ _ _).less (by omega)),(D5.out.go (Fr.refl [] _).drew).end5 _ _ _ _ _⟩
  ·have hp:zms x l=z13 l:=by rw[EP.out,if_neg (by simpa using ha)]
   have E:=hid (show ze3 x l=z13 l from by rw[EC.out,hp,if_pos hb]);obtain⟨e1,e2⟩:=NO.out _ hb E.out;rw[e1,e2,E.out];have q2:(z13 l != 0)=true:=by simpa using hb
   clear e1 e2 EP EC EY EK OA ON OX ha hb NO hp EL LL E;generalize z13 l=r at *;go_enter Tryz.func253,Tryz.ntmps253;go_wp2_with fail;refine(RD.out _ D0.out.f).mono ?_;rintro e w1 ⟨rfl,f1⟩;have D1:=hid (D0.out.go f1);clear d0 d1 d2 d3 d4;obtain⟨d0,d1,d2,d3,d4⟩:=five D1.out.b;go_wp2_with fail;refine(SM.out _ D1.out.f).mono ?_;rintro e w2 ⟨rfl,f2⟩;have D2:=hid (D1.out.go f2);clear d0 d1 d2 d3 d4;obtain⟨a0,a1,a2,a3,a4⟩:=five D2.out.o;obtain⟨b0,b2,b3,b4,b5⟩:=z12 D2.out.o;go_wp2;refine bodyPost_ret (v:=.tuple #[.agg #[.int .i64 0,.string ⟨#[]⟩,.slice none 0 0,.slice none 0 0,.slice none 0 0],.int .i64 0,.int .i64 r]) (by simp[results,Tryz.results253,go_sem,a0,a1,a2,a3,a4]) rfl ?_;exact⟨_,rfl,z0q.nothing _ _,D2.out.end5 _ _ _ _ _⟩
 ·have hp:zms x l=z02 3 x:=by rw[EP.out,if_pos ha]
  have E:=hid (show ze3 x l=z02 3 x from by rw[EC.out,hp,if_pos ha]);obtain⟨e1,e2⟩:=NO.out _ ha E.out;rw[e1,e2,E.out];have q2:(z02 3 x != 0)=true:=by simpa using ha
  have q3:(z02 3 x==0)=false:=by simpa using ha
  clear e1 e2 EP EC EY EK OA ON OX ha NO hp EL LL E;generalize z02 3 x=r at *;go_enter Tryz.func253,Tryz.ntmps253;go_wp2_with fail;refine(RD.out _ D0.out.f).mono ?_;rintro e w1 ⟨rfl,f1⟩;have D1:=hid (D0.out.go f1);clear d0 d1 d2 d3 d4;obtain⟨a0,a1,a2,a3,a4⟩:=five D1.out.o;obtain⟨b0,b2,b3,b4,b5⟩:=z12 D1.out.o;go_wp2;refine bodyPost_ret (v:=.tuple #[.agg #[.int .i64 0,.string ⟨#[]⟩,.slice none 0 0,.slice none 0 0,.slice none 0 0],.int .i64 0,.int .i64 r]) (by simp[results,Tryz.results253,go_sem,a0,a1,a2,a3,a4]) rfl ?_;exact⟨_,rfl,z0q.nothing _ _,D1.out.end5 _ _ _ _ _⟩
inductive Cm where
 | ping|get|set_|append_|strlen|incrby|getrange|del|exists_|type_|keys_|expire|ttl|persist
 | lpush|rpush|lpop|rpop|lrange|ltrim|lrem|sadd|srem|sismember|smembers|sinter|sunion|sdiff
 | hset|hget|hdel|hgetall|zadd|zrem|zscore|zrank|zrange|zrangebyscore
deriving DecidableEq
def Cm.bs:Cm→List UInt8
 | .ping=>[112,105,110,103]
 | .get=>[103,101,116]
 | .set_=>[115,101,116]
 | .append_=>[97,112,112,101,110,100]
 | .strlen=>[115,116,114,108,101,110]
 | .incrby=>[105,110,99,114,98,121]
 | .getrange=>[103,101,116,114,97,110,103,101]
 | .del=>[100,101,108]
 | .exists_=>[101,120,105,115,116,115]
 | .type_=>[116,121,112,101]
 | .keys_=>[107,101,121,115]
 | .expire=>[101,120,112,105,114,101]
 | .ttl=>[116,116,108]
 | .persist=>[112,101,114,115,105,115,116]
 | .lpush=>[108,112,117,115,104]
 | .rpush=>[114,112,117,115,104]
 | .lpop=>[108,112,111,112]
 | .rpop=>[114,112,111,112]
 | .lrange=>[108,114,97,110,103,101]
 | .ltrim=>[108,116,114,105,109]
 | .lrem=>[108,114,101,109]
 | .sadd=>[115,97,100,100]
 | .srem=>[115,114,101,109]
 | .sismember=>[115,105,115,109,101,109,98,101,114]
 | .smembers=>[115,109,101,109,98,101,114,115]
 | .sinter=>[115,105,110,116,101,114]
 | .sunion=>[115,117,110,105,111,110]
 | .sdiff=>[115,100,105,102,102]
 | .hset=>[104,115,101,116]
 | .hget=>[104,103,101,116]
 | .hdel=>[104,100,101,108]
 | .hgetall=>[104,103,101,116,97,108,108]
 | .zadd=>[122,97,100,100]
 | .zrem=>[122,114,101,109]
 | .zscore=>[122,115,99,111,114,101]
 | .zrank=>[122,114,97,110,107]
 | .zrange=>[122,114,97,110,103,101]
 | .zrangebyscore=>[122,114,97,110,103,101,98,121,115,99,111,114,101]
def Cm.all:List Cm:=[.ping,.get,.set_,.append_,.strlen,.incrby,.getrange,.del,.exists_,.type_,.keys_,.expire,.ttl,.persist,.lpush,.rpush,.lpop,.rpop,.lrange,.ltrim,.lrem,.sadd,.srem,.sismember,.smembers,.sinter,.sunion,.sdiff,.hset,.hget,.hdel,.hgetall,.zadd,.zrem,.zscore,.zrank,.zrange,.zrangebyscore]
theorem Cm.mem_all(c:Cm):c∈Cm.all:=by cases c <;> decide
def zwx(s:List UInt8):Option Cm:=Cm.all.find? fun c=>decide (c.bs=s)
theorem z9k{s:List UInt8}{c:Cm}(h:zwx s=some c):s=c.bs:=by
 have:=List.find?_some h;exact(of_decide_eq_true this).symm
theorem zpy{s:List UInt8}(h:zwx s=none)(c:Cm):s≠c.bs:=fun e=>by
 have:=List.find?_eq_none.1 h c c.mem_all;exact this (decide_eq_true e.symm)
theorem zxf(c:Cm):zwx c.bs=some c:=by cases c <;> decide
def zbs(c:UInt8):UInt8:=if 65≤c.toNat∧c.toNat≤90 then c+32 else c
def zwv(s:ByteArray):List UInt8:=s.data.toList.map zbs
def cmL(l:List ByteArray):Option Cm:=zwx (zwv (l.getD 0 ⟨#[]⟩))
structure Shp where
 least:Nat
 most:Option Nat
 pairs:Bool
 nums:Nat
def Cm.shp:Cm→Shp
 | .ping=>⟨0,some 0,false,0⟩
 | .get|.strlen|.type_|.ttl|.persist|.keys_|.lpop|.rpop|.smembers|.hgetall=>⟨1,some 1,false,0⟩
 | .set_|.append_|.lrem|.sismember|.hget|.zscore|.zrank=>⟨2,some 2,false,0⟩
 | .incrby|.expire=>⟨2,some 2,false,1⟩
 | .getrange|.lrange|.ltrim|.zrange|.zrangebyscore=>⟨3,some 3,false,2⟩
 | .del|.exists_|.sinter|.sunion|.sdiff=>⟨1,none,false,0⟩
 | .lpush|.rpush|.sadd|.srem|.hdel|.zrem=>⟨2,none,false,0⟩
 | .hset=>⟨3,none,true,0⟩
 | .zadd=>⟨3,none,true,3⟩
def Shp.num(s:Shp)(i:Nat):Bool:=match s.nums with
 | 0=>false
 | 1=>decide (i=1)
 | 2=>decide (i=1)||decide (i=2)
 | _=>decide (i % 2=1)
def Shp.bad(s:Shp)(n:Nat):Bool:=decide (n < s.least)||(match s.most with|some m=>decide (m < n)|none=>false)||(s.pairs&&decide (n % 2=0))
def isN(s:ByteArray):Bool:=(z2z s.data.toList).isSome
def z66(s:Shp):Nat→List ByteArray→Bool
 | _,[]=>true
 | i,w :: l=>(!s.num i||isN w)&&z66 s (i+1) l
def z1v(l:List ByteArray):Int:=
 if z0x l≠0 then z0x l
 else match cmL l with
  | none=>5
  | some c=>if c.shp.bad (l.length - 1)=true then 1 else if z66 c.shp 0 (l.drop 1)=true then 0 else 3
def z7n(e:Int):Rep:=⟨2,⟨#[]⟩,e,[]⟩
def z3n(s:ByteArray):Rep:=⟨1,s,0,[]⟩
def z0o(n:Int):Rep:=⟨3,⟨#[]⟩,n,[]⟩
def z1e(s:ByteArray):Rep:=⟨4,s,0,[]⟩
def zgg:Rep:=⟨5,⟨#[]⟩,0,[]⟩
def z1z(l:List ByteArray):Rep:=⟨6,⟨#[]⟩,0,l.map fun s=>⟨4,s,0,0⟩⟩
def tOK:ByteArray:=⟨#[79,75]⟩
def zyv:ByteArray:=⟨#[80,79,78,71]⟩
def zks(k:Int):ByteArray:=
 if k=0 then toB [110,111,110,101] else if k=1 then toB [115,116,114,105,110,103] else if k=2 then toB [108,105,115,116]
 else if k=3 then toB [115,101,116] else if k=4 then toB [104,97,115,104] else toB [122,115,101,116]
def fin(s:List Ent)(now:Int)(key:ByteArray)(y:Itm)(til:Int)(chg nn:Bool)(e:Int)(r:Rep):List Ent×Rep:=
 if e=0 then
  if chg=true then (if z28 s now key y til=0 then (z8g s now key y til,r) else (s,z7n (z28 s now key y til))) else (s,r)
 else if e=5∧nn=true then (s,zgg) else (s,z7n e)
def wd(l:List ByteArray)(i:Nat):ByteArray:=l.getD i ⟨#[]⟩
def wn(l:List ByteArray)(i:Nat):Int:=(z2z (wd l i).data.toList).getD 0
def z9a(s:List Ent)(now:Int)(k:ByteArray):Bool:=decide ((z00 s now k).item.kind≠0)
def zj2(now:Int):List ByteArray→List Ent→Nat→List Ent×Nat
 | [],s,n=>(s,n)
 | k :: l,s,n=>zj2 now l (z8g s now k (z2p 0) 0) (n+if z9a s now k=true then 1 else 0)
def z1m:List ByteArray→List (ByteArray×ByteArray)
 | a :: b :: l=>(a,b) :: z1m l
 | _=>[]
def z11:List ByteArray→List (Int×ByteArray)
 | a :: b :: l=>((z2z a.data.toList).getD 0,b) :: z11 l
 | _=>[]
def z06(s:List Ent)(now:Int)(l:List ByteArray):List Itm:=l.map fun k=>(z00 s now k).item
def doC(c:Cm)(s:List Ent)(now:Int)(l:List ByteArray):List Ent×Rep:=
 let key:=wd l 1
 let was:=z00 s now key
 let x:=was.item
 let til:=was.til
 match c with
 | .ping=>(s,z3n zyv)
 | .get=>if x.kind=0 then fin s now key x til false false (z02 1 x) zgg else fin s now key x til false false (z02 1 x) (z1e x.text)
 | .set_=>fin s now key (z45 (wd l 2)) 0 true false 0 (z3n tOK)
 | .append_=>fin s now key (apY x (wd l 2)) til true false (z3a x (wd l 2)) (z0o (apN x (wd l 2)))
 | .strlen=>fin s now key x til false false (z02 1 x) (z0o (lnN x))
 | .incrby=>fin s now key (adY x (wn l 2)) til true false (z3j x (wn l 2)) (z0o (adN x (wn l 2)))
 | .getrange=>fin s now key x til false false (z02 1 x) (z1e (rgS x (wn l 2) (wn l 3)))
 | .del=>((zj2 now (l.drop 1) s 0).1,z0o (zj2 now (l.drop 1) s 0).2)
 | .exists_=>(s,z0o (((l.drop 1).filter fun k=>z9a s now k).length:Nat))
 | .type_=>(s,z3n (zks x.kind))
 | .keys_=>fin s now key x til false false (z0y key) (z1z (zd7 s now key))
 | .expire=>if x.kind=0 then (s,z0o 0) else if wn l 2 < 1 then fin s now key (z2p 0) (now+wn l 2) true false 0 (z0o 1) else fin s now key x (now+wn l 2) true false (if 1000000 < now+wn l 2 then 3 else 0) (z0o 1)
 | .ttl=>(s,z0o (if x.kind=0 then -2 else if til=0 then -1 else til - now))
 | .persist=>if x.kind=0∨til=0 then (s,z0o 0) else fin s now key x 0 true false 0 (z0o 1)
 | .lpush=>fin s now key (z8w x true (l.drop 2)) til true false (z14 x (l.drop 2)) (z0o (zc3 x true (l.drop 2)))
 | .rpush=>fin s now key (z8w x false (l.drop 2)) til true false (z14 x (l.drop 2)) (z0o (zc3 x false (l.drop 2)))
 | .lpop=>fin s now key (zei x true) til true true (z1r x) (z1e (zt5 x true))
 | .rpop=>fin s now key (zei x false) til true true (z1r x) (z1e (zt5 x false))
 | .lrange=>fin s now key x til false false (z02 2 x) (z1z (z25 x.list (wn l 2) (wn l 3)))
 | .ltrim=>fin s now key (ofL (z25 x.list (wn l 2) (wn l 3))) til true false (z02 2 x) (z3n tOK)
 | .lrem=>fin s now key (zot x (wd l 2)) til true false (z02 2 x) (z0o (zw6 x (wd l 2)))
 | .sadd=>fin s now key (zag x (l.drop 2)) til true false (ze3 x (l.drop 2)) (z0o (ze5 x (l.drop 2)))
 | .srem=>fin s now key (z6a 3 x (l.drop 2)) til true false (z02 3 x) (z0o (zad 3 x (l.drop 2)))
 | .sismember=>fin s now key x til false false (z02 3 x) (z0o (if z6s x.list (wd l 2)=true then 1 else 0))
 | .smembers=>fin s now key x til false false (z0v (z06 s now (l.drop 1))) (z1z (z27 z6w (z06 s now (l.drop 1))))
 | .sunion=>fin s now key x til false false (z0v (z06 s now (l.drop 1))) (z1z (z27 z6w (z06 s now (l.drop 1))))
 | .sinter=>fin s now key x til false false (z0v (z06 s now (l.drop 1))) (z1z (z27 (zb4 (z06 s now (l.drop 1)).length) (z06 s now (l.drop 1))))
 | .sdiff=>fin s now key x til false false (z0v (z06 s now (l.drop 1))) (z1z (z27 z8z (z06 s now (l.drop 1))))
 | .hset=>fin s now key (zlk x (z1m (l.drop 2))) til true false (z1p x (z1m (l.drop 2))) (z0o (zt7 x (z1m (l.drop 2))))
 | .hget=>fin s now key x til false true (z56 x (wd l 2)) (z1e (zt4 x (wd l 2)))
 | .hdel=>fin s now key (zaj x (l.drop 2)) til true false (z02 4 x) (z0o (zek x (l.drop 2)))
 | .hgetall=>fin s now key x til false false (z02 4 x) (z1z (x.pairs.flatMap fun p=>[p.1,p.2]))
 | .zadd=>fin s now key (z9q x (z11 (l.drop 2))) til true false (zbv x (z11 (l.drop 2))) (z0o (zep x (z11 (l.drop 2))))
 | .zrem=>fin s now key (z6g x (l.drop 2)) til true false (z02 5 x) (z0o (z95 x (l.drop 2)))
 | .zscore=>fin s now key x til false true (z17 x (wd l 2)) (z0o (zpc x (wd l 2)))
 | .zrank=>fin s now key x til false true (z17 x (wd l 2)) (z0o (za8 x (wd l 2)))
 | .zrange=>fin s now key x til false false (z02 5 x) (z1z (z6b x (wn l 2) (wn l 3)))
 | .zrangebyscore=>fin s now key x til false false (z02 5 x) (z1z (z3x x (wn l 2) (wn l 3)))
def doR(s:List Ent)(now:Int)(l:List ByteArray):List Ent×Rep:=
 if z1v l≠0 then (s,z7n (z1v l))
 else match cmL l with
  | none=>(s,z7n 5)
  | some c=>doC c s now l
end Go.Proofs.YtmalkppcahogjaaGreatDoor
