/- Contracts that the proof of E3 uses. No condition beyond those in each theorem. -/
import Derived.Test.YtamgdmiopinidaaGreatDoorSlE317
import Derived.Defers
import Derived.Laws.AppendOwn
import Derived.Laws.ResultCell
import Derived.Recover
import Derived.StillTailTactics
set_option linter.unusedVariables false
set_option linter.unusedSimpArgs false
set_option maxHeartbeats 8000000
set_option maxRecDepth 100000
namespace Go.Proofs.YtamgdmiopinidaaGreatDoor
open Lib (hid)
open Tryz (prog)
open Go.RowKit
attribute [local go_sem] z1k
def z3u(w:World)(pb:Nat)(p:ByteArray)(k:Nat)(e:Ending)(w':World):Prop:=
 match z35 p k with
 | some x=>∃a f:Value,e=.returned (.agg #[a,f])∧z5d w' w.heap.size w'.heap.size x.1 a f∧PSt w' pb p x.2∧Fr [pb] w w'
 | none=>e=.panicked [{ v:=zdb,recovered:=false }]∧Fr [pb] w w'
theorem partAt_cls'{p:ByteArray}{a:Nat}(h:a < p.size)(h91:z04 p a=91):z35 p a =
  (match cls p (if z41 p (a+1+0) 94 then a+1+1 else a+1) with
   | none=>none
   | some y=>if y.1.isEmpty then none else some (Part.cls (z41 p (a+1+0) 94) y.1,y.2+1)):=by
 unfold z35 z41
 rw[if_pos h,if_neg (by omega),if_neg (by omega),if_pos h91]
 simp only[Bool.decide_and,Nat.add_zero]
 rfl
theorem Whole.two{w:World}{g:Nat}{t:TypeId}{a b:Value}(h:Whole w g t [a,b]) :
  w.cell? ⟨g,0,none⟩=some a∧w.cell? ⟨g,1,none⟩=some b∧w.frozen? ⟨g,0,none⟩=false∧w.frozen? ⟨g,1,none⟩=false:=⟨h.cell 0,h.cell 1,h.frozen 0,h.frozen 1⟩
theorem z7i{w w1:World}{pb:Nat}{p:ByteArray}{k k':Nat}{P:Part}{a f:Value}(E:z35 p k=some (P,k'))(hpi:z5d w1 w.heap.size w1.heap.size P a f)(hp:PSt w1 pb p k')(hf:Fr [pb] w w1) :
  z3u w pb p k (.returned (.agg #[a,f])) w1:=by
 unfold z3u;rw[E];exact⟨a,f,rfl,hpi,hp,hf⟩
theorem zpu{w w1:World}{pb:Nat}{p:ByteArray}{k:Nat}(E:z35 p k=none)(hf:Fr [pb] w w1) :
  z3u w pb p k (.panicked [{ v:=zdb,recovered:=false }]) w1:=by
 unfold z3u;rw[E];exact⟨rfl,hf⟩
theorem zqe(p:ByteArray)(pb k:Nat)(w:World)(hs:p.size≤281474976710656)(h:PSt w pb p k)(hk:k < p.size)(h42:z04 p k=42) :
  Calls prog 269 #[.pointer (some ⟨pb,0,none⟩)] w (z3u w pb p k):=by
 have hlt:=h.lt
 have b0:=z2a p k
 have H:=hid h
 clear h
 have g42:((z04 p k:Int)==42)=true:=by simp;omega
 have E:=hid (show z35 p k=some (.star,k+1) by unfold z35;rw[if_pos hk,if_pos h42])
 clear h42
 go_enter Tryz.func269,Tryz.ntmps269
 go_wp2_with fail
 refine(z6e p pb k _ hs (H.out.alloc _) hk).mono ?_
 rintro e w1 ⟨rfl,hp1,hf1⟩
 have hq1:=(Whole.new w 209 [.bool false,.nilFunc]).fr hf1 (by simp;omega)
 have HF1:=hid (((Fr.refl [pb] w).alloc _).trans hf1)
 have hsz1:w.heap.size < w1.heap.size:=hq1.lt
 clear hf1
 obtain⟨a0,a1,z0,z1⟩:=hq1.two
 go_wp2
 refine bodyPost_ret (v:=.agg #[.bool true,.nilFunc]) (by simp[results,Tryz.results269,go_sem,a0,a1]) rfl ?_
 exact z7i E.out ⟨rfl,rfl⟩ ((hp1.far (by simp;omega) _).far (by simp;omega) _) ((HF1.out.setCell (.inr (by simp)) _).setCell (.inr (by simp)) _)
theorem zxn(p:ByteArray)(pb k:Nat)(w:World)(hs:p.size≤281474976710656)(h:PSt w pb p k)(hk:k < p.size)(h63:z04 p k=63) :
  Calls prog 269 #[.pointer (some ⟨pb,0,none⟩)] w (z3u w pb p k):=by
 have hlt:=h.lt
 have b0:=z2a p k
 have H:=hid h
 clear h
 have g42:((z04 p k:Int)==42)=false:=by simp;omega
 have g63:((z04 p k:Int)==63)=true:=by simp;omega
 have E:=hid (show z35 p k=some (.any,k+1) by unfold z35;rw[if_pos hk,if_neg (by omega),if_pos h63])
 clear h63
 go_enter Tryz.func269,Tryz.ntmps269
 go_wp2_with fail
 refine(z6e p pb k _ hs (H.out.alloc _) hk).mono ?_
 rintro e w1 ⟨rfl,hp1,hf1⟩
 have hq1:=(Whole.new w 209 [.bool false,.nilFunc]).fr hf1 (by simp;omega)
 have HF1:=hid (((Fr.refl [pb] w).alloc _).trans hf1)
 have hsz1:w.heap.size < w1.heap.size:=hq1.lt
 clear hf1
 obtain⟨a0,a1,z0,z1⟩:=hq1.two
 go_wp2
 refine bodyPost_ret (v:=.agg #[.bool false,.func (.func 294) #[] #[]]) (by simp[results,Tryz.results269,go_sem,a0,a1]) rfl ?_
 exact z7i E.out ⟨rfl,rfl⟩ ((hp1.far (by simp;omega) _).far (by simp;omega) _) ((HF1.out.setCell (.inr (by simp)) _).setCell (.inr (by simp)) _)
theorem zvq(p:ByteArray)(pb k:Nat)(w:World)(hs:p.size≤281474976710656)(h:PSt w pb p k)(hk:k < p.size)(h91:z04 p k=91) :
  Calls prog 269 #[.pointer (some ⟨pb,0,none⟩)] w (z3u w pb p k):=by
 have hlt:=h.lt
 have b0:=z2a p k
 have H:=hid h
 clear h
 have g42:((z04 p k:Int)==42)=false:=by simp;omega
 have g63:((z04 p k:Int)==63)=false:=by simp;omega
 have g91:((z04 p k:Int)==91)=true:=by simp;omega
 have hE:=partAt_cls' hk h91
 have E:=hid hE
 clear h91 hE
 go_enter Tryz.func269,Tryz.ntmps269
 go_wp2_with fail
 refine(z6e p pb k _ hs (H.out.alloc _) hk).mono ?_
 rintro e w1 ⟨rfl,hp1,hf1⟩
 have hq1:=(Whole.new w 209 [.bool false,.nilFunc]).fr hf1 (by simp;omega)
 have HF1:=hid (((Fr.refl [pb] w).alloc _).trans hf1)
 have hsz1:w.heap.size < w1.heap.size:=hq1.lt
 clear hf1
 go_wp2_with fail
 refine(znu p pb (k+1) _ _ _ hs hp1 (by omega) rfl rfl).mono ?_
 rintro e w2 hpost
 unfold zqb at hpost
 rcases hpost with⟨x,f,hx,hne,rfl,hpi,hps,hf2⟩|⟨hno,rfl,hf2⟩
 ·have hE2:z35 p k=some (.cls (z41 p (k+1+0) 94) x.1,x.2+1):=by
   rw[E.out,hx]
   simp only
   rw[if_neg (by simpa using hne)]
  have E2:=hid hE2
  have hq2:=hq1.fr hf2 (by simp;omega)
  have HF2:=hid (HF1.out.trans hf2)
  obtain⟨a0,a1,z0,z1⟩:=hq2.two
  obtain⟨hfa,b,b2,hl,hb,hl2,hb2,rfl,ht,hn⟩:=hpi
  have HPI:=hid (show z5d w2 w1.heap.size w2.heap.size (.cls (z41 p (k+1+0) 94) x.1) (.bool false) _ from⟨rfl,b,b2,hl,hb,hl2,hb2,rfl,ht,hn⟩)
  clear hE2 hx hne hf2 ht hn
  go_wp2
  refine bodyPost_ret (v:=.agg #[.bool false,.func (.func 307) #[] #[.pointer (some ⟨b,0,none⟩),.pointer (some ⟨b2,0,none⟩)]]) (by simp[results,Tryz.results269,go_sem,a0,a1]) rfl ?_
  exact z7i E2.out (HPI.out.keep (fun g _ _ hg _ _ _=>by
  rw[Below.heap_setCell _ _ _ _ (by simp;omega),Below.heap_setCell _ _ _ _ (by simp;omega)]) (by omega) (by simp[World.setCell]))
    ((hps.far (by simp;omega) _).far (by simp;omega) _) ((HF2.out.setCell (.inr (by simp)) _).setCell (.inr (by simp)) _)
 ·have hE2:z35 p k=none:=by
   rw[E.out]
   cases hc:cls p (if z41 p (k+1+0) 94 then k+1+1 else k+1) with
   | none=>rfl
   | some x=>simp only;rw[if_pos (by simpa using hno x hc)]
  have E2:=hid hE2
  clear hE2 hno
  go_wp2
  exact⟨rfl,zpu E2.out (HF1.out.trans hf2)⟩
theorem zue(p:ByteArray)(pb k:Nat)(w:World)(hs:p.size≤281474976710656)(h:PSt w pb p k)(hk:k < p.size)(h92:z04 p k=92) :
  Calls prog 269 #[.pointer (some ⟨pb,0,none⟩)] w (z3u w pb p k):=by
 have hlt:=h.lt
 have b0:=z2a p k
 have H:=hid h
 clear h
 have g42:((z04 p k:Int)==42)=false:=by simp;omega
 have g63:((z04 p k:Int)==63)=false:=by simp;omega
 have g91:((z04 p k:Int)==91)=false:=by simp;omega
 have g92:((z04 p k:Int)==92)=true:=by simp;omega
 have hE:z35 p k=if k+1 < p.size then some (.lit (z04 p (k+1)),k+2) else none:=by
  unfold z35;rw[if_pos hk,if_neg (by omega),if_neg (by omega),if_neg (by omega),if_pos h92]
 by_cases h2:k+1 < p.size
 ·rw[if_pos h2] at hE
  have E:=hid hE
  have b1:=z2a p (k+1)
  clear hE h92
  go_enter Tryz.func269,Tryz.ntmps269
  go_wp2_with fail
  refine(z6e p pb k _ hs (H.out.alloc _) hk).mono ?_
  rintro e w1 ⟨rfl,hp1,hf1⟩
  have hq1:=(Whole.new w 209 [.bool false,.nilFunc]).fr hf1 (by simp;omega)
  have HF1:=hid (((Fr.refl [pb] w).alloc _).trans hf1)
  have hsz1:w.heap.size < w1.heap.size:=hq1.lt
  clear hf1
  go_wp2_with fail
  refine(z6e p pb (k+1) _ hs hp1 h2).mono ?_
  rintro e w2 ⟨rfl,hp2,hf2⟩
  have hq2:=hq1.fr hf2 (by simp;omega)
  have HF2:=hid (HF1.out.trans hf2)
  have hsz2:w.heap.size < w2.heap.size:=hq2.lt
  clear hf2 hq1 hp1
  go_wp2_with fail
  refine(ze9 _ _).mono ?_
  rintro e w3 ⟨⟨f,rfl,hpi⟩,hf3⟩
  have hq3:=hq2.fr hf3 (by simp)
  have HF3:=hid (HF2.out.trans hf3.up)
  have hps:=hid (Whole.fr hp2 hf3 (by simp))
  obtain⟨a0,a1,z0,z1⟩:=hq3.two
  obtain⟨hfa,b,hl,hb,rfl,ht⟩:=hpi
  have HPI:=hid (show z5d w3 w2.heap.size w3.heap.size (.lit (z04 p (k+1))) (.bool false) _ from⟨rfl,b,hl,hb,rfl,ht⟩)
  clear hf3 ht
  go_wp2
  refine bodyPost_ret (v:=.agg #[.bool false,.func (.func 308) #[] #[.pointer (some ⟨b,0,none⟩)]]) (by simp[results,Tryz.results269,go_sem,a0,a1]) rfl ?_
  exact z7i E.out (HPI.out.keep (fun g _ _ hg _ _ _=>by
   rw[Below.heap_setCell _ _ _ _ (by simp;omega),Below.heap_setCell _ _ _ _ (by simp;omega)]) (by omega) (by simp[World.setCell]))
    ((PSt.far hps.out (by simp;omega) _).far (by simp;omega) _) ((HF3.out.setCell (.inr (by simp)) _).setCell (.inr (by simp)) _)
 ·rw[if_neg h2] at hE
  have E:=hid hE
  clear hE h92
  go_enter Tryz.func269,Tryz.ntmps269
  go_wp2_with fail
  refine(z6e p pb k _ hs (H.out.alloc _) hk).mono ?_
  rintro e w1 ⟨rfl,hp1,hf1⟩
  have hq1:=(Whole.new w 209 [.bool false,.nilFunc]).fr hf1 (by simp;omega)
  have HF1:=hid (((Fr.refl [pb] w).alloc _).trans hf1)
  have hsz1:w.heap.size < w1.heap.size:=hq1.lt
  clear hf1
  go_wp2_with fail
  refine(zkc p pb (k+1) _ hs hp1 (by omega)).mono ?_
  rintro e w2 ⟨rfl,hf2⟩
  go_wp2
  exact⟨rfl,zpu E.out (HF1.out.trans hf2)⟩
theorem ztl(p:ByteArray)(pb k:Nat)(w:World)(hs:p.size≤281474976710656)(h:PSt w pb p k)(hk:k < p.size)(h42:z04 p k≠42)(h63:z04 p k≠63)(h91:z04 p k≠91)(h92:z04 p k≠92) :
  Calls prog 269 #[.pointer (some ⟨pb,0,none⟩)] w (z3u w pb p k):=by
 have hlt:=h.lt
 have b0:=z2a p k
 have H:=hid h
 clear h
 have g42:((z04 p k:Int)==42)=false:=by simp;omega
 have g63:((z04 p k:Int)==63)=false:=by simp;omega
 have g91:((z04 p k:Int)==91)=false:=by simp;omega
 have g92:((z04 p k:Int)==92)=false:=by simp;omega
 have E:=hid (show z35 p k=some (.lit (z04 p k),k+1) by
  unfold z35;rw[if_pos hk,if_neg h42,if_neg h63,if_neg h91,if_neg h92])
 clear h42 h63 h91 h92
 go_enter Tryz.func269,Tryz.ntmps269
 go_wp2_with fail
 refine(z6e p pb k _ hs (H.out.alloc _) hk).mono ?_
 rintro e w1 ⟨rfl,hp1,hf1⟩
 have hq1:=(Whole.new w 209 [.bool false,.nilFunc]).fr hf1 (by simp;omega)
 have HF1:=hid (((Fr.refl [pb] w).alloc _).trans hf1)
 have hsz1:w.heap.size < w1.heap.size:=hq1.lt
 clear hf1
 go_wp2_with fail
 refine(ze9 _ _).mono ?_
 rintro e w3 ⟨⟨f,rfl,hpi⟩,hf3⟩
 have hq3:=hq1.fr hf3 (by simp)
 have HF3:=hid (HF1.out.trans hf3.up)
 have hps:=hid (Whole.fr hp1 hf3 (by simp))
 obtain⟨a0,a1,z0,z1⟩:=hq3.two
 obtain⟨hfa,b,hl,hb,rfl,ht⟩:=hpi
 have HPI:=hid (show z5d w3 w1.heap.size w3.heap.size (.lit (z04 p k)) (.bool false) _ from⟨rfl,b,hl,hb,rfl,ht⟩)
 clear hf3 ht
 go_wp2
 refine bodyPost_ret (v:=.agg #[.bool false,.func (.func 308) #[] #[.pointer (some ⟨b,0,none⟩)]]) (by simp[results,Tryz.results269,go_sem,a0,a1]) rfl ?_
 exact z7i E.out (HPI.out.keep (fun g _ _ hg _ _ _=>by
  rw[Below.heap_setCell _ _ _ _ (by simp;omega),Below.heap_setCell _ _ _ _ (by simp;omega)]) (by omega) (by simp[World.setCell]))
   ((PSt.far hps.out (by simp;omega) _).far (by simp;omega) _) ((HF3.out.setCell (.inr (by simp)) _).setCell (.inr (by simp)) _)
theorem zry(p:ByteArray)(pb k:Nat)(w:World)(hs:p.size≤281474976710656)(h:PSt w pb p k)(hk:k < p.size) :
  Calls prog 269 #[.pointer (some ⟨pb,0,none⟩)] w (z3u w pb p k):=by
 by_cases h42:z04 p k=42
 ·exact zqe p pb k w hs h hk h42
 ·by_cases h63:z04 p k=63
  ·exact zxn p pb k w hs h hk h63
  ·by_cases h91:z04 p k=91
   ·exact zvq p pb k w hs h hk h91
   ·by_cases h92:z04 p k=92
    ·exact zue p pb k w hs h hk h92
    ·exact ztl p pb k w hs h hk h42 h63 h91 h92
attribute [local go_sem] z1k
theorem caught(b1 b2:Nat)(v1 v2:Value)(w:World)(h1:w.cell? ⟨b1,0,none⟩=some v1)(h2:w.cell? ⟨b2,0,none⟩=some v2)(hb:b1 < w.heap.size)(hb2:b2 < w.heap.size)(hne:b1≠b2)(z1:w.frozen? ⟨b1,0,none⟩=false)(z2:w.frozen? ⟨b2,0,none⟩=false) :
  CallsD prog 268 #[.pointer (some ⟨b1,0,none⟩),.pointer (some ⟨b2,0,none⟩)] (.panicking [{ v:=zdb,recovered:=false }]) w fun e u' w'=>
   e=.returned (.tuple #[])∧u'=.panicking [{ v:=zdb,recovered:=true }]∧w'=((w.setCell ⟨b1,0,none⟩ (.slice none 0 0)).setCell ⟨b2,0,none⟩ (.bool false)).alloc (.cells #[] 248):=by
 have hta:∀W:World,(Instr.typeAssert (.iface 248 (.agg #[])) 20 248 true).run prog W=.ok (.tuple #[.agg #[],.bool true]) W:=fun _=>by kernel_rfl
 refine callsD_of_wpS Tryz.func268 rfl fun c₀ cs hu=>?_
 unfold zdb at hu ⊢
 apply wpS_seq
 apply wpS_region
 simp[wpOpsS,go_sem,recoverD,hu,Tryz.ntmps268,Exit.thenS]
 apply wpS_seq
 apply wpS_region
 simp[wpOpsS,go_sem,Exit.thenS,Array.replicate]
 refine wpS_cond (t:=true) (by simp[Act.eval]) ?_
 simp only[if_true]
 refine wpS_of_wp ?_
 go_wp2
 simp[bodyPostS,results,Tryz.results268]
theorem idle(b1 b2:Nat)(w:World) :
  CallsD prog 268 #[.pointer (some ⟨b1,0,none⟩),.pointer (some ⟨b2,0,none⟩)] .returning w fun e u' w'=>e=.returned (.tuple #[])∧u'=.returning∧w'=w:=by
 refine callsD_of_wpS Tryz.func268 rfl fun c₀ cs hu=>?_
 apply wpS_seq
 apply wpS_region
 simp[wpOpsS,go_sem,recoverD,hu,Tryz.ntmps268,Exit.thenS]
 apply wpS_seq
 apply wpS_region
 simp[wpOpsS,go_sem,Exit.thenS,Array.replicate]
 refine wpS_cond (t:=false) (by simp[Act.eval]) ?_
 simp only[Bool.false_eq_true,if_false]
 refine wpS_of_wp (wp_skip ?_)
 cases c₀
 simp_all [bodyPostS,results,Tryz.results268]
theorem Tryz.info209:(prog.info? 209).map (fun i=>(i.zero,i.size,i.bytes))=some (some (.agg #[.bool false,.nilFunc]),2,16):=by kernel_rfl
def cellsOf(w:World)(L B:Nat):List Part→List Value→Prop
 | [],xs=>xs=[]
 | P :: ps,xs=>∃a f r,xs=a :: f :: r∧z5d w L B P a f∧cellsOf w L B ps r
structure PtL(w wr:World)(p:ByteArray)(k n:Nat)(v:Value)(ps:List Part)(xs:List Value):Prop where
 st:PSt wr (w.heap.size+1+1) p k
 c0:Whole wr w.heap.size 162 [v]
 c1:Whole wr (w.heap.size+1) 4 [.bool false]
 own:wr.ownsRow (w.heap.size+3) 209 2 v n xs
 cells:cellsOf wr (w.heap.size+3) wr.heap.size ps xs
 fr:Fr [] w wr
 sz:w.heap.size+3≤wr.heap.size
def za2(w:World)(p:ByteArray)(e:Ending)(w':World):Prop:=
 match z2f p 0 with
 | some l=>∃v n xs,e=.returned (.tuple #[v,.bool true])∧w'.ownsRow (w.heap.size+3) 209 2 v n xs∧cellsOf w' (w.heap.size+3) w'.heap.size (l.map (·.2)) xs∧n=l.length∧Fr [] w w'
 | none=>e=.returned (.tuple #[.slice none 0 0,.bool false])∧Fr [] w w'
theorem cellsOf.keep{w w':World}{L L' B B':Nat}(hb:∀(g:Nat) (t:TypeId) (cs:Array Value),L≤g→g < B→t≠209→w.heap[g]? = some (.cells cs t (0,0))→w'.heap[g]? = w.heap[g]?)(hL:L'≤L)(hB:B≤B'):∀ {ps:List Part} {xs:List Value},cellsOf w L B ps xs→cellsOf w' L' B' ps xs
 | [],_,h=>h
 | P :: ps,xs,h=>by
  obtain⟨a,f,r,e,h1,h2⟩:=h
  exact⟨a,f,r,e,h1.keep hb hL hB,cellsOf.keep hb hL hB h2⟩
theorem cellsOf.snoc{w:World}{L B:Nat}{P:Part}{a f:Value}(hP:z5d w L B P a f):∀ {ps:List Part} {xs:List Value},cellsOf w L B ps xs→cellsOf w L B (ps++[P]) (xs++[a,f])
 | [],xs,h=>by
  have:xs=[]:=h
  subst this
  exact⟨a,f,[],rfl,hP,rfl⟩
 | Q :: ps,xs,h=>by
  obtain⟨a',f',r,e,h1,h2⟩:=h
  subst e
  exact⟨a',f',r++[a,f],rfl,h1,cellsOf.snoc hP h2⟩
theorem zb8{w:World}{base:Nat}{e:TypeId}{size n:Nat}{v:Value}{xs:List Value}(h:w.ownsRow base e size v n xs):∃A c,v=.slice A n c:=by
 rcases h.2 with⟨rfl,rfl⟩|⟨g,cap,cur,rfl,_⟩
 ·exact⟨_,_,rfl⟩
 ·exact⟨_,_,rfl⟩
theorem zav{w w':World}{base:Nat}{e:TypeId}{size n:Nat}{v:Value}{xs:List Value}{S:List Nat}(h:w.ownsRow base e size v n xs)(hf:Fr S w w')(hS:∀g,v.ownBlock=some g→g∉S):w'.ownsRow base e size v n xs:=by
 refine⟨h.1,?_⟩
 rcases h.2 with hn|⟨g,cap,cur,rfl,hb,hgg,rest⟩
 ·exact .inl hn
 ·exact .inr ⟨g,cap,cur,rfl,hb,(hf.block g (Array.getElem?_eq_some_iff.1 hgg).1 (hS g rfl)).trans hgg,rest⟩
theorem zor(p:ByteArray)(w:World)(hs:p.size≤60) :
  Calls prog 215 #[.string p] w (za2 w p):=by
 have hmf:∀(fn:Fn) (first cap:Array Value) (w:World),(Instr.makeFunc fn first cap).run prog w=.ok (.func fn first cap) w:=fun _ _ _ _=>rfl
 obtain⟨i0,hi,hz0,hz1,hz2⟩:=info_parts Tryz.info209
 have hL0:PtL w (((w.alloc (.cells #[.slice none 0 0] 162)).alloc (.cells #[.bool false] 4)).alloc (.cells #[.string p,.int .i64 0] 252)) p 0 0 (.slice none 0 0) [] []:=
  ⟨show Whole _ _ _ _ by simpa using Whole.new ((w.alloc (.cells #[.slice none 0 0] 162)).alloc (.cells #[.bool false] 4)) 252 [.string p,.int .i64 0],
   ((Whole.new w 162 [.slice none 0 0]).alloc _).alloc _,by simpa using (Whole.new (w.alloc (.cells #[.slice none 0 0] 162)) 4 [.bool false]).alloc _,
   World.ownsRow_nil _ _ _ _,rfl,(((Fr.refl _ w).alloc _).alloc _).alloc _,by simp⟩
 have HL0:=hid hL0
 have HI:=hid hi
 have HZ:=hid hz0
 have HZ1:=hid hz1
 have HZ2:=hid hz2
 clear hL0 hi hz0 hz1 hz2
 go_enter_defers Tryz.func215,Tryz.ntmps215
 go_wp2
 go_loopg [5] p.size (fun g _ wr=>∃(k n:Nat) (A:Option Addr) (c:Nat) (ps:List (Nat×Part)) (xs:List Value),g=p.size - k∧k≤p.size∧n≤k∧n=ps.length∧PtL w wr p k n (.slice A n c) (ps.map (·.2)) xs∧z2f p 0=(z2f p k).map (ps++·))
 case atStart=>exact⟨0,0,_,_,[],[],rfl,Nat.zero_le _,Nat.le_refl _,rfl,HL0.out,by simp⟩
 case round=>
  clear HL0
  obtain⟨k,n,A,c,ps,xs,rfl,hk,hnk,hn,hL,hR⟩:=hrel
  have HL:=hid hL
  have HR:=hid hR
  have HN:=hid hn
  obtain⟨c0,c1,f0,f1,_⟩:=hL.st.facts
  have q0:=hL.c0.cell 0
  have z0:=hL.c0.frozen 0
  have q1:=hL.c1.cell 0
  have z1:=hL.c1.frozen 0
  simp at q0 q1
  have l0:=hL.c0.lt
  have l1:=hL.c1.lt
  clear hL hR hn
  by_cases hlt:k < p.size
  ·go_wp2_with fail
   refine(zry p (w.heap.size+1+1) k _ (by omega) HL.out.st hlt).mono ?_
   intro e w1 hpost
   unfold z3u at hpost
   cases hpa:z35 p k with
   | none=>
    rw[hpa] at hpost
    obtain⟨rfl,hf⟩:=hpost
    have hno:z2f p 0=none:=by rw[HR.out,z5v,if_pos hlt,hpa];rfl
    have HNO:=hid hno
    clear hno hpa
    have e0:=HL.out.c0.fr hf (by simp;omega)
    have e1:=HL.out.c1.fr hf (by simp)
    have HFF:=hid ((HL.out.fr.step hf (fun x hx=>.inr (by simp at hx;omega))))
    have r0:=e0.cell 0
    have r1:=e1.cell 0
    have y0:=e0.frozen 0
    have y1:=e1.frozen 0
    simp at r0 r1
    have l0':=e0.lt
    have l1':=e1.lt
    have E0:=hid e0
    have E1:=hid e1
    clear e0 e1 hf
    go_wp2
    refine leaves_cons (f:=268) (args:=#[.pointer (some ⟨w.heap.size,0,none⟩),.pointer (some ⟨w.heap.size+1,0,none⟩)]) (by simp) (by simp[go_sem]) ?_
    refine(caught _ _ _ _ _ r0 r1 l0' l1' (by simp) y0 y1).mono ?_
    rintro e u' w'' ⟨rfl,rfl,rfl⟩
    have s0:=(((E0.out.set_ 0 (.slice none 0 0)).far (p:=⟨w.heap.size+1,0,none⟩) (by simp) (.bool false)).alloc (.cells #[] 248)).cell 0
    have s1:=(((E1.out.far (p:=⟨w.heap.size,0,none⟩) (by simp) (.slice none 0 0)).set_ 0 (.bool false)).alloc (.cells #[] 248)).cell 0
    simp at s0 s1
    simp[Leaves,settle,results,Tryz.results215,go_sem,s0,s1]
    unfold za2
    rw[HNO.out]
    exact⟨rfl,((HFF.out.setCell (.inr (by simp)) _).setCell (.inr (by simp)) _).alloc _⟩
   | some x=>
    rw[hpa] at hpost
    obtain⟨a,f,rfl,hpi,hps,hf⟩:=hpost
    have hx:=z90 hpa
    have hst:=hpi.one
    have hsa:∀(W:World) (ad:Addr) (m:Mode),(store ad a m).run prog W=stored prog W ad a m:=fun W ad m=>run_store _ _ _ _ _ hst.1
    have hsf:∀(W:World) (ad:Addr) (m:Mode),(store ad f m).run prog W=stored prog W ad f m:=fun W ad m=>run_store _ _ _ _ _ hst.2
    have e0:=HL.out.c0.fr hf (by simp;omega)
    have e1:=HL.out.c1.fr hf (by simp)
    have r0:=e0.cell 0
    have r1:=e1.cell 0
    have y0:=e0.frozen 0
    have y1:=e1.frozen 0
    simp at r0 r1
    have l0':=e0.lt
    have l1':=e1.lt
    have hown1:=((zav HL.out.own hf (fun g hg=>by
     have:=HL.out.own.lt g hg;simp;omega)).alloc (.cells #[a,f] 209)).alloc (.cells #[a,f] 209)
    have hsz1:=hf.size
    have HPI:=hid hpi
    have HPS:=hid hps
    have HPA:=hid hpa
    have HF:=hid hf
    have HST:=hid hst
    have E0:=hid e0
    have E1:=hid e1
    clear hpi hps hpa hf hst e0 e1
    go_wp2_with (at_builtin;refine wpList_append_own _ rfl (.tmp 19) (.tmp 21) 162 rfl (w.heap.size+3) 209 i0 (.agg #[.bool false,.nilFunc]) 2 16 Tryz.underlying162 HI.out HZ.out HZ1.out HZ2.out rfl (by decide) (.slice A n c) n xs rfl hown1 ⟨w1.heap.size+1,0,none⟩ 1 1 [a,f] rfl rfl ?c1 ?c2 ?c3 ?c4 ?c5 ?_)
    case c1=>
     intro j u hj
     match j,hj with
     | 0,hj=>simpa[Addr.add] using hj
     | 1,hj=>simpa[Addr.add] using hj
    case c2=>
     intro u hu
     simp at hu
     rcases hu with rfl|rfl
     ·exact HST.out.1
     ·exact HST.out.2
    case c3=>simp[maxLen];omega
    case c4=>omega
    case c5=>simp;have:=HL.out.sz;omega
    intro v' w2 hown2 hgrow _
    obtain⟨A',c',hv'⟩:=zb8 hown2
    have hne:(Value.slice A n c).ownBlock≠some w.heap.size:=fun e=>by
     have:=HL.out.own.lt _ e;omega
    have hne1:(Value.slice A n c).ownBlock≠some (w.heap.size+1):=fun e=>by
     have:=HL.out.own.lt _ e;omega
    have hne2:(Value.slice A n c).ownBlock≠some (w.heap.size+1+1):=fun e=>by
     have:=HL.out.own.lt _ e;omega
    have g0:=((E0.out.alloc (.cells #[a,f] 209)).alloc (.cells #[a,f] 209)).grown hgrow (Ne.symm hne)
    have g1:=((E1.out.alloc (.cells #[a,f] 209)).alloc (.cells #[a,f] 209)).grown hgrow (Ne.symm hne1)
    have g2:PSt w2 (w.heap.size+1+1) p x.2:=Whole.grown (Whole.alloc (Whole.alloc HPS.out _) _) hgrow (Ne.symm hne2)
    have HFW:=hid ((((HL.out.fr.step HF.out (fun x hx=>.inr (by simp at hx;omega))).alloc (.cells #[a,f] 209)).alloc (.cells #[a,f] 209)).grown hgrow (fun k hk=>.inr (by have:=HL.out.own.lt k hk;omega)))
    have HOWN:=hid hown2
    have HG:=hid hgrow
    have m0:=g0.cell 0
    have y0':=g0.frozen 0
    simp at m0
    have G0:=hid g0
    have G1:=hid g1
    have G2:=hid g2
    clear hown2 hgrow hne hne1 hne2 g0 g1 g2 hown1
    subst hv'
    go_wp2
    go_roundg (p.size - x.2)
    case measure=>omega
    case rel=>
     have hown:=HOWN.out
     have hG:=HG.out
     have hsz:=HL.out.sz
     have hlt2:=hG.size
     simp at hlt2
     have hset:Fr [w.heap.size] w2 (w2.setCell ⟨w.heap.size,0,none⟩ (.slice A' (n+1) c')):=(Fr.refl _ _).setCell (.inl (by simp)) _
     have hblk:∀(g:Nat) (t:TypeId) (cs:Array Value),w.heap.size+3≤g→g < w1.heap.size→t≠209→w1.heap[g]? = some (.cells cs t (0,0))→(w2.setCell ⟨w.heap.size,0,none⟩ (.slice A' (n+1) c')).heap[g]? = w1.heap[g]? := by
      intro g t cs hg hg2 ht hc
      rw[Below.heap_setCell _ _ _ _ (by simp;omega)]
      have hal:((w1.alloc (.cells #[a,f] 209)).alloc (.cells #[a,f] 209)).heap[g]? = w1.heap[g]? := by
       rw[Below.heap_alloc _ _ _ (by simp;omega),Below.heap_alloc _ _ _ hg2]
      rw[hG.block g (by simp;omega) ?_,hal]
      intro e
      rcases HL.out.own.2 with⟨e2,_⟩|⟨g',cap,cur,e2,_,hcur,_⟩
      ·cases e2;cases e
      ·cases e2
       simp[Value.ownBlock] at e
       subst e
       have:=(HF.out.block g (by have:=HL.out.own.lt g rfl;omega) (by simp;omega))
       rw[hc,hcur] at this
       injection this with this
       injection this with _ h2
       exact ht h2
     refine⟨x.2,n+1,A',c',ps++[(k,x.1)],xs++[a,f],rfl,hx.2,by omega,by simp[HN.out],⟨Whole.far G2.out (by simp;omega) _,G0.out.set_ 0 _,G1.out.far (by simp) _,zav hown hset (fun g hg=>by have:=hown.lt g hg;simp;omega),?_,HFW.out.setCell (.inr (by simp)) _,?_⟩,?_⟩
     ·rw[List.map_append]
      refine cellsOf.snoc (P:=x.1) (HPI.out.keep (fun g t cs hg hg2 ht hc=>hblk g t cs (by omega) hg2 ht hc) hsz ?_) ?_
      ·simp[World.setCell];omega
      ·refine HL.out.cells.keep (fun g t cs hg hg2 ht hc=>?_) (Nat.le_refl _) ?_
       ·have e1:=HF.out.block g hg2 (by simp;omega)
        rw[←e1]
        exact hblk g t cs hg (by omega) ht (e1.trans hc)
       ·simp[World.setCell];omega
     ·simp[World.setCell];omega
     ·rw[HR.out,z5v,if_pos hlt,HPA.out]
      simp
      rfl
  ·have hyes:z2f p 0=some ps:=by rw[HR.out,z5v,if_neg hlt];simp
   have HY:=hid hyes
   clear hyes
   go_wp2
   refine leaves_cons (f:=268) (args:=#[.pointer (some ⟨w.heap.size,0,none⟩),.pointer (some ⟨w.heap.size+1,0,none⟩)]) (by simp) (by simp[go_sem]) ?_
   refine(idle _ _ _).mono ?_
   rintro e u' w'' ⟨rfl,rfl,rfl⟩
   simp[Leaves,settle,results,Tryz.results215,go_sem,q0,q1]
   unfold za2
   rw[HY.out]
   have hL:=HL.out
   have hf2:Fr [w.heap.size,w.heap.size+1] wr ((wr.setCell ⟨w.heap.size,0,none⟩ (.slice A n c)).setCell ⟨w.heap.size+1,0,none⟩ (.bool true)):=
    ((Fr.refl _ _).setCell (.inl (by simp)) _).setCell (.inl (by simp)) _
   refine⟨_,n,xs,rfl,zav hL.own hf2 (fun g hg=>by have:=hL.own.lt g hg;simp;omega),hL.cells.keep (fun g _ _ hg hg2 _ _=>hf2.block g hg2 (by simp;omega)) (Nat.le_refl _) (by simp[World.setCell]),HN.out,?_⟩
   ·exact hL.fr.step hf2 (fun x hx=>.inr (by simp at hx;omega))
attribute [local go_sem] z1k
def zqt(w:World)(p:ByteArray)(e:Ending)(w':World):Prop:=
 (z0y p=0∧p.size≤60∧∃l v xs,z2f p 0=some l∧e=.returned (.tuple #[v,.int .i64 0])∧w'.ownsRow (w.heap.size+3) 209 2 v l.length xs∧cellsOf w' (w.heap.size+3) w'.heap.size (l.map (·.2)) xs∧Fr [] w w') ∨
 (z0y p≠0∧e=.returned (.tuple #[.slice none 0 0,.int .i64 (z0y p)])∧Fr [] w w')
theorem z9x(p:ByteArray)(w:World)(hs:p.size≤281474976710656) :
  Calls prog 147 #[.string p] w (zqt w p):=by
 by_cases h60:60 < p.size
 ·have hE:z0y p=2:=by unfold z0y;rw[if_pos h60]
  have E:=hid hE
  clear hE
  go_enter Tryz.func147,Tryz.ntmps147
  go_wp2
  go_ret2
  refine .inr ⟨by rw[E.out];decide,by rw[E.out];rfl,Fr.refl _ _⟩
 ·have hE:z0y p=if (z2f p 0).isSome then 0 else 1:=by unfold z0y okAt;rw[if_neg h60]
  have E:=hid hE
  clear hE
  go_enter Tryz.func147,Tryz.ntmps147
  go_wp2_with fail
  refine(zor p _ (by omega)).mono ?_
  intro e w1 hpost
  unfold za2 at hpost
  cases hp:z2f p 0 with
  | none=>
   rw[hp] at hpost E
   obtain⟨rfl,hf⟩:=hpost
   go_wp2
   go_ret2
   refine .inr ⟨by rw[E.out];decide,by rw[E.out];rfl,hf⟩
  | some l=>
   rw[hp] at hpost E
   obtain⟨v,n,xs,rfl,hown,hcells,rfl,hf⟩:=hpost
   have HP:=hid hp
   clear hp
   go_wp2
   go_ret2
   exact .inl ⟨by rw[E.out];rfl,by omega,l,v,xs,HP.out,rfl,hown,hcells,hf⟩
theorem zf0(p:ByteArray)(w:World)(hs:p.size≤281474976710656) :
  Calls prog 109 #[.string p] w fun e w'=>e=.returned (.int .i64 (z0y p))∧Fr [] w w':=by
 go_enter Tryz.func109,Tryz.ntmps109
 go_wp2_with fail
 refine(z9x p _ hs).mono ?_
 intro e w1 hpost
 rcases hpost with⟨hc,_,l,v,xs,hp,rfl,_,_,hf⟩|⟨hc,rfl,hf⟩
 ·have HC:=hid hc
  clear hc hp
  go_wp2
  go_ret
  rw[HC.out]
  exact⟨rfl,hf⟩
 ·clear hc
  go_wp2
  go_ret
  exact⟨rfl,hf⟩
end Go.Proofs.YtamgdmiopinidaaGreatDoor
