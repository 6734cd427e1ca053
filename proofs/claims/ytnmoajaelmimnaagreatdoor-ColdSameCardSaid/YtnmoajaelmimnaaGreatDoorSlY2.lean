/- Contracts; no condition but each theorem's own. -/
import Derived.Test.YtnmoajaelmimnaaGreatDoorSlY0
import Derived.ChangeArms
import Derived.Deep.DeepCutAuto
import Derived.Deep.LoopGhost
import Derived.Deep.RegionHeld3
import Derived.Deep.Slices
import Derived.Laws.EntriesVeiled
import Derived.Lib.AtoiAll
import Derived.Lib.ItoaNum
import Derived.OpenShut
import Derived.OrdersHeld
import Derived.ProofKit
import Derived.SizedLaws
import Derived.SliceStrings
import Derived.WideShapes
set_option linter.unusedVariables false
set_option linter.unusedSimpArgs false
set_option maxHeartbeats 8000000
set_option maxRecDepth 100000
namespace Go.Proofs.YtnmoajaelmimnaaGreatDoor
open Go.Proofs.Tryz
def zk7{α:Type}(l:List α)(p:α)(j:Nat):List α:=l.take j++p :: l.drop j
theorem zcm{α:Type}(l:List α)(p:α){j:Nat}(h:j≤l.length):(zk7 l p j).length=l.length+1:=by
 unfold zk7;rw[Xk,Xy,Xp,Xr];omega
section
open Go.RowKit
attribute [local go_sem] z1g
def PSt(w:World)(pb:Nat)(p:YY)(k:Nat):Prop:=Whole w pb 327 [.string p,.int .i64 k]
theorem PSt.facts{w:World}{pb:Nat}{p:YY}{k:Nat}(h:PSt w pb p k):
  w.cell? ⟨pb,0,none⟩=some (.string p)∧w.cell? ⟨pb,1,none⟩=some (.int .i64 k)∧w.frozen? ⟨pb,0,none⟩=false∧w.frozen? ⟨pb,1,none⟩=false∧pb < w.heap.size:=
 ⟨h.cell 0,h.cell 1,h.frozen 0,h.frozen 1,h.lt⟩
theorem PSt.set{w:World}{pb:Nat}{p:YY}{k:Nat}(h:PSt w pb p k)(k':Nat){z:Int}(e:z=k'):PSt (w.setCell ⟨pb,1,none⟩ (.int .i64 z)) pb p k':=by
 subst e;exact Whole.set_ h 1 _
def zfn:Value:=.iface 323 (.agg #[])
theorem z8u(p:YY)(pb k:Nat)(w)(hs:p.size≤281474976710656)(h:PSt w pb p k)(hk:k < p.size):
  Calls prog 357 #[.pointer (some ⟨pb,0,none⟩)] w fun e w'=>e=.returned (.int .u8 (z04 p k))∧PSt w' pb p (k+1)∧Fr [pb] w w':=by
 obtain⟨g,c1,f0,b,a⟩:=h.facts;have f:((k:Int)==p.size)=false:=by simp;omega
 have d:=z0t p k;go_enter func357,ntmps357;go_wp2;go_quiet (fail);go_wp2;go_quiet (fail);go_wp2;go_ret;exact⟨rfl,PSt.set h (k+1) (by omega),(((Fr.refl _ _).drewN _).setCell (.inl (by simp)) _).drewN _⟩
theorem zph(p:YY)(pb k:Nat)(w)(hs:p.size≤281474976710656)(h:PSt w pb p k)(hk:k=p.size):
  Calls prog 357 #[.pointer (some ⟨pb,0,none⟩)] w fun e w'=>e=.panicked [{ v:=zfn,recovered:=false }]∧Fr [pb] w w':=by
 obtain⟨d,c1,f0,b,a⟩:=h.facts;have f:((k:Int)==p.size)=true:=by simp;omega
 clear hk;go_enter func357,ntmps357;go_wp2;go_quiet (fail);go_wp2;exact⟨rfl,rfl,(Fr.refl _ _).drewN _⟩
theorem q3a(p:YY)(pb k:Nat)(m c:Nat)(w)(hs:p.size≤281474976710656)(hm:m≤1)(hc:c < 256)(h:PSt w pb p k)(hk:k+m < p.size):
  Calls prog 366 #[.pointer (some ⟨pb,0,none⟩),.int .i64 m,.int .u8 c] w fun e w'=>e=.returned (.bool (decide (z04 p (k+m)=c)))∧∃n,w'=w.drewN n:=by
 obtain⟨j,c1,f0,d,a⟩:=h.facts;have g:(k:Int)+m < p.size:=by omega
 have f:=z0t p (k+m);have E:=hid (show decide (z04 p (k+m)=c)=((z04 p (k+m):Int)==c) by rw[Va];simp;omega);have b:((k:Int)+m).toNat=k+m:=by omega
 go_enter func366,ntmps366;go_wp2;go_quiet (fail);go_wp2;go_ret;rw[E.o];exact⟨rfl,_,rfl⟩
theorem zz2(p:YY)(pb k:Nat)(m c:Nat)(w)(hs:p.size≤281474976710656)(hm:m≤1)(hc:c < 256)(h:PSt w pb p k)(hk:¬k+m < p.size)(hk2:k≤p.size):
  Calls prog 366 #[.pointer (some ⟨pb,0,none⟩),.int .i64 m,.int .u8 c] w fun e w'=>e=.returned (.bool false)∧∃n,w'=w.drewN n:=by
 obtain⟨d,c1,f0,b,a⟩:=h.facts;have f:decide ((k:Int)+m < p.size)=false:=by simp;omega
 go_enter func366,ntmps366;go_wp2;go_quiet (fail);go_wp2;go_ret;exact⟨rfl,_,rfl⟩
def z4t(p:YY)(k c:Nat):Bool:=decide (k < p.size)&&decide (z04 p k=c)
theorem z6j(p:YY)(pb k:Nat)(m c:Nat)(w)(hs:p.size≤281474976710656)(hm:m≤1)(hc:c < 256)(h:PSt w pb p k)(hk2:k≤p.size):
  Calls prog 366 #[.pointer (some ⟨pb,0,none⟩),.int .i64 m,.int .u8 c] w fun e w'=>e=.returned (.bool (z4t p (k+m) c))∧∃n,w'=w.drewN n:=by
 by_cases hk:k+m < p.size
 ·have e:z4t p (k+m) c=decide (z04 p (k+m)=c):=by simp[z4t,hk]
  rw[e];exact q3a p pb k m c w hs hm hc h hk
 ·have e:z4t p (k+m) c=false:=by simp[z4t,hk]
  rw[e];exact zz2 p pb k m c w hs hm hc h hk hk2
theorem zxt(c:Nat)(w):Calls prog 358 #[.int .u8 c] w fun e w'=>e=.returned (.bool true)∧w=w':=by
 go_enter func358,ntmps358;go_wp2;go_ret;exact⟨rfl,rfl⟩
theorem zzp(c x b:Nat)(w:World)(h:w.cell? ⟨b,0,none⟩=some (.int .u8 x)):
  Calls prog 368 #[.int .u8 c,.pointer (some ⟨b,0,none⟩)] w fun e w'=>e=.returned (.bool (decide (c=x)))∧w=w':=by
 have E:=hid (show decide (c=x)=((c:Int)==x) by rw[Va];simp;omega);go_enter func368,ntmps368;go_wp2;go_ret;rw[E.o];exact⟨rfl,rfl⟩
theorem zyd(c b b2:Nat)(m neg:Bool)(w:World)(hc:c < 256)(h:w.cell? ⟨b,c,none⟩=some (.bool m))(h2:w.cell? ⟨b2,0,none⟩=some (.bool neg)):
  Calls prog 367 #[.int .u8 c,.pointer (some ⟨b,0,none⟩),.pointer (some ⟨b2,0,none⟩)] w fun e w'=>e=.returned (.bool (m != neg))∧∃n,w'=w.drewN n:=by
 go_enter func367,ntmps367;go_wp2;go_quiet (fail);go_wp2;go_ret;exact⟨rfl,_,rfl⟩
def z5v(w:World)(L B:Nat):Part→Value→Value→Prop
 | .star,a,f=>a=.bool true∧f=.nilFunc
 | .any,a,f=>a=.bool false∧f=.func (.func 358) #[] #[]
 | .lit x,a,f=>a=.bool false∧∃b,L≤b∧b < B∧f=.func (.func 368) #[] #[.pointer (some ⟨b,0,none⟩)]∧Whole w b 5 [.int .u8 x]
 | .cls neg rs,a,f=>a=.bool false∧∃b b2,L≤b∧b < B∧L≤b2∧b2 < B∧f=.func (.func 367) #[] #[.pointer (some ⟨b,0,none⟩),.pointer (some ⟨b2,0,none⟩)] ∧
   w.rowIs b 350 256 (fun c=>.bool (z33 rs c))∧Whole w b2 4 [.bool neg]
theorem q0q{w w':World}{b t n:Nat}{f:Nat→Value}(h:w.rowIs b t n f)(hk:∀cs,w.heap[b]? = some (.cells cs t (0,0))→w'.heap[b]? = w.heap[b]?):w'.rowIs b t n f:=by
 obtain⟨c,a,d⟩:=h;exact⟨c,(hk c a).trans a,d⟩
theorem z5v.keep{w w':World}{L L' B B':Nat}{P:Part}{a f:Value}(h:z5v w L B P a f)
  (hb:∀(g:Nat) (t:TypeId) (cs:Array Value),L≤g→g < B→t≠318→w.heap[g]? = some (.cells cs t (0,0))→w'.heap[g]? = w.heap[g]?) (hL:L'≤L) (hB:B≤B'):z5v w' L' B' P a f:=by
 cases P with
 | star=>exact h
 | any=>exact h
 | lit x=>
  obtain⟨m,b,k,d,l,h3⟩:=h;exact⟨m,b,by omega,by omega,l,(hb b _ _ k d (by decide) h3).trans h3⟩
 | cls neg rs=>
  obtain⟨m,b,n,k,d,j,e,l,h3,h4⟩:=h;exact⟨m,b,n,by omega,by omega,by omega,by omega,l,q0q h3 (fun cs p=>hb b _ cs k d (by decide) p),(hb n _ _ j e (by decide) h4).trans h4⟩
theorem z5v.one{w:World}{L B:Nat}{P:Part}{a f:Value}(h:z5v w L B P a f):a.oneCell'=true∧f.oneCell'=true:=by
 cases P with
 | star=>obtain⟨rfl,rfl⟩:=h;exact⟨rfl,rfl⟩
 | any=>obtain⟨rfl,rfl⟩:=h;exact⟨rfl,rfl⟩
 | lit x=>obtain⟨rfl,b,_,_,rfl,_⟩:=h;exact⟨rfl,rfl⟩
 | cls neg rs=>obtain⟨rfl,b,d,_,_,_,_,rfl,_⟩:=h;exact⟨rfl,rfl⟩
theorem zgk(x:Nat)(w:World):
  Calls prog 360 #[.int .u8 x] w fun e w'=>(∃f,e=.returned (.agg #[.bool false,f])∧z5v w' w.heap.size w'.heap.size (.lit x) (.bool false) f)∧Fr [] w w':=by
 have a:∀(fn:Fn) (first cap:Array Value) (w:World),(Instr.makeFunc fn first cap).run prog w=.ok (.func fn first cap) w:=fun _ _ _ _=>rfl;go_enter func360,ntmps360;go_wp2;refine Xg (v:=.agg #[.bool false,.func (.func 368) #[] #[.pointer (some ⟨w.heap.size,0,none⟩)]]) (by simp[results,results360,go_sem]) rfl ⟨⟨_,rfl,?_⟩,?_⟩
 ·exact⟨rfl,w.heap.size,Xb _,by simp;omega,rfl,(Whole.new w 5 [.int .u8 x]).alloc _⟩
 ·exact((Fr.refl _ _).alloc _).alloc _
theorem PSt.drewN{w:World}{pb:Nat}{p:YY}{k:Nat}(h:PSt w pb p k)(n:Nat):PSt (w.drewN n) pb p k:=h
theorem PSt.alloc{w:World}{pb:Nat}{p:YY}{k:Nat}(h:PSt w pb p k)(o:Obj):PSt (w.alloc o) pb p k:=Whole.alloc h o
theorem PSt.lt{w:World}{pb:Nat}{p:YY}{k:Nat}(h:PSt w pb p k):pb < w.heap.size:=Whole.lt h
theorem PSt.far{w:World}{pb:Nat}{p:YY}{k:Nat}(h:PSt w pb p k){q:Addr}(hp:pb≠q.block)(u):PSt (w.setCell q u) pb p k:=Whole.far h hp u
def ClsIn(w wc:World)(pb:Nat)(p:YY)(m:Nat)(neg:Bool):Prop:=
 PSt wc pb p m∧Whole wc w.heap.size 318 [.bool false,.nilFunc]∧Whole wc (w.heap.size+1) 4 [.bool neg]∧Fr [pb] w wc∧wc.heap.size=w.heap.size+2
def zsh(w:World)(pb:Nat)(p:YY)(m:Nat)(neg:Bool)(e:Ending)(w':World):Prop:=
 (∃(x:List (Nat×Nat)×Nat) (f:Value),cls p m=some x∧x.1≠[]∧e=.returned (.agg #[.bool false,f])∧z5v w' w.heap.size w'.heap.size (.cls neg x.1) (.bool false) f∧PSt w' pb p (x.2+1)∧Fr [pb] w w') ∨
 ((∀x,cls p m=some x→x.1=[])∧e=.panicked [{ v:=zfn,recovered:=false }]∧Fr [pb] w w')
structure zlv(w wr:World)(pb:Nat)(p:YY)(neg:Bool)(k:Nat)(f:Nat→Bool):Prop where
 st:PSt wr pb p k
 c0:Whole wr w.heap.size 318 [.bool false,.nilFunc]
 c1:Whole wr (w.heap.size+1) 4 [.bool neg]
 tab:wr.rowIs (w.heap.size+2) 350 256 (fun c=>.bool (f c))
 fr:Fr [pb] w wr
 sz:w.heap.size+3≤wr.heap.size
theorem zlv.drewN{w wr:World}{pb:Nat}{p:YY}{neg:Bool}{k:Nat}{f:Nat→Bool}(h:zlv w wr pb p neg k f)(n:Nat):zlv w (wr.drewN n) pb p neg k f:=
 ⟨h.st,h.c0,h.c1,h.tab,h.fr.drewN n,h.sz⟩
theorem zlv.next{w wr w1:World}{pb:Nat}{p:YY}{neg:Bool}{k k':Nat}{f:Nat→Bool}(h:zlv w wr pb p neg k f)(hpb:pb < w.heap.size)(h1:PSt w1 pb p k')(hf:Fr [pb] wr w1):zlv w w1 pb p neg k' f:=
 ⟨h1,h.c0.fr hf (by simp;omega),h.c1.fr hf (by simp;omega),h.tab.of_block (hf.block _ (by have:=h.sz;omega) (by simp;omega)),h.fr.trans hf,Xd h.sz hf.size⟩
theorem zlv.at_{w wr:World}{pb:Nat}{p:YY}{neg:Bool}{k:Nat}{f:Nat→Bool}(h:zlv w wr pb p neg k f)(hpb:pb < w.heap.size)(k':Nat){z:Int}(e:z=k'):zlv w (wr.setCell ⟨pb,1,none⟩ (.int .i64 z)) pb p neg k' f:=
 ⟨h.st.set k' e,h.c0.far (by simp;omega) _,h.c1.far (by simp;omega) _,h.tab.setOther (by simp;omega) _,h.fr.setCell (.inl (by simp)) _,by simpa[World.setCell] using h.sz⟩
theorem zlv.put{w wr:World}{pb:Nat}{p:YY}{neg:Bool}{k:Nat}{f g:Nat→Bool}(h:zlv w wr pb p neg k f)(hpb:pb < w.heap.size)(i:Nat)(hg:∀c,c < 256→g c=if c=i then true else f c):
  zlv w (wr.setCell ⟨w.heap.size+2,i,none⟩ (.bool true)) pb p neg k g:=
 ⟨h.st.far (by simp;omega) _,h.c0.far (by simp) _,h.c1.far (by simp) _,(h.tab.set i _).congr (fun c hc=>by rw[hg c hc];split <;> rfl),h.fr.setCell (.inr (by simp)) _,by simpa[World.setCell] using h.sz⟩
theorem zat(ds:List (Nat×Nat))(a b c:Nat):z33 (ds++[(a,b)]) c=(z33 ds c||(decide (a≤c)&&decide (c≤b))):=by simp[z33]
theorem ztb(p:YY)(pb k m:Nat)(neg:Bool)(w)(hs:p.size≤281474976710656)(h:PSt w pb p k)(hk:k≤p.size)
  (hneg:z4t p (k+0) 94=neg) (hm:m=if neg then k+1 else k):
  Calls prog 359 #[.pointer (some ⟨pb,0,none⟩)] w (zsh w pb p m neg):=by
 have ah:∀(fn:Fn) (first cap:Array Value) (w:World),(Instr.makeFunc fn first cap).run prog w=.ok (.func fn first cap) w:=fun _ _ _ _=>rfl;have u:=h.lt
 have s:m≤p.size:=by
  subst hm;cases neg with
  | false=>exact hk
  | true=>simp[z4t] at hneg;simp;omega
 have H:=hid h;have HM:=hid hm;have HN:=hid hneg;clear h hm hneg;go_enter func359,ntmps359;go_wp2_with fail;refine(z6j p pb k 0 94 _ hs (by omega) (by omega) (H.o.alloc _) hk).mono ?_;rw[HN.o];rintro e J ⟨rfl,n,rfl⟩
 go_upto_if 10 with fail
 go_cut [] (fun wc=>ClsIn w wc pb p m neg)
 case first=>
  have f:=H.o;obtain⟨c0,c1,f0,f1,_⟩:=H.o.facts;cases neg with
  | true=>
   go_wp2;go_meet
   case rel=>
    have e:m=k+1:=by simpa using HM.o
    subst e
    exact⟨(((f.alloc _).drewN n).set (k+1) (by omega)).alloc _,((((Whole.new w _ _).drewN n).far (p:=⟨pb,1,none⟩) (by simp;omega) _).alloc _),
     by simpa using Whole.new ((((w.alloc (Obj.cells #[Value.bool false,Value.nilFunc] 318)).drewN n).setCell ⟨pb,1,none⟩ (Value.int .i64 (↑k+1)))) 4 [.bool true],
     ((((Fr.refl _ w).alloc _).drewN n).setCell (.inl (by simp)) _).alloc _,by simp⟩
  | false=>
   go_wp2;go_meet
   case rel=>
    have e:m=k:=by simpa using HM.o
    subst e
    exact⟨((f.alloc _).drewN n).alloc _,(((Whole.new w _ _).drewN n).alloc _),
     by simpa using Whole.new (((w.alloc (Obj.cells #[Value.bool false,Value.nilFunc] 318)).drewN n)) 4 [.bool false],
     (((Fr.refl _ w).alloc _).drewN n).alloc _,by simp⟩
 case rest=>
  obtain⟨f,a0,a3,W,Q⟩:=hcut;cases h93:z4t p (m+0) 93 with
  | true=>
   have a2:∀x,cls p m=some x→x.1=[]:=by
    intro x O;simp[z4t] at h93;rw[z95,Xf h93.1,Xf h93.2] at O;cases O;rfl
   have G:=hid h93;have ac:=hid a2;clear h93 a2;go_wp2_with fail;refine(z6j p pb m 0 93 _ hs (by omega) (by omega) f s).mono ?_;rw[G.o];rintro e J ⟨rfl,R,rfl⟩;go_wp2;exact⟨rfl,.inr ⟨ac.o,rfl,W.drewN _⟩⟩
  | false=>
   have G:=hid h93;clear h93;go_wp2_with fail;refine(z6j p pb m 0 93 _ hs (by omega) (by omega) f s).mono ?_;rw[G.o];rintro e J ⟨rfl,R,rfl⟩;go_wp2_with fail
   have a1:zlv w ((wc.drewN R).alloc (.cells (List.replicate 256 (Value.bool false)).toArray 350)) pb p neg m (fun c=>z33 [] c):=
    ⟨f.alloc _,a0.alloc _,a3.alloc _,by
     have:=World.rowIs_alloc (wc.drewN R) (List.replicate 256 (Value.bool false)).toArray 350 (fun c=>.bool (z33 [] c)) (fun i hi=>by
      rw[List.size_toArray,List.length_replicate] at hi;rw[List.getElem?_toArray,List.getElem?_replicate,Xf hi];rfl)
     simpa[Q] using this,(W.drewN _).alloc _,by simp[Q]⟩
   go_loopg [5,6,7] (p.size+1 - m) (fun g _ _ _ wr=>∃(k:Nat) (K:List (Nat×Nat)),g=p.size+1 - k∧k≤p.size∧zlv w wr pb p neg k (z33 K)∧cls p m=(cls p k).map (fun y=>(K++y.1,y.2))∧(K=[]→k=m))
   case atStart=>exact⟨m,[],rfl,s,a1,by simp,fun _=>rfl⟩
   case round=>
    clear a1 f a0 a3 W Q;obtain⟨k,K,rfl,r,E,Y,a6⟩:=hrel;have HR:=hid Y;have HD:=hid a6;have U:=hid E;have f:=E.st;clear Y a6 E;cases h93:z4t p (k+0) 93 with
    | true=>
     have X:=hid h93;clear h93;go_wp2_with fail;refine(z6j p pb k 0 93 _ hs (by omega) (by omega) f r).mono ?_;rw[X.o];rintro e J ⟨rfl,R,rfl⟩;obtain⟨c0,c1,f0,f1,_⟩:=f.facts;have q0:=U.o.c0.cell 0;have q1:=U.o.c0.cell 1;have r0:=U.o.c0.frozen 0;have r1:=U.o.c0.frozen 1;simp at q0 q1;go_wp2;refine Xg (v:=.agg #[.bool false,.func (.func 367) #[] #[.pointer (some ⟨w.heap.size+2,0,none⟩),.pointer (some ⟨w.heap.size+1,0,none⟩)]]) (by simp[results,results359,go_sem,q0,q1]) rfl ?_;have E:=U.o;have l:=X.o;simp[z4t] at l;have a8:cls p k=some ([],k):=by rw[z95,Xf l.1,Xf l.2]
     have Y:=HR.o;rw[a8] at Y;simp at Y;refine .inl ⟨(K,k),_,Y,?_,rfl,?_,?_,?_⟩
     ·intro hd;have ab:=HD.o hd;have:=G.o;rw[←ab,X.o] at this;cases this
     ·refine⟨rfl,w.heap.size+2,w.heap.size+1,by omega,?_,by omega,?_,rfl,?_,?_⟩
      ·have:=E.sz;simp[World.setCell];omega
      ·have:=E.sz;simp[World.setCell];omega
      ·have t:=(((E.tab.setOther (a:=⟨pb,1,none⟩) (by simp;omega) (Value.int .i64 (↑k+1))).setOther (a:=⟨w.heap.size,0,none⟩) (by simp) (Value.bool false)).setOther (a:=⟨w.heap.size,1,none⟩) (by simp)
        (.func (.func 367) #[] #[.pointer (some ⟨w.heap.size+2,0,none⟩),.pointer (some ⟨w.heap.size+1,0,none⟩)]))
       exact t
      ·have t:=(((E.c1.far (p:=⟨pb,1,none⟩) (by simp;omega) (Value.int .i64 (↑k+1))).far (p:=⟨w.heap.size,0,none⟩) (by simp) (Value.bool false)).far (p:=⟨w.heap.size,1,none⟩) (by simp)
        (.func (.func 367) #[] #[.pointer (some ⟨w.heap.size+2,0,none⟩),.pointer (some ⟨w.heap.size+1,0,none⟩)]))
       exact t
     ·exact((E.st.set (k+1) (by omega)).far (q:=⟨w.heap.size,0,none⟩) (by simp;omega) _).far (q:=⟨w.heap.size,1,none⟩) (by simp;omega) _
     ·exact(((E.fr.drewN _).setCell (.inl (by simp)) _).setCell (.inr (by simp)) _).setCell (.inr (by simp)) _
    | false=>
     have X:=hid h93;by_cases hend:k < p.size
     ·have F:z04 p k≠93:=by simp[z4t] at h93;exact h93 hend
      clear h93;have b0:=z0t p k;go_wp2_with fail;refine(z6j p pb k 0 93 _ hs (by omega) (by omega) f r).mono ?_;rw[X.o];rintro e J ⟨rfl,R,rfl⟩;go_wp2_with fail;refine(z8u p pb k _ hs (f.drewN _) hend).mono ?_;rintro e V ⟨rfl,C,M⟩;have a4:=hid ((U.o.drewN R).next u C M);obtain⟨c0,c1,f0,f1,_⟩:=C.facts;clear M
      have hA:∀n:Nat,Calls prog 366 #[.pointer (some ⟨pb,0,none⟩),.int .i64 0,.int .u8 45] (V.drewN n) fun e J=>e=.returned (.bool (z4t p (k+1+0) 45))∧∃m,J=(V.drewN n).drewN m:=
       fun n=>z6j p pb (k+1) 0 45 _ hs (by omega) (by omega) (C.drewN _) (by omega)
      have hB:∀n:Nat,Calls prog 366 #[.pointer (some ⟨pb,0,none⟩),.int .i64 1,.int .u8 93] (V.drewN n) fun e J=>e=.returned (.bool (z4t p (k+1+1) 93))∧∃m,J=(V.drewN n).drewN m:=
       fun n=>z6j p pb (k+1) 1 93 _ hs (by omega) (by omega) (C.drewN _) (by omega)
      have P:=hid hA;have HB:=hid hB;clear hA hB;have ek:((k+1:Nat):Int)=(k:Int)+1:=by omega
      by_cases hc:k+2 < p.size∧z04 p (k+1)=45∧z04 p (k+2)≠93
      ·obtain⟨h2,d,D⟩:=hc;have a7:z4t p (k+1+0) 45=true:=by simp[z4t];exact⟨by omega,d⟩
       have Z:z4t p (k+1+1) 93=false:=by simp[z4t];exact fun _=>D
       rw[a7] at P;rw[Z] at HB
       have A:cls p k=if z04 p (k+2) < z04 p k then none else (cls p (k+3)).map fun x=>((z04 p k,z04 p (k+2)) :: x.1,x.2):=by
        rw[z95,Xf hend,Xc F,Xf ⟨h2,d,D⟩]
       have HS:=hid A;have d2:(k:Int)+1+1 < p.size:=by omega
       have bb:=z0t p (k+2);clear A F d D a7 Z;go_wp2_with fail;go_cut [47] (fun t wx=>t=.bool true∧∃n,wx=V.drewN n)
       case first=>
        go_quiet ((first|(with_reducible exact Calls.quiet_of (P.o _))|(with_reducible exact Calls.quiet_of (HB.o _))))
        go_wp2;go_meet
        case rel=>exact⟨rfl,_,rfl⟩
       case rest=>
        obtain⟨rfl,n2,rfl⟩:=hcut;go_wp2_with fail;refine(z8u p pb (k+2) _ hs ((C.drewN n2).set (k+2) (by omega)) h2).mono ?_;rintro e w2 ⟨rfl,af,a5⟩;have I:=hid (((a4.o.drewN n2).at_ u (k+2) (z:=(k:Int)+1+1) (by omega)).next u af a5);clear a5;by_cases hlt3:z04 p (k+2) < z04 p k
        ·have j:∀x,cls p m=some x→x.1=[]:=by
          intro x O;rw[HR.o,HS.o,Xf hlt3] at O;simp at O
         have S:=hid j;clear j;go_wp2;exact⟨rfl,.inr ⟨S.o,rfl,I.o.fr⟩⟩
        ·have B:cls p k=(cls p (k+3)).map fun x=>((z04 p k,z04 p (k+2)) :: x.1,x.2):=by rw[HS.o,Xc hlt3]
         have HC:=hid B;clear B;go_wp2;go_loopg [7] (z04 p (k+2)+1 - z04 p k) (fun g c wi=>∃i:Nat,g=z04 p (k+2)+1 - i∧c=.int .i64 i∧z04 p k≤i∧i≤z04 p (k+2)+1∧zlv w wi pb p neg (k+3) (fun c=>z33 K c||(decide (z04 p k≤c)&&decide (c < i))))
         case atStart=>
          refine⟨z04 p k,rfl,rfl,Xb _,by omega,?_⟩;have:=I.o
          exact⟨this.st,this.c0,this.c1,this.tab.congr (fun c _=>by
           have:(decide (z04 p k≤c)&&decide (c < z04 p k))=false:=by simp
           simp[this]),this.fr,this.sz⟩
         case round=>
          obtain⟨i,rfl,rfl,aa,a9,L⟩:=hrel;have bB:=z0t p (k+2);have HI:=hid L;have b:=L.tab.cell (i:=i);have ae:=L.tab.frozen i;clear L;by_cases hle:i≤z04 p (k+2)
          ·have ag:=b (by omega);have T:(i:Int) < 256:=by omega
           clear b;go_wp2;go_roundg (z04 p (k+2)+1 - (i+1))
           case measure=>omega
           case rel=>
            exact⟨i+1,rfl,by go_num,by omega,by omega,HI.o.put u i (fun c _=>by
             by_cases hci:c=i
             ·subst hci;simp;right;omega
             ·rw[Xc hci,decide_eq_decide.2 (show c < i+1↔c < i by omega)])⟩
          ·clear b;go_wp2;go_roundg (p.size+1 - (k+3))
           case measure=>omega
           case rel=>
            refine⟨(k+3),K++[(z04 p k,z04 p (k+2))],rfl,by omega,?_,?_,by simp⟩
            ·have:=HI.o
             exact⟨this.st,this.c0,this.c1,this.tab.congr (fun c _=>by
              have e:i=z04 p (k+2)+1:=by omega
              subst e;rw[zat];congr 2;rw[decide_eq_decide.2 (show c < z04 p (k+2)+1↔c≤z04 p (k+2) by omega)]),this.fr,this.sz⟩
            ·rw[HR.o,HC.o];cases cls p (k+3) <;> simp
      ·have B:cls p k=(cls p (k+1)).map fun x=>((z04 p k,z04 p k) :: x.1,x.2):=by rw[z95,Xf hend,Xc F,Xc hc]
       have HC:=hid B;clear B F;go_wp2_with fail;go_cut [47] (fun t wx=>t=.bool false∧∃n,wx=V.drewN n)
       case first=>
        cases d:z4t p (k+1+0) 45 with
        | false=>
         rw[d] at P;clear d;go_quiet ((go_at_call 366;exact Calls.quiet_of (P.o _)));go_wp2;go_meet
         case rel=>exact⟨rfl,_,rfl⟩
        | true=>
         rw[d] at P;by_cases hl2:k+2 < p.size
         ·have N:z4t p (k+1+1) 93=true:=by
           simp[z4t] at d ⊢;exact⟨hl2,Decidable.byContradiction fun h=>hc ⟨hl2,d.2,h⟩⟩
          rw[N] at HB;have d2:(k:Int)+1+1 < p.size:=by omega
          clear d N hc;go_quiet ((first|(with_reducible exact Calls.quiet_of (P.o _))|(with_reducible exact Calls.quiet_of (HB.o _))))
          go_wp2;go_meet
          case rel=>exact⟨rfl,_,rfl⟩
         ·have d2:decide ((k:Int)+1+1 < p.size)=false:=by simp;omega
          clear d hc;go_quiet ((first|(with_reducible exact Calls.quiet_of (P.o _))|(with_reducible exact Calls.quiet_of (HB.o _))))
          go_wp2;go_meet
          case rel=>exact⟨rfl,_,rfl⟩
       case rest=>
        obtain⟨rfl,n2,rfl⟩:=hcut;have I:=hid (a4.o.drewN n2);go_wp2;go_loopg [7] (z04 p (k)+1 - z04 p k) (fun g c wi=>∃i:Nat,g=z04 p (k)+1 - i∧c=.int .i64 i∧z04 p k≤i∧i≤z04 p (k)+1∧zlv w wi pb p neg (k+1) (fun c=>z33 K c||(decide (z04 p k≤c)&&decide (c < i))))
        case atStart=>
         refine⟨z04 p k,rfl,rfl,Xb _,by omega,?_⟩;have:=I.o
         exact⟨this.st,this.c0,this.c1,this.tab.congr (fun c _=>by
          have:(decide (z04 p k≤c)&&decide (c < z04 p k))=false:=by simp
          simp[this]),this.fr,this.sz⟩
        case round=>
         obtain⟨i,rfl,rfl,aa,a9,L⟩:=hrel;have bB:=z0t p k;have HI:=hid L;have b:=L.tab.cell (i:=i);have ae:=L.tab.frozen i;clear L;by_cases hle:i≤z04 p (k)
         ·have ag:=b (by omega);have T:(i:Int) < 256:=by omega
          clear b;go_wp2;go_roundg (z04 p (k)+1 - (i+1))
          case measure=>omega
          case rel=>
           exact⟨i+1,rfl,by go_num,by omega,by omega,HI.o.put u i (fun c _=>by
            by_cases hci:c=i
            ·subst hci;simp;right;omega
            ·rw[Xc hci,decide_eq_decide.2 (show c < i+1↔c < i by omega)])⟩
         ·clear b;go_wp2;go_roundg (p.size+1 - (k+1))
          case measure=>omega
          case rel=>
           refine⟨(k+1),K++[(z04 p k,z04 p (k))],rfl,by omega,?_,?_,by simp⟩
           ·have:=HI.o
            exact⟨this.st,this.c0,this.c1,this.tab.congr (fun c _=>by
             have e:i=z04 p (k)+1:=by omega
             subst e;rw[zat];congr 2;rw[decide_eq_decide.2 (show c < z04 p (k)+1↔c≤z04 p (k) by omega)]),this.fr,this.sz⟩
           ·rw[HR.o,HC.o];cases cls p (k+1) <;> simp
     ·have ad:k=p.size:=by omega
      have j:∀x,cls p m=some x→x.1=[]:=by
       intro x O;rw[HR.o,z95,Xc hend] at O;simp at O
      have S:=hid j;clear j h93;go_wp2_with fail;refine(z6j p pb k 0 93 _ hs (by omega) (by omega) f r).mono ?_;rw[X.o];rintro e J ⟨rfl,R,rfl⟩;go_wp2_with fail;refine(zph p pb k _ hs (f.drewN _) ad).mono ?_;rintro e V ⟨rfl,M⟩;go_wp2;exact⟨rfl,.inr ⟨S.o,rfl,(U.o.fr.drewN _).trans M⟩⟩
attribute [local go_sem] z1g
end
def nums(s:YY):List Nat:=s.data.toList.map (·.toNat)
section
open Go.Lib
def zma(c:UInt8):Bool:=decide (48≤c.toNat)&&decide (c.toNat≤57)
def zln(a:Nat)(l:List UInt8):Nat:=l.foldl (fun a c=>a * 10+(c.toNat - 48)) a
def zx7(l:List UInt8):Nat:=zln 0 l
theorem zlo(a:Nat)(l:List UInt8)(c:UInt8):zln a (l++[c])=zln a l * 10+(c.toNat - 48):=by
 unfold zln;rw[List.foldl_append];rfl
theorem zo2:∀(l:List UInt8) (a:Nat),a≤zln a l
 | [],a=>Xb _
 | c :: r,a=>by
  have:=zo2 r (a * 10+(c.toNat - 48));show a≤zln (a * 10+(c.toNat - 48)) r;omega
theorem zx8:∀(l:List UInt8) (a:Nat),(∀c∈l,zma c=true)→zln a l < (a+1) * 10 ^ l.length
 | [],a,_=>by show a < (a+1) * 1;omega
 | c :: r,a,h=>by
  have hc:=h c (.head _);unfold zma at hc;simp at hc;have:=zx8 r (a * 10+(c.toNat - 48)) (fun q hq=>h q (.tail _ hq));show zln (a * 10+(c.toNat - 48)) r < (a+1) * 10 ^ (r.length+1);have h2:(a * 10+(c.toNat - 48)+1) * 10 ^ r.length≤((a+1) * 10) * 10 ^ r.length:=Yk _ (by omega);rw[Nat.pow_succ,Ya (10 ^ r.length) 10,←Nat.mul_assoc];omega
theorem zks{c:UInt8}(h:zma c=true):UInt8.ofNat (48+(c.toNat - 48))=c:=by
 unfold zma at h;simp at h;rw[show 48+(c.toNat - 48)=c.toNat by omega];simp
theorem z90{k:Nat}(h:k < 10):(UInt8.ofNat (48+k)).toNat=48+k:=by
 rw[UInt8.toNat_ofNat'];omega
theorem zhb(u:Nat):∀c∈decDigits u,zma c=true:=by
 induction u using Nat.strongRecOn with
 | _ u ih=>
  intro c a;rw[decDigits] at a;split at a
  ·rename_i h;rw[Uw] at a;subst a;unfold zma;rw[z90 h];simp;omega
  ·rename_i h;rcases Ys.1 a with a|a
   ·exact ih (u / 10) (by omega) c a
   ·rw[Uw] at a;subst a;unfold zma;rw[z90 (Nat.mod_lt _ (by decide))];simp;omega
theorem zo3(u:Nat):zx7 (decDigits u)=u:=by
 induction u using Nat.strongRecOn with
 | _ u ih=>
  rw[decDigits];split
  ·rename_i h;show 0 * 10+((UInt8.ofNat (48+u)).toNat - 48)=u;rw[z90 h];omega
  ·rename_i h;unfold zx7;rw[zlo];have:=ih (u / 10) (by omega);unfold zx7 at this;rw[this,z90 (Nat.mod_lt _ (by decide))];omega
theorem zoo(u:Nat):decDigits u≠[]:=by
 rw[decDigits];split <;> simp
theorem zyj(u:Nat)(hu:0 < u):∃c r,decDigits u=c :: r∧c.toNat≠48:=by
 induction u using Nat.strongRecOn with
 | _ u ih=>
  rw[decDigits];split
  ·rename_i h;exact⟨_,[],rfl,by rw[z90 h];omega⟩
  ·rename_i h;obtain⟨c,r,e,a⟩:=ih (u / 10) (by omega) (by omega);exact⟨c,r++[UInt8.ofNat (48+u % 10)],by rw[e];rfl,a⟩
theorem zor:decDigits 0=[48]:=by rw[decDigits];rfl
theorem ztm:∀(n:Nat) (l:List UInt8),l.length=n→l≠[]→(∀c∈l,zma c=true)→(∀c r,l=c :: r→c.toNat=48→r=[])→decDigits (zx7 l)=l
 | 0,l,hn,hne,_,_=>absurd (Xo hn) hne
 | n+1,l,hn,hne,hd,hz=>by
  obtain⟨d,c,rfl⟩:∃d c,l=d++[c]:=⟨l.dropLast,l.getLast hne,(List.dropLast_concat_getLast hne).symm⟩;have hc:=hd c (by simp);have hcd:=hc;unfold zma at hcd;simp at hcd;unfold zx7;rw[zlo];by_cases h0:d=[]
  ·subst h0;show decDigits (0 * 10+(c.toNat - 48))=[c];rw[decDigits,dif_pos (by omega),Jv,Yw,zks hc]
  ·have hdd:∀q∈d,zma q=true:=fun q hq=>hd q (Ys.2 (.inl hq));obtain⟨q,r,rfl⟩:=Jj h0
   have hq48:q.toNat≠48:=fun e=>by
    have:=hz q (r++[c]) rfl e;simp at this
   have hqd:=hdd q (.head _);unfold zma at hqd;simp at hqd
   have hpos:1≤zln 0 (q :: r):=by
    have:=zo2 r (0 * 10+(q.toNat - 48));show 1≤zln (0 * 10+(q.toNat - 48)) r;omega
   have b:=ztm n (q :: r) (by simp at hn ⊢;omega) (by simp) hdd (fun f g e a=>by
    injection e with e1 e2
    subst e1;exact absurd a hq48)
   unfold zx7 at b;rw[decDigits,dif_neg (by omega),show(zln 0 (q :: r) * 10+(c.toNat - 48)) / 10=zln 0 (q :: r) by omega,show(zln 0 (q :: r) * 10+(c.toNat - 48)) % 10=c.toNat - 48 by omega,b,zks hc]
def q3p(neg:Bool)(d:List UInt8):Option Nat:=
 if d.length=0∨9 < d.length∨(d.head? = some 48∧(1 < d.length∨neg=true)) then none else if d.all zma=true then some (zx7 d) else none
def z5l(l:List UInt8):Option Int:=
 if l.head? = some 45 then (q3p true (l.drop 1)).map (fun u:Nat=>-(u:Int)) else (q3p false l).map (fun u:Nat=>(u:Int))
theorem q7g{c:UInt8}:c.toNat=48↔c=48:=by
 constructor
 ·intro h;apply UInt8.toNat_inj.1;exact h
 ·rintro rfl;rfl
theorem zpg{neg:Bool}{d:List UInt8}{u:Nat}(h:q3p neg d=some u):d=decDigits u∧u≤999999999∧(neg=true→0 < u):=by
 unfold q3p at h;split at h
 ·cases h
 ·rename_i h1;split at h
  ·rename_i h2;injection h with h
   subst h;rw[Jb] at h2;have g:d≠[]:=fun e=>h1 (.inl (by rw[e];rfl))
   have a:d.length≤9:=by
    rcases Yc 9 d.length with h|h
    ·exact absurd (.inr (.inl h)) h1
    ·exact h
   have f:=ztm d.length d rfl g h2 (fun c r e j=>by
    rcases Yc 1 d.length with hl|hl
    ·exact absurd (.inr (.inr ⟨by rw[e,q7g.1 j];rfl,.inl hl⟩)) h1
    ·rw[e,Xy] at hl;exact Xo (by omega))
   have k:=zx8 d 0 h2;have l:(10:Nat) ^ d.length≤10 ^ 9:=Nat.pow_le_pow_right (by decide) a;refine⟨f.symm,by unfold zx7;omega,fun b=>?_⟩;rcases Yq (zx7 d) with h0|h0
   ·rw[h0,zor] at f;exact absurd (.inr (.inr ⟨by rw[←f];rfl,.inr b⟩)) h1
   ·exact h0
  ·cases h
theorem zm8{u:Nat}(h:u≤999999999):0 < (decDigits u).length∧(decDigits u).length≤9:=by
 refine⟨List.length_pos_iff.2 (zoo u),?_⟩;rw[decDigits_length];rcases Yc (nDigits u) 10 with h'|h'
 ·omega
 ·exfalso
  have:∀(k u:Nat),k+1≤nDigits u→0 < u→10 ^ k≤u:=by
   intro k
   induction k with
   | zero=>intro u _ a;rw[Nat.pow_zero];exact a
   | succ k ih=>
    intro u b a;by_cases h10:u < 10
    ·rw[nDigits_small h10] at b;omega
    ·rw[nDigits_big h10] at b;have:=ih (u / 10) (by omega) (by omega);rw[Nat.pow_succ];omega
  have d:=this 9 u (by omega) (by
   rcases Yq u with h0|h0
   ·rw[h0,nDigits_small (by decide)] at h';omega
   ·exact h0)
  omega
theorem zvf{neg:Bool}{u:Nat}(h:u≤999999999)(hn:neg=true→0 < u):q3p neg (decDigits u)=some u:=by
 have b:=zm8 h;unfold q3p;rw[Xc,Xf (Jb.2 (zhb u)),zo3];rintro(h1|h1|⟨h1,h2⟩)
 ·omega
 ·omega
 ·rcases Yq u with h0|h0
  ·rcases h2 with h2|h2
   ·rw[h0,zor] at h2;simp at h2
   ·have:=hn h2;omega
  ·obtain⟨c,r,e,a⟩:=zyj u h0;rw[e] at h1;simp at h1;exact a (q7g.2 h1)
theorem zyk(u:Nat):(decDigits u).head? ≠ some 45:=by
 intro h;obtain⟨c,r,e⟩:=Jj (zoo u);rw[e] at h;simp at h;have:=zhb u c (by rw[e];exact .head _);rw[h] at this;exact absurd this (by decide)
theorem z7o{l:List UInt8}{v:Int}:z5l l=some v↔z0o v=true∧l=itoa v:=by
 unfold z5l;constructor
 ·intro h;split at h
  ·rename_i h45;obtain⟨u,b,rfl⟩:=Yr.1 h;obtain⟨e,d,a⟩:=zpg b;have:=a rfl;refine⟨by unfold z0o;simp;omega,?_⟩
   obtain⟨c,r,rfl⟩:∃c r,l=c :: r:=by
    cases l with
    | nil=>simp at h45
    | cons c r=>exact⟨c,r,rfl⟩
   simp at h45 e;subst h45;unfold itoa;rw[Xf (by omega),e,show(-(u:Int)).natAbs=u by omega]
  ·obtain⟨u,b,rfl⟩:=Yr.1 h;obtain⟨e,d,a⟩:=zpg b;refine⟨by unfold z0o;simp;omega,?_⟩;unfold itoa;rw[Xc (by omega),e,Ur]
 ·rintro⟨hi,rfl⟩;unfold z0o at hi;simp at hi;unfold itoa;by_cases hv:v < 0
  ·rw[Xf hv,Xf (show(45 :: decDigits v.natAbs).head? = some (45:UInt8) from rfl)];show(q3p true (decDigits v.natAbs)).map _=some v;rw[zvf (by omega) (fun _=>by omega)];simp;omega
  ·rw[Xc hv,Xc (zyk _),zvf (by omega) (fun h=>by cases h)];simp;omega
theorem zpo:∀(l:List UInt8) (a:Nat),(∀c∈l,zma c=true)→zln a l≤1000000000000000000→parseUint10 a l=.ok (zln a l)
 | [],a,_,_=>rfl
 | c :: r,a,h,hv=>by
  have hc:=h c (.head _);unfold zma at hc;simp at hc;have h1:zln a (c :: r)=zln (a * 10+(c.toNat - 48)) r:=rfl;have h2:=zo2 r (a * 10+(c.toNat - 48));rw[h1] at hv ⊢;rw[parseUint10,Xf hc,Xc (by omega),Xc (by omega)];exact zpo r _ (fun q hq=>h q (.tail _ hq)) hv
theorem zky{u:Nat}(h:u≤999999999):parseMag (decDigits u)=.ok u:=by
 unfold parseMag;rw[Xc (zoo u)];have:=zpo (decDigits u) 0 (zhb u) (by have:=zo3 u;unfold zx7 at this;omega);have a:=zo3 u;unfold zx7 at a;rw[a] at this;exact this
theorem zj2{v:Int}(h:z0o v=true):atoiAll (itoa v)=.ok v:=by
 unfold z0o at h;simp at h;unfold itoa;by_cases hv:v < 0
 ·rw[Xf hv];unfold atoiAll;simp only[show(45:UInt8).toNat=45 from rfl,true_or,or_true,if_true];rw[zky (by omega)];simp only[not_true,false_and,if_false,true_and];rw[Xc (by omega)];congr 1;omega
 ·rw[Xc hv];obtain⟨c,r,e⟩:=Jj (zoo v.toNat);have a:=zhb v.toNat c (by rw[e];exact .head _);unfold zma at a;simp at a;have b:=zky (u:=v.toNat) (by omega);rw[e] at b ⊢;unfold atoiAll;simp only;rw[Xc (by omega),b];simp;rw[Xc (by omega),Xc (by omega),Xc (by omega)];congr 1;omega
theorem zus{l:List UInt8}{v:Int}(h:atoiAll l=.ok v):z5l l=if itoa v=l∧z0o v=true then some v else none:=by
 by_cases hc:itoa v=l∧z0o v=true
 ·rw[Xf hc];exact z7o.2 ⟨hc.2,hc.1.symm⟩
 ·rw[Xc hc];cases hi:z5l l with
  | none=>rfl
  | some u=>
   obtain⟨a,b⟩:=z7o.1 hi;have:=zj2 a;rw[←b,h] at this;injection this with this
   subst this;exact absurd ⟨b.symm,a⟩ hc
theorem zp8{l:List UInt8}(h:∀v,atoiAll l≠.ok v):z5l l=none:=by
 cases hi:z5l l with
 | none=>rfl
 | some u=>
  obtain⟨a,b⟩:=z7o.1 hi;exact absurd (by rw[b];exact zj2 a) (h u)
theorem zpa{v:Int}(h:z0o v=true):0 < (itoa v).length∧(itoa v).length≤10:=by
 unfold z0o at h;simp at h;unfold itoa;by_cases hv:v < 0
 ·rw[Xf hv];have:=zm8 (u:=v.natAbs) (by omega);rw[Xy];omega
 ·rw[Xc hv];have:=zm8 (u:=v.toNat) (by omega);omega
end
section
open Go.RowKit
section
variable {P:Program} {ops:Array Oper} {Q:Exit→Act→World→Prop} {md:Region.Mode} {S:World→Prop} {n:Nat}
def ziq(md:Region.Mode)(ops:Array Oper)(n i:Nat):Bool:=((ops[n]?).map fun o=>o.after.any fun e=>Region.binds md e&&e.on==i).getD false
theorem zlq{i:Nat}{listed:Array Bool}(h:ziq md ops n i=true)(hr:n∈Region.ready md ops listed):listed.getD i false=true:=by
 obtain⟨-,o,d,a⟩:=mem_ready.1 hr;unfold ziq at h;rw[d] at h;simp only[Ke,Option.getD_some] at h;rw[Array.any_eq_true] at h;obtain⟨k,b,h⟩:=h;simp only[Yf,beq_iff_eq] at h;have:=a _ (Array.getElem_mem b) h.1;rw[h.2] at this;exact this
def z9x(P:Program)(md:Region.Mode)(ops:Array Oper)(Q:Exit→Act→World→Prop)(S:World→Prop)(n:Nat):Nat→Array Bool→Act→World→Prop
 | 0,listed,a,w=>Region.ready md ops listed=[]∧Q .normal a w
 | fuel+1,listed,a,w=>
  (Region.ready md ops listed=[]→Q .normal a w) ∧
  ∀i∈Region.ready md ops listed,wpOp P ops Q i (fun a' w'=>(i≠n→S w')∧z9x P md ops Q S n fuel (listed.setIfInBounds i true) a' w') a w
theorem zgz:∀(fuel:Nat) (listed:Array Bool) (a:Act) (w),z9x P md ops Q S n fuel listed a w→wpAny P md ops Q fuel listed a w
 | 0,_,_,_,h=>h
 | fuel+1,_,_,_,h=>⟨h.1,fun i hi=>wpOp_mono (fun a' w' h'=>zgz fuel _ a' w' h'.2) (h.2 i hi)⟩
theorem zlu{i:Nat}{oi:Oper}{v:Value}(hi:ops[i]? = some oi)(hsel:∀(j:Nat) (o:Oper) cs b,ops[j]? = some o→o.op≠.select cs b)(hn:ziq md ops n i=true)(hin:i≠n)
  (hQ:∀c a w,Q (.panic c) (a.put oi.dst v) w→Q (.panic c) a w):
  ∀(fuel:Nat) (listed:Array Bool) (a:Act) (w:World),
   (∀j oj,ops[j]? = some oj→j≠i→listed.getD j true=false→(∀e∈oj.after,Region.binds md e=true→e.on≠i)→oi.apart ops oj=true) →
   i∈Region.ready md ops listed→YieldsIf P ops S oi v a→S w →
   z9x P md ops Q S n fuel (listed.setIfInBounds i true) (a.put oi.dst v) w→z9x P md ops Q S n (fuel+1) listed a w:=by
 intro fuel
 induction fuel with
 | zero=>
  intro listed a w _ hr A y H;refine⟨fun h=>(by rw[h] at hr;cases hr),fun j x=>?_⟩;by_cases hji:j=i
  ·subst hji;exact A.wpOp hi y ⟨fun _=>y,H⟩
  ·have:=ready_mono x hji;rw[H.1] at this;cases this
 | succ fuel ih=>
  intro listed a w d hr A y H;refine⟨fun h=>(by rw[h] at hr;cases hr),fun j x=>?_⟩;by_cases hji:j=i
  ·subst hji;exact A.wpOp hi y ⟨fun _=>y,H⟩
  ·have z:=H.2 j (ready_mono x hji);obtain⟨l,oj,p,u⟩:=mem_ready.1 x;have m:=(mem_ready.1 hr).1
   have f:listed.getD i false=true→False:=fun h=>by
    rcases Yc i listed.size with h'|h'
    ·simp[h'] at m h;rw[m] at h;cases h
    ·simp[Array.getElem?_eq_none h'] at h
   have E:j≠n:=fun e=>f (zlq hn (e ▸ x))
   have r:∀e∈oj.after,Region.binds md e=true→e.on≠i:=fun e L I D=>f (by
    have z:=u e L I;rw[D] at z;exact z)
   have G:=wpOp_putIf p (d j oj p hji l r) (fun cs b=>hsel i oi cs b hi) (fun cs b=>hsel j oj cs b p) hQ A z
   have g:∀k s,ops[k]? = some s→k≠i→(listed.setIfInBounds j true).getD k true=false →
     (∀e∈s.after,Region.binds md e=true→e.on≠i)→oi.apart ops s=true:=fun k s J C t B=>by
    refine d k s J C ?_ B;by_cases hjk:j=k
    ·subst hjk;exact l
    ·rw[getD_set_ne true hjk] at t;exact t
   refine wpOp_mono (fun K F h3=>⟨h3.2.1,ih (listed.setIfInBounds j true) K F g (ready_mono hr (Ne.symm hji)) h3.1 (h3.2.1 E) ?_⟩) G;rw[Array.setIfInBounds_comm _ _ hji];exact h3.2.2
theorem z07{i:Nat}{oi:Oper}{v:Value}{fuel:Nat}{listed:Array Bool}{a:Act}{w:World}(hi:ops[i]? = some oi)
  (hs:Region.noSelect ops=true) (hf:Region.free md ops listed i=true) (hr:(Region.ready md ops listed).contains i=true) (hn:ziq md ops n i=true) (hin:i≠n)
  (hQ:∀c a w,Q (.panic c) (a.put oi.dst v) w→Q (.panic c) a w) (hS:S w) (hy:YieldsIf P ops S oi v a)
  (h:z9x P md ops Q S n fuel (listed.setIfInBounds i true) (a.put oi.dst v) w):z9x P md ops Q S n (fuel+1) listed a w:=
 zlu hi (Region.noSelect_spec hs) hn hin hQ fuel listed a w (Region.free_spec hi hf) (by simpa using hr) hy hS h
theorem z27{k:Nat}{o:Oper}{fuel:Nat}{listed:Array Bool}{a:Act}{w:World}(hr:Region.ready md ops listed=[k])(ho:ops[k]? = some o)
  (h:∀K':Act→World→Prop,Shut (∀a w,(k≠n→S w)→z9x P md ops Q S n fuel (listed.setIfInBounds k true) a w→K' a w)→if Region.wanted o (yielded ops a.tmps)=true then Oper.wp P o a w K' Q else K' (a.put o.dst undef) w):z9x P md ops Q S n (fuel+1) listed a w:=by
 refine⟨fun b=>(by rw[hr] at b;cases b),fun i hi=>?_⟩;rw[hr] at hi;obtain rfl:i=k:=by simpa using hi
 exact wpOp_step ho (fun K' d=>h K' (fun a w f e=>d a w ⟨f,e⟩))
theorem zad{fuel:Nat}{listed:Array Bool}{a:Act}{w:World}(hr:Region.ready md ops listed=[])(h:Q .normal a w):z9x P md ops Q S n fuel listed a w:=by
 cases fuel with
 | zero=>exact⟨hr,h⟩
 | succ fuel=>exact⟨fun _=>h,fun i hi=>by rw[hr] at hi;cases hi⟩
theorem zae{id:Nat}{a:Act}{w:World}(S:World→Prop)(n:Nat)(hm:P.follows .mixedOrders=true)
  (h:z9x P .any ops Q S n ops.size (Array.replicate ops.size false) a w.drew):(Code.region id ops true).wp P Q a w:=
 wp_region_any hm (zgz _ _ _ _ h)
end
end
section
open Go.ChangeShapes Go.WideShapes Go.RowKit Go.Deep
section
variable {H:Type} {enc:TypeId×Value→H} {w:World}
theorem z8q{w:World}{a:Addr}{v:Value}(h:w.cell? a=some v):a=⟨a.block,a.off,none⟩∧a.block < w.heap.size:=by
 refine⟨?_,World.block_lt_of_cell? w a h⟩;unfold World.cell? at h;split at h
 ·cases a with
  | mk b o s=>
   cases s with
   | none=>rfl
   | some s=>simp at h
 ·cases h
theorem z6g(b o j:Nat):(⟨b,o,none⟩:Addr).add j=⟨b,o+j,none⟩:=by
 unfold Addr.add;split
 ·have e:j=0:=by assumption
  rw[e];rfl
 ·rfl
theorem zkf{α:Type}(P:Nat→α→Prop):∀n,(∀i,i < n→∃p,P i p)→∃l:List α,l.length=n∧∀(i:Nat) p,l[i]? = some p→P i p
 | 0,_=>⟨[],rfl,fun i p h=>by simp at h⟩
 | n+1,h=>by
  obtain⟨l,hl,hp⟩:=zkf P n (fun i hi=>h i (by omega));obtain⟨q,hq⟩:=h n (by omega);refine⟨l++[q],by simp[hl],fun i p hi=>?_⟩;rcases Yc i n with h1|h1
  ·rw[Xu (by omega)] at hi;exact hp i p hi
  ·have e:i=n:=by have:=(Xe.1 hi).1;simp at this;omega
   subst e;rw[Xq (by omega),hl,Ux] at hi;simp at hi;subst hi;exact hq
theorem zfm{P:Program}{e:TypeId}:∀ {l:List (DataW H)} {d:DataW H},d∈l→∀q∈d.weights P e,q∈DataW.weightsAll P e l
 | x :: l,d,hd,q,hq=>by
  simp only[DataW.weightsAll,Ys];rcases Yh.1 hd with rfl|hd
  ·exact .inl hq
  ·exact .inr (zfm hd q hq)
theorem z4n{P:Program}{t e:TypeId}{els sp:List (DataW H)}(ht:P.underlying t=some (.slice e))(h:∀q∈(DataW.slice els sp).weights P t,q≤reachBytes):
  (els.length+sp.length) * P.bytesOf e≤reachBytes∧∀d∈els,∀q∈d.weights P e,q≤reachBytes:=by
 simp only[DataW.weights,ht] at h;refine⟨h _ (by simp),fun d a q b=>h q ?_⟩;rw[Yh,Ys];exact .inr (.inl (zfm a q b))
theorem zbj{b o n size:Nat}{xs:List Value}{A:YV}{c:Nat}(hA:0 < n→A=some ⟨b,o,none⟩)(hx:xs.length=n * size)(hc:n≤c)(hm:c≤maxLen)(hb:0 < n→b < w.heap.size)(hcell:∀j u,xs[j]? = some u→w.cell? ⟨b,o+j,none⟩=some u):Sl w w.heap.size size (.slice A n c) n xs:=
 ⟨A,c,rfl,hx,hc,hm,fun hn=>⟨b,o,hA hn,hb hn,hcell⟩⟩
theorem zt0:prog.bytesOf 9=16:=by kernel_rfl
theorem zsz:prog.bytesOf 97=32:=by kernel_rfl
theorem zq9:prog.bytesOf 102=24:=by kernel_rfl
theorem z8r:prog.cellsOf 9=1:=by kernel_rfl
theorem zdd:prog.cellsOf 3=1:=by kernel_rfl
theorem zt8:prog.cellsOf 97=2:=by kernel_rfl
theorem zqb:prog.cellsOf 102=2:=by kernel_rfl
theorem zev{fuel:Nat}{cs:List Value}{x:DataW H×List MemPlace}(h:DataW.trod enc prog w 0 (fun _=>true) true fuel 24 cs=some x)(hw:∀q∈x.1.weights prog 24,q≤reachBytes):
  ∃A c l,cs=[.slice A l.length c]∧Sl w w.heap.size 1 (.slice A l.length c) l.length (z03 l)∧l.length≤281474976710656∧∀s∈l,s.size≤281474976710656:=by
 rcases open_strings underlying24 underlying9 z8r h with⟨rfl,rfl⟩|⟨a,len,cap,ss,rfl,_,hl,hm,hz,rfl,hcell,_⟩
 ·exact⟨none,0,[],rfl,Sl.nil _ _ _,by simp,fun s hs=>by cases hs⟩
 ·obtain⟨k,r⟩:=z4n underlying24 hw;simp only[if_true] at hz;have d:(ss.take len).length=len:=by rw[Xp];omega
  rw[zt0] at k;simp only[strs,Xx] at k;unfold reachBytes at k;refine⟨some a,cap,ss.take len,by rw[d],?_,by omega,fun s hs=>?_⟩
  ·rw[d];rcases Yq len with h0|h0
   ·subst h0;exact⟨_,_,rfl,by simp[z03],hl,hm,fun h=>absurd h (by omega)⟩
   ·have f:=hcell 0 (by omega);have n:a.add 0=a:=rfl;rw[n] at f;obtain⟨m,t⟩:=z8q f;refine zbj (b:=a.block) (o:=a.off) (fun _=>by rw[←m]) (by rw[z8a];omega) hl hm (fun _=>t) (fun j u g=>?_);have p:j < len:=by have:=(Xe.1 g).1;rw[z8a,d] at this;exact this
    have:=hcell j (by omega);rw[m,z6g] at this;rw[this];unfold z03 at g;rw[Uc,Vx p,Xa (by omega)] at g;simp at g;rw[Xs,Xa (by omega)];rw[←g];rfl
  ·have:=r (.lit (.string s.data.toList)) (by unfold strs;exact Yt.2 ⟨s,hs,rfl⟩) s.data.toList.length (by simp[DataW.weights]);unfold reachBytes at this;have e:s.data.toList.length=s.size:=by simp
   omega
theorem zgq:∀(l:List (YY×YY)) (j:Nat) (u),(z0e l)[j]? = some u→∃i p,l[i]? = some p∧((j=2 * i∧u=.string p.1)∨(j=2 * i+1∧u=.string p.2))
 | [],j,u,h=>by simp[z0e] at h
 | q :: l,0,u,h=>⟨0,q,rfl,.inl ⟨rfl,by simpa[z0e] using h.symm⟩⟩
 | q :: l,1,u,h=>⟨0,q,rfl,.inr ⟨rfl,by simpa[z0e] using h.symm⟩⟩
 | q :: l,j+2,u,h=>by
  obtain⟨i,p,hp,hh⟩:=zgq l j u (by simpa[z0e] using h);rcases hh with⟨h1,h2⟩|⟨h1,h2⟩
  ·exact⟨i+1,p,by simpa using hp,.inl ⟨by omega,h2⟩⟩
  ·exact⟨i+1,p,by simpa using hp,.inr ⟨by omega,h2⟩⟩
theorem zff:∀(l:List (Int×YY)) (j:Nat) (u),(z06 l)[j]? = some u→∃i p,l[i]? = some p∧((j=2 * i∧u=.int .i64 p.1)∨(j=2 * i+1∧u=.string p.2))
 | [],j,u,h=>by simp[z06] at h
 | q :: l,0,u,h=>⟨0,q,rfl,.inl ⟨rfl,by simpa[z06] using h.symm⟩⟩
 | q :: l,1,u,h=>⟨0,q,rfl,.inr ⟨rfl,by simpa[z06] using h.symm⟩⟩
 | q :: l,j+2,u,h=>by
  obtain⟨i,p,hp,hh⟩:=zff l j u (by simpa[z06] using h);rcases hh with⟨h1,h2⟩|⟨h1,h2⟩
  ·exact⟨i+1,p,by simpa using hp,.inl ⟨by omega,h2⟩⟩
  ·exact⟨i+1,p,by simpa using hp,.inr ⟨by omega,h2⟩⟩
theorem zlm{a:Addr}{cs:List Value}(h:w.cells? 0 a 2=some cs):∃u v,cs=[u,v]∧w.cell? a=some u∧w.cell? (a.add 1)=some v:=by
 obtain⟨_,d,b⟩:=World.cells?_some h
 match cs,d with
 | [u,v],_=>exact⟨u,v,rfl,b 0 (by omega),b 1 (by omega)⟩
theorem zw0{fuel:Nat}{cs:List Value}{x:DataW H×List MemPlace}(h:DataW.trod enc prog w 0 (fun _=>true) true fuel 65 cs=some x)(hw:∀q∈x.1.weights prog 65,q≤reachBytes):
  ∃A c l,cs=[.slice A l.length c]∧Sl w w.heap.size 2 (.slice A l.length c) l.length (z0e l)∧l.length≤281474976710656∧∀p∈l,p.1.size≤281474976710656∧p.2.size≤281474976710656:=by
 rcases open_slice underlying65 h with⟨rfl,rfl⟩|⟨a,len,cap,m,n,D,Pl,rfl,_,hl,hm,hmm,rfl,hi⟩
 ·exact⟨none,0,[],rfl,Sl.nil _ _ _,by simp,fun s hs=>by cases hs⟩
 ·obtain⟨G,R⟩:=z4n underlying65 hw;simp only[if_true] at hmm;rw[zsz] at G;simp only[Xx,Ju] at G;unfold reachBytes at G;rw[zt8] at hi
  have f:∀i,i < len→∃p:YY×YY,w.cell? (a.add (i * 2))=some (.string p.1)∧w.cell? ((a.add (i * 2)).add 1)=some (.string p.2)∧p.1.size≤281474976710656∧p.2.size≤281474976710656:=by
   intro i y;obtain⟨U,Z,S⟩:=hi i (by omega);obtain⟨u,v,rfl,K,X⟩:=zlm Z;obtain⟨V,k,_,O,_,C,N⟩:=DataW.trod_struct underlying97 S;have f0:=N 0 _ rfl;have M:=N 1 _ rfl;simp[z8r] at f0 M
   match V,C with
   | [y0,y1],_=>
    obtain⟨s,hs,rfl,_⟩:=DataW.trod_string underlying9 f0;obtain⟨t,g,rfl,_⟩:=DataW.trod_string underlying9 M;simp at hs g;subst hs;subst g;simp only[Prod.mk.injEq] at O;have r:=R (D i) (Yt.2 ⟨i,by simpa using y,rfl⟩);rw[O.1] at r;simp only[DataW.weights,underlying97,Yv,Vr,DataW.weightsEach] at r;refine⟨(s,t),K,X,?_,?_⟩
    ·have:=r s.data.toList.length (by simp);unfold reachBytes at this;have e:s.data.toList.length=s.size:=by simp
     show s.size≤_;omega
    ·have:=r t.data.toList.length (by simp);unfold reachBytes at this;have e:t.data.toList.length=t.size:=by simp
     show t.size≤_;omega
  obtain⟨l,z,J⟩:=zkf _ len f;subst z;refine⟨some a,cap,l,rfl,?_,by omega,fun p I=>?_⟩
  ·rcases Yq l.length with h0|h0
   ·exact⟨_,_,rfl,by rw[z7y];omega,hl,hm,fun h=>absurd h (by omega)⟩
   ·obtain⟨W,L⟩:∃p,l[0]? = some p:=⟨_,Xa h0⟩;have d:=(J 0 W L).1;have Q:a.add (0 * 2)=a:=rfl;rw[Q] at d;obtain⟨P,T⟩:=z8q d;refine zbj (b:=a.block) (o:=a.off) (fun _=>by rw[←P]) (by rw[z7y];omega) hl hm (fun _=>T) (fun j u K=>?_);obtain⟨i,p,B,Y⟩:=zgq l j u K;have E:=J i p B;rw[P,z6g,z6g] at E;rcases Y with⟨rfl,rfl⟩|⟨rfl,rfl⟩
    ·have:=E.1;rw[Ya] at this;exact this
    ·have:=E.2.1;rw[Yb,Ya] at this;exact this
  ·obtain⟨i,F⟩:=Yd I;exact(J i p F).2.2
theorem zri{fuel:Nat}{cs:List Value}{x:DataW H×List MemPlace}(h:DataW.trod enc prog w 0 (fun _=>true) true fuel 66 cs=some x)(hw:∀q∈x.1.weights prog 66,q≤reachBytes):
  ∃A c l,cs=[.slice A l.length c]∧Sl w w.heap.size 2 (.slice A l.length c) l.length (z06 l)∧l.length≤281474976710656∧∀p∈l,(-9223372036854775808≤p.1∧p.1≤9223372036854775807)∧p.2.size≤281474976710656:=by
 rcases open_slice underlying66 h with⟨rfl,rfl⟩|⟨a,len,cap,m,n,D,Pl,rfl,_,hl,hm,hmm,rfl,hi⟩
 ·exact⟨none,0,[],rfl,Sl.nil _ _ _,by simp,fun s hs=>by cases hs⟩
 ·obtain⟨I,S⟩:=z4n underlying66 hw;simp only[if_true] at hmm;rw[zq9] at I;simp only[Xx,Ju] at I;unfold reachBytes at I;rw[zqb] at hi
  have f:∀i,i < len→∃p:Int×YY,w.cell? (a.add (i * 2))=some (.int .i64 p.1)∧w.cell? ((a.add (i * 2)).add 1)=some (.string p.2)∧(-9223372036854775808≤p.1∧p.1≤9223372036854775807)∧p.2.size≤281474976710656:=by
   intro i y;obtain⟨V,hc,T⟩:=hi i (by omega);obtain⟨u,v,rfl,L,Y⟩:=zlm hc;obtain⟨W,k,_,P,_,E,O⟩:=DataW.trod_struct underlying102 T;have f0:=O 0 _ rfl;have N:=O 1 _ rfl;simp[z8r,zdd] at f0 N
   match W,E with
   | [y0,y1],_=>
    obtain⟨s,hs,rfl,B⟩:=DataW.trod_int underlying3 f0;obtain⟨t,g,rfl,_⟩:=DataW.trod_string underlying9 N;simp at hs g;subst hs;subst g;simp only[Prod.mk.injEq] at P;have r:=S (D i) (Yt.2 ⟨i,by simpa using y,rfl⟩);rw[P.1] at r;simp only[DataW.weights,underlying102,Yv,Vr,DataW.weightsEach] at r;refine⟨(s,t),L,Y,bounds_i64 B,?_⟩
    ·have:=r t.data.toList.length (by simp);unfold reachBytes at this;have e:t.data.toList.length=t.size:=by simp
     show t.size≤_;omega
  obtain⟨l,z,K⟩:=zkf _ len f;subst z;refine⟨some a,cap,l,rfl,?_,by omega,fun p J=>?_⟩
  ·rcases Yq l.length with h0|h0
   ·exact⟨_,_,rfl,by rw[z6w];omega,hl,hm,fun h=>absurd h (by omega)⟩
   ·obtain⟨X,M⟩:∃p,l[0]? = some p:=⟨_,Xa h0⟩;have d:=(K 0 X M).1;have R:a.add (0 * 2)=a:=rfl;rw[R] at d;obtain⟨Q,U⟩:=z8q d;refine zbj (b:=a.block) (o:=a.off) (fun _=>by rw[←Q]) (by rw[z6w];omega) hl hm (fun _=>U) (fun j u L=>?_);obtain⟨i,p,C,Z⟩:=zff l j u L;have F:=K i p C;rw[Q,z6g,z6g] at F;rcases Z with⟨rfl,rfl⟩|⟨rfl,rfl⟩
    ·have:=F.1;rw[Ya] at this;exact this
    ·have:=F.2.1;rw[Yb,Ya] at this;exact this
  ·obtain⟨i,G⟩:=Yd J;exact(K i p G).2.2
end
section
variable {H:Type} {enc:TypeId×Value→H} {w:World}
theorem zrj{r:Reach}{b0:Nat}{v:Value}{d:DataW H}{p:List MemPlace}(hv:Value.okWide prog w r b0 24 v)(h:DataW.Trod enc prog w 0 (fun _=>true) true 24 v d p)
  (hw:∀q∈d.weights prog 24,q≤reachBytes):∃A c l,v=.slice A l.length c∧Sl w w.heap.size 1 (.slice A l.length c) l.length (z03 l)∧l.length≤281474976710656∧∀s∈l,s.size≤281474976710656:=by
 obtain⟨a,n,c,rfl⟩:=okWide_slice underlying24 hv;obtain⟨b,f⟩:=h;obtain⟨A,m,l,e,k,g,j⟩:=zev (x:=(d,p)) f hw;simp[Value.cells] at e;obtain⟨rfl,rfl,rfl⟩:=e;exact⟨_,_,l,rfl,k,g,j⟩
end
end
end Go.Proofs.YtnmoajaelmimnaaGreatDoor
