/- Contracts that the proof of E3 uses. No condition beyond those in each theorem. -/
import Derived.Test.YtamgdmiopinidaaGreatDoorSlE30
import Derived.Deep.DeepCutAuto
import Derived.Deep.LoopGhost
import Derived.Laws.EntriesVeiled
import Derived.Test.YtamgdmiopinidaaGreatDoorProg
set_option linter.unusedVariables false
set_option linter.unusedSimpArgs false
set_option maxHeartbeats 8000000
set_option maxRecDepth 100000
namespace Go.Proofs.YtamgdmiopinidaaGreatDoor
open Lib (hid)
open Tryz (prog)
open Go.RowKit
attribute [local go_sem] z1k
def PSt(w:World)(pb:Nat)(p:ByteArray)(k:Nat):Prop:=Whole w pb 252 [.string p,.int .i64 k]
theorem PSt.facts{w:World}{pb:Nat}{p:ByteArray}{k:Nat}(h:PSt w pb p k) :
  w.cell? ⟨pb,0,none⟩=some (.string p)∧w.cell? ⟨pb,1,none⟩=some (.int .i64 k)∧w.frozen? ⟨pb,0,none⟩=false∧w.frozen? ⟨pb,1,none⟩=false∧pb < w.heap.size:=
 ⟨h.cell 0,h.cell 1,h.frozen 0,h.frozen 1,h.lt⟩
theorem PSt.set{w:World}{pb:Nat}{p:ByteArray}{k:Nat}(h:PSt w pb p k)(k':Nat){z:Int}(e:z=k'):PSt (w.setCell ⟨pb,1,none⟩ (.int .i64 z)) pb p k':=by
 subst e;exact Whole.set_ h 1 _
def zdb:Value:=.iface 248 (.agg #[])
theorem z6e(p:ByteArray)(pb k:Nat)(w:World)(hs:p.size≤281474976710656)(h:PSt w pb p k)(hk:k < p.size) :
  Calls prog 293 #[.pointer (some ⟨pb,0,none⟩)] w fun e w'=>e=.returned (.int .u8 (z04 p k))∧PSt w' pb p (k+1)∧Fr [pb] w w':=by
 obtain⟨c0,c1,f0,f1,hlt⟩:=h.facts
 have ht:((k:Int)==p.size)=false:=by simp;omega
 have b0:=z2a p k
 go_enter Tryz.func293,Tryz.ntmps293
 go_wp2
 go_quiet (fail)
 go_wp2
 go_quiet (fail)
 go_wp2
 go_ret
 exact⟨rfl,PSt.set h (k+1) (by omega),(((Fr.refl _ _).drewN _).setCell (.inl (by simp)) _).drewN _⟩
theorem zkc(p:ByteArray)(pb k:Nat)(w:World)(hs:p.size≤281474976710656)(h:PSt w pb p k)(hk:k=p.size) :
  Calls prog 293 #[.pointer (some ⟨pb,0,none⟩)] w fun e w'=>e=.panicked [{ v:=zdb,recovered:=false }]∧Fr [pb] w w':=by
 obtain⟨c0,c1,f0,f1,hlt⟩:=h.facts
 have ht:((k:Int)==p.size)=true:=by simp;omega
 clear hk
 go_enter Tryz.func293,Tryz.ntmps293
 go_wp2
 go_quiet (fail)
 go_wp2
 exact⟨rfl,rfl,(Fr.refl _ _).drewN _⟩
theorem zuq(p:ByteArray)(pb k:Nat)(m c:Nat)(w:World)(hs:p.size≤281474976710656)(hm:m≤1)(hc:c < 256)(h:PSt w pb p k)(hk:k+m < p.size) :
  Calls prog 306 #[.pointer (some ⟨pb,0,none⟩),.int .i64 m,.int .u8 c] w fun e w'=>e=.returned (.bool (decide (z04 p (k+m)=c)))∧∃n,w'=w.drewN n:=by
 obtain⟨c0,c1,f0,f1,hlt⟩:=h.facts
 have ht:(k:Int)+m < p.size:=by omega
 have b0:=z2a p (k+m)
 have E:=hid (show decide (z04 p (k+m)=c)=((z04 p (k+m):Int)==c) by rw[Bool.eq_iff_iff];simp;omega)
 have e1:((k:Int)+m).toNat=k+m:=by omega
 go_enter Tryz.func306,Tryz.ntmps306
 go_wp2
 go_quiet (fail)
 go_wp2
 go_ret
 rw[E.out]
 exact⟨rfl,_,rfl⟩
theorem zte(p:ByteArray)(pb k:Nat)(m c:Nat)(w:World)(hs:p.size≤281474976710656)(hm:m≤1)(hc:c < 256)(h:PSt w pb p k)(hk:¬k+m < p.size)(hk2:k≤p.size) :
  Calls prog 306 #[.pointer (some ⟨pb,0,none⟩),.int .i64 m,.int .u8 c] w fun e w'=>e=.returned (.bool false)∧∃n,w'=w.drewN n:=by
 obtain⟨c0,c1,f0,f1,hlt⟩:=h.facts
 have ht:decide ((k:Int)+m < p.size)=false:=by simp;omega
 go_enter Tryz.func306,Tryz.ntmps306
 go_wp2
 go_quiet (fail)
 go_wp2
 go_ret
 exact⟨rfl,_,rfl⟩
def z41(p:ByteArray)(k c:Nat):Bool:=decide (k < p.size)&&decide (z04 p k=c)
theorem z5o(p:ByteArray)(pb k:Nat)(m c:Nat)(w:World)(hs:p.size≤281474976710656)(hm:m≤1)(hc:c < 256)(h:PSt w pb p k)(hk2:k≤p.size) :
  Calls prog 306 #[.pointer (some ⟨pb,0,none⟩),.int .i64 m,.int .u8 c] w fun e w'=>e=.returned (.bool (z41 p (k+m) c))∧∃n,w'=w.drewN n:=by
 by_cases hk:k+m < p.size
 ·have e:z41 p (k+m) c=decide (z04 p (k+m)=c):=by simp[z41,hk]
  rw[e];exact zuq p pb k m c w hs hm hc h hk
 ·have e:z41 p (k+m) c=false:=by simp[z41,hk]
  rw[e];exact zte p pb k m c w hs hm hc h hk hk2
theorem zs9(c:Nat)(w:World):Calls prog 294 #[.int .u8 c] w fun e w'=>e=.returned (.bool true)∧w=w':=by
 go_enter Tryz.func294,Tryz.ntmps294
 go_wp2
 go_ret
 exact⟨rfl,rfl⟩
theorem zs3(c x b:Nat)(w:World)(h:w.cell? ⟨b,0,none⟩=some (.int .u8 x)) :
  Calls prog 308 #[.int .u8 c,.pointer (some ⟨b,0,none⟩)] w fun e w'=>e=.returned (.bool (decide (c=x)))∧w=w':=by
 have E:=hid (show decide (c=x)=((c:Int)==x) by rw[Bool.eq_iff_iff];simp;omega)
 go_enter Tryz.func308,Tryz.ntmps308
 go_wp2
 go_ret
 rw[E.out]
 exact⟨rfl,rfl⟩
theorem zsz(c b b2:Nat)(m neg:Bool)(w:World)(hc:c < 256)(h:w.cell? ⟨b,c,none⟩=some (.bool m))(h2:w.cell? ⟨b2,0,none⟩=some (.bool neg)) :
  Calls prog 307 #[.int .u8 c,.pointer (some ⟨b,0,none⟩),.pointer (some ⟨b2,0,none⟩)] w fun e w'=>e=.returned (.bool (m != neg))∧∃n,w'=w.drewN n:=by
 go_enter Tryz.func307,Tryz.ntmps307
 go_wp2
 go_quiet (fail)
 go_wp2
 go_ret
 exact⟨rfl,_,rfl⟩
def z5d(w:World)(L B:Nat):Part→Value→Value→Prop
 | .star,a,f=>a=.bool true∧f=.nilFunc
 | .any,a,f=>a=.bool false∧f=.func (.func 294) #[] #[]
 | .lit x,a,f=>a=.bool false∧∃b,L≤b∧b < B∧f=.func (.func 308) #[] #[.pointer (some ⟨b,0,none⟩)]∧Whole w b 5 [.int .u8 x]
 | .cls neg rs,a,f=>a=.bool false∧∃b b2,L≤b∧b < B∧L≤b2∧b2 < B∧f=.func (.func 307) #[] #[.pointer (some ⟨b,0,none⟩),.pointer (some ⟨b2,0,none⟩)] ∧
   w.rowIs b 280 256 (fun c=>.bool (z2p rs c))∧Whole w b2 4 [.bool neg]
theorem zrf{w w':World}{b t n:Nat}{f:Nat→Value}(h:w.rowIs b t n f)(hk:∀cs,w.heap[b]? = some (.cells cs t (0,0))→w'.heap[b]? = w.heap[b]?):w'.rowIs b t n f:=by
 obtain⟨c,hc,h2⟩:=h
 exact⟨c,(hk c hc).trans hc,h2⟩
theorem z5d.keep{w w':World}{L L' B B':Nat}{P:Part}{a f:Value}(h:z5d w L B P a f)
  (hb:∀(g:Nat) (t:TypeId) (cs:Array Value),L≤g→g < B→t≠209→w.heap[g]? = some (.cells cs t (0,0))→w'.heap[g]? = w.heap[g]?) (hL:L'≤L) (hB:B≤B'):z5d w' L' B' P a f:=by
 cases P with
 | star=>exact h
 | any=>exact h
 | lit x=>
  obtain⟨h1,b,hl,hlt,h2,h3⟩:=h
  exact⟨h1,b,by omega,by omega,h2,(hb b _ _ hl hlt (by decide) h3).trans h3⟩
 | cls neg rs=>
  obtain⟨h1,b,b2,hl,hlt,hl2,hlt2,h2,h3,h4⟩:=h
  exact⟨h1,b,b2,by omega,by omega,by omega,by omega,h2,zrf h3 (fun cs hc=>hb b _ cs hl hlt (by decide) hc),(hb b2 _ _ hl2 hlt2 (by decide) h4).trans h4⟩
theorem z5d.one{w:World}{L B:Nat}{P:Part}{a f:Value}(h:z5d w L B P a f):a.oneCell'=true∧f.oneCell'=true:=by
 cases P with
 | star=>obtain⟨rfl,rfl⟩:=h;exact⟨rfl,rfl⟩
 | any=>obtain⟨rfl,rfl⟩:=h;exact⟨rfl,rfl⟩
 | lit x=>obtain⟨rfl,b,_,_,rfl,_⟩:=h;exact⟨rfl,rfl⟩
 | cls neg rs=>obtain⟨rfl,b,b2,_,_,_,_,rfl,_⟩:=h;exact⟨rfl,rfl⟩
theorem ze9(x:Nat)(w:World) :
  Calls prog 296 #[.int .u8 x] w fun e w'=>(∃f,e=.returned (.agg #[.bool false,f])∧z5d w' w.heap.size w'.heap.size (.lit x) (.bool false) f)∧Fr [] w w':=by
 have hmf:∀(fn:Fn) (first cap:Array Value) (w:World),(Instr.makeFunc fn first cap).run prog w=.ok (.func fn first cap) w:=fun _ _ _ _=>rfl
 go_enter Tryz.func296,Tryz.ntmps296
 go_wp2
 refine bodyPost_ret (v:=.agg #[.bool false,.func (.func 308) #[] #[.pointer (some ⟨w.heap.size,0,none⟩)]]) (by simp[results,Tryz.results296,go_sem]) rfl ⟨⟨_,rfl,?_⟩,?_⟩
 ·exact⟨rfl,w.heap.size,Nat.le_refl _,by simp;omega,rfl,(Whole.new w 5 [.int .u8 x]).alloc _⟩
 ·exact((Fr.refl _ _).alloc _).alloc _
theorem PSt.drewN{w:World}{pb:Nat}{p:ByteArray}{k:Nat}(h:PSt w pb p k)(n:Nat):PSt (w.drewN n) pb p k:=h
theorem PSt.alloc{w:World}{pb:Nat}{p:ByteArray}{k:Nat}(h:PSt w pb p k)(o:Obj):PSt (w.alloc o) pb p k:=Whole.alloc h o
theorem PSt.lt{w:World}{pb:Nat}{p:ByteArray}{k:Nat}(h:PSt w pb p k):pb < w.heap.size:=Whole.lt h
theorem PSt.far{w:World}{pb:Nat}{p:ByteArray}{k:Nat}(h:PSt w pb p k){q:Addr}(hp:pb≠q.block)(u:Value):PSt (w.setCell q u) pb p k:=Whole.far h hp u
def ClsIn(w wc:World)(pb:Nat)(p:ByteArray)(m:Nat)(neg:Bool):Prop:=
 PSt wc pb p m∧Whole wc w.heap.size 209 [.bool false,.nilFunc]∧Whole wc (w.heap.size+1) 4 [.bool neg]∧Fr [pb] w wc∧wc.heap.size=w.heap.size+2
def zqb(w:World)(pb:Nat)(p:ByteArray)(m:Nat)(neg:Bool)(e:Ending)(w':World):Prop:=
 (∃(x:List (Nat×Nat)×Nat) (f:Value),cls p m=some x∧x.1≠[]∧e=.returned (.agg #[.bool false,f])∧z5d w' w.heap.size w'.heap.size (.cls neg x.1) (.bool false) f∧PSt w' pb p (x.2+1)∧Fr [pb] w w') ∨
 ((∀x,cls p m=some x→x.1=[])∧e=.panicked [{ v:=zdb,recovered:=false }]∧Fr [pb] w w')
structure zi2(w wr:World)(pb:Nat)(p:ByteArray)(neg:Bool)(k:Nat)(f:Nat→Bool):Prop where
 st:PSt wr pb p k
 c0:Whole wr w.heap.size 209 [.bool false,.nilFunc]
 c1:Whole wr (w.heap.size+1) 4 [.bool neg]
 tab:wr.rowIs (w.heap.size+2) 280 256 (fun c=>.bool (f c))
 fr:Fr [pb] w wr
 sz:w.heap.size+3≤wr.heap.size
theorem zi2.drewN{w wr:World}{pb:Nat}{p:ByteArray}{neg:Bool}{k:Nat}{f:Nat→Bool}(h:zi2 w wr pb p neg k f)(n:Nat):zi2 w (wr.drewN n) pb p neg k f:=
 ⟨h.st,h.c0,h.c1,h.tab,h.fr.drewN n,h.sz⟩
theorem zi2.next{w wr w1:World}{pb:Nat}{p:ByteArray}{neg:Bool}{k k':Nat}{f:Nat→Bool}(h:zi2 w wr pb p neg k f)(hpb:pb < w.heap.size)(h1:PSt w1 pb p k')(hf:Fr [pb] wr w1):zi2 w w1 pb p neg k' f:=
 ⟨h1,h.c0.fr hf (by simp;omega),h.c1.fr hf (by simp;omega),h.tab.of_block (hf.block _ (by have:=h.sz;omega) (by simp;omega)),h.fr.trans hf,Nat.le_trans h.sz hf.size⟩
theorem zi2.at_{w wr:World}{pb:Nat}{p:ByteArray}{neg:Bool}{k:Nat}{f:Nat→Bool}(h:zi2 w wr pb p neg k f)(hpb:pb < w.heap.size)(k':Nat){z:Int}(e:z=k'):zi2 w (wr.setCell ⟨pb,1,none⟩ (.int .i64 z)) pb p neg k' f:=
 ⟨h.st.set k' e,h.c0.far (by simp;omega) _,h.c1.far (by simp;omega) _,h.tab.setOther (by simp;omega) _,h.fr.setCell (.inl (by simp)) _,by simpa[World.setCell] using h.sz⟩
theorem zi2.put{w wr:World}{pb:Nat}{p:ByteArray}{neg:Bool}{k:Nat}{f g:Nat→Bool}(h:zi2 w wr pb p neg k f)(hpb:pb < w.heap.size)(i:Nat)(hg:∀c,c < 256→g c=if c=i then true else f c) :
  zi2 w (wr.setCell ⟨w.heap.size+2,i,none⟩ (.bool true)) pb p neg k g:=
 ⟨h.st.far (by simp;omega) _,h.c0.far (by simp) _,h.c1.far (by simp) _,(h.tab.set i _).congr (fun c hc=>by rw[hg c hc];split <;> rfl),h.fr.setCell (.inr (by simp)) _,by simpa[World.setCell] using h.sz⟩
theorem z94(ds:List (Nat×Nat))(a b c:Nat):z2p (ds++[(a,b)]) c=(z2p ds c||(decide (a≤c)&&decide (c≤b))):=by simp[z2p]
theorem znu(p:ByteArray)(pb k m:Nat)(neg:Bool)(w:World)(hs:p.size≤281474976710656)(h:PSt w pb p k)(hk:k≤p.size)
  (hneg:z41 p (k+0) 94=neg) (hm:m=if neg then k+1 else k) :
  Calls prog 295 #[.pointer (some ⟨pb,0,none⟩)] w (zqb w pb p m neg):=by
 have hmf:∀(fn:Fn) (first cap:Array Value) (w:World),(Instr.makeFunc fn first cap).run prog w=.ok (.func fn first cap) w:=fun _ _ _ _=>rfl
 have hlt:=h.lt
 have hmle:m≤p.size:=by
  subst hm
  cases neg with
  | false=>exact hk
  | true=>simp[z41] at hneg;simp;omega
 have H:=hid h
 have HM:=hid hm
 have HN:=hid hneg
 clear h hm hneg
 go_enter Tryz.func295,Tryz.ntmps295
 go_wp2_with fail
 refine(z5o p pb k 0 94 _ hs (by omega) (by omega) (H.out.alloc _) hk).mono ?_
 rw[HN.out]
 rintro e w' ⟨rfl,n,rfl⟩
 go_upto_if 10 with fail
 go_cut [] (fun wc=>ClsIn w wc pb p m neg)
 case first=>
  have hp:=H.out
  obtain⟨c0,c1,f0,f1,_⟩:=H.out.facts
  cases neg with
  | true=>
   go_wp2
   go_meet
   case rel=>
    have e:m=k+1:=by simpa using HM.out
    subst e
    exact⟨(((hp.alloc _).drewN n).set (k+1) (by omega)).alloc _,((((Whole.new w _ _).drewN n).far (p:=⟨pb,1,none⟩) (by simp;omega) _).alloc _),
     by simpa using Whole.new ((((w.alloc (Obj.cells #[Value.bool false,Value.nilFunc] 209)).drewN n).setCell ⟨pb,1,none⟩ (Value.int .i64 (↑k+1)))) 4 [.bool true],
     ((((Fr.refl _ w).alloc _).drewN n).setCell (.inl (by simp)) _).alloc _,by simp⟩
  | false=>
   go_wp2
   go_meet
   case rel=>
    have e:m=k:=by simpa using HM.out
    subst e
    exact⟨((hp.alloc _).drewN n).alloc _,(((Whole.new w _ _).drewN n).alloc _),
     by simpa using Whole.new (((w.alloc (Obj.cells #[Value.bool false,Value.nilFunc] 209)).drewN n)) 4 [.bool false],
     (((Fr.refl _ w).alloc _).drewN n).alloc _,by simp⟩
 case rest=>
  obtain⟨hp,hg0,hg1,hfr,hsz⟩:=hcut
  cases h93:z41 p (m+0) 93 with
  | true=>
   have hno:∀x,cls p m=some x→x.1=[]:=by
    intro x hx
    simp[z41] at h93
    rw[z7u,if_pos h93.1,if_pos h93.2] at hx
    cases hx;rfl
   have H93:=hid h93
   have HNO:=hid hno
   clear h93 hno
   go_wp2_with fail
   refine(z5o p pb m 0 93 _ hs (by omega) (by omega) hp hmle).mono ?_
   rw[H93.out]
   rintro e w' ⟨rfl,n',rfl⟩
   go_wp2
   exact⟨rfl,.inr ⟨HNO.out,rfl,hfr.drewN _⟩⟩
  | false=>
   have H93:=hid h93
   clear h93
   go_wp2_with fail
   refine(z5o p pb m 0 93 _ hs (by omega) (by omega) hp hmle).mono ?_
   rw[H93.out]
   rintro e w' ⟨rfl,n',rfl⟩
   go_wp2_with fail
   have hL0:zi2 w ((wc.drewN n').alloc (.cells (List.replicate 256 (Value.bool false)).toArray 280)) pb p neg m (fun c=>z2p [] c):=
    ⟨hp.alloc _,hg0.alloc _,hg1.alloc _,by
     have:=World.rowIs_alloc (wc.drewN n') (List.replicate 256 (Value.bool false)).toArray 280 (fun c=>.bool (z2p [] c)) (fun i hi=>by
      rw[List.size_toArray,List.length_replicate] at hi
      rw[List.getElem?_toArray,List.getElem?_replicate,if_pos hi];rfl)
     simpa[hsz] using this,(hfr.drewN _).alloc _,by simp[hsz]⟩
   go_loopg [5,6,7] (p.size+1 - m) (fun g _ _ _ wr=>∃(k:Nat) (ds:List (Nat×Nat)),g=p.size+1 - k∧k≤p.size∧zi2 w wr pb p neg k (z2p ds)∧cls p m=(cls p k).map (fun y=>(ds++y.1,y.2))∧(ds=[]→k=m))
   case atStart=>exact⟨m,[],rfl,hmle,hL0,by simp,fun _=>rfl⟩
   case round=>
    clear hL0 hp hg0 hg1 hfr hsz
    obtain⟨k,ds,rfl,hkle,hL,hR,hds⟩:=hrel
    have HR:=hid hR
    have HD:=hid hds
    have HL:=hid hL
    have hp:=hL.st
    clear hR hds hL
    cases h93:z41 p (k+0) 93 with
    | true=>
     have HK:=hid h93
     clear h93
     go_wp2_with fail
     refine(z5o p pb k 0 93 _ hs (by omega) (by omega) hp hkle).mono ?_
     rw[HK.out]
     rintro e w' ⟨rfl,n',rfl⟩
     obtain⟨c0,c1,f0,f1,_⟩:=hp.facts
     have q0:=HL.out.c0.cell 0
     have q1:=HL.out.c0.cell 1
     have r0:=HL.out.c0.frozen 0
     have r1:=HL.out.c0.frozen 1
     simp at q0 q1
     go_wp2
     refine bodyPost_ret (v:=.agg #[.bool false,.func (.func 307) #[] #[.pointer (some ⟨w.heap.size+2,0,none⟩),.pointer (some ⟨w.heap.size+1,0,none⟩)]]) (by simp[results,Tryz.results295,go_sem,q0,q1]) rfl ?_
     have hL:=HL.out
     have hk93:=HK.out
     simp[z41] at hk93
     have hcls:cls p k=some ([],k):=by rw[z7u,if_pos hk93.1,if_pos hk93.2]
     have hR:=HR.out
     rw[hcls] at hR
     simp at hR
     refine .inl ⟨(ds,k),_,hR,?_,rfl,?_,?_,?_⟩
     ·intro hd
      have hkm:=HD.out hd
      have:=H93.out
      rw[←hkm,HK.out] at this
      cases this
     ·refine⟨rfl,w.heap.size+2,w.heap.size+1,by omega,?_,by omega,?_,rfl,?_,?_⟩
      ·have:=hL.sz;simp[World.setCell];omega
      ·have:=hL.sz;simp[World.setCell];omega
      ·have t:=(((hL.tab.setOther (a:=⟨pb,1,none⟩) (by simp;omega) (Value.int .i64 (↑k+1))).setOther (a:=⟨w.heap.size,0,none⟩) (by simp) (Value.bool false)).setOther (a:=⟨w.heap.size,1,none⟩) (by simp)
        (.func (.func 307) #[] #[.pointer (some ⟨w.heap.size+2,0,none⟩),.pointer (some ⟨w.heap.size+1,0,none⟩)]))
       exact t
      ·have t:=(((hL.c1.far (p:=⟨pb,1,none⟩) (by simp;omega) (Value.int .i64 (↑k+1))).far (p:=⟨w.heap.size,0,none⟩) (by simp) (Value.bool false)).far (p:=⟨w.heap.size,1,none⟩) (by simp)
        (.func (.func 307) #[] #[.pointer (some ⟨w.heap.size+2,0,none⟩),.pointer (some ⟨w.heap.size+1,0,none⟩)]))
       exact t
     ·exact((hL.st.set (k+1) (by omega)).far (q:=⟨w.heap.size,0,none⟩) (by simp;omega) _).far (q:=⟨w.heap.size,1,none⟩) (by simp;omega) _
     ·exact(((hL.fr.drewN _).setCell (.inl (by simp)) _).setCell (.inr (by simp)) _).setCell (.inr (by simp)) _
    | false=>
     have HK:=hid h93
     by_cases hend:k < p.size
     ·have hne:z04 p k≠93:=by simp[z41] at h93;exact h93 hend
      clear h93
      have b0:=z2a p k
      go_wp2_with fail
      refine(z5o p pb k 0 93 _ hs (by omega) (by omega) hp hkle).mono ?_
      rw[HK.out]
      rintro e w' ⟨rfl,n',rfl⟩
      go_wp2_with fail
      refine(z6e p pb k _ hs (hp.drewN _) hend).mono ?_
      rintro e w1 ⟨rfl,hp1,hf1⟩
      have HL1:=hid ((HL.out.drewN n').next hlt hp1 hf1)
      obtain⟨c0,c1,f0,f1,_⟩:=hp1.facts
      clear hf1
      have hA:∀n:Nat,Calls prog 306 #[.pointer (some ⟨pb,0,none⟩),.int .i64 0,.int .u8 45] (w1.drewN n) fun e w'=>e=.returned (.bool (z41 p (k+1+0) 45))∧∃m,w'=(w1.drewN n).drewN m:=
       fun n=>z5o p pb (k+1) 0 45 _ hs (by omega) (by omega) (hp1.drewN _) (by omega)
      have hB:∀n:Nat,Calls prog 306 #[.pointer (some ⟨pb,0,none⟩),.int .i64 1,.int .u8 93] (w1.drewN n) fun e w'=>e=.returned (.bool (z41 p (k+1+1) 93))∧∃m,w'=(w1.drewN n).drewN m:=
       fun n=>z5o p pb (k+1) 1 93 _ hs (by omega) (by omega) (hp1.drewN _) (by omega)
      have HA:=hid hA
      have HB:=hid hB
      clear hA hB
      have ek:((k+1:Nat):Int)=(k:Int)+1:=by omega
      by_cases hc:k+2 < p.size∧z04 p (k+1)=45∧z04 p (k+2)≠93
      ·obtain⟨h2,h45,h932⟩:=hc
       have HAe:z41 p (k+1+0) 45=true:=by simp[z41];exact⟨by omega,h45⟩
       have HBe:z41 p (k+1+1) 93=false:=by simp[z41];exact fun _=>h932
       rw[HAe] at HA
       rw[HBe] at HB
       have hstep:cls p k=if z04 p (k+2) < z04 p k then none else (cls p (k+3)).map fun x=>((z04 p k,z04 p (k+2)) :: x.1,x.2):=by
        rw[z7u,if_pos hend,if_neg hne,if_pos ⟨h2,h45,h932⟩]
       have HS:=hid hstep
       have d2:(k:Int)+1+1 < p.size:=by omega
       have bb:=z2a p (k+2)
       clear hstep hne h45 h932 HAe HBe
       go_wp2_with fail
       go_cut [47] (fun t wx=>t=.bool true∧∃n,wx=w1.drewN n)
       case first=>
        go_quiet ((first|(with_reducible exact Calls.quiet_of (HA.out _))|(with_reducible exact Calls.quiet_of (HB.out _))))
        go_wp2
        go_meet
        case rel=>exact⟨rfl,_,rfl⟩
       case rest=>
        obtain⟨rfl,n2,rfl⟩:=hcut
        go_wp2_with fail
        refine(z6e p pb (k+2) _ hs ((hp1.drewN n2).set (k+2) (by omega)) h2).mono ?_
        rintro e w2 ⟨rfl,hp2,hf2⟩
        have HL2:=hid (((HL1.out.drewN n2).at_ hlt (k+2) (z:=(k:Int)+1+1) (by omega)).next hlt hp2 hf2)
        clear hf2
        by_cases hlt3:z04 p (k+2) < z04 p k
        ·have hcn:∀x,cls p m=some x→x.1=[]:=by
          intro x hx
          rw[HR.out,HS.out,if_pos hlt3] at hx
          simp at hx
         have HCN:=hid hcn
         clear hcn
         go_wp2
         exact⟨rfl,.inr ⟨HCN.out,rfl,HL2.out.fr⟩⟩
        ·have hcs:cls p k=(cls p (k+3)).map fun x=>((z04 p k,z04 p (k+2)) :: x.1,x.2):=by rw[HS.out,if_neg hlt3]
         have HC:=hid hcs
         clear hcs
         go_wp2
         go_loopg [7] (z04 p (k+2)+1 - z04 p k) (fun g c wi=>∃i:Nat,g=z04 p (k+2)+1 - i∧c=.int .i64 i∧z04 p k≤i∧i≤z04 p (k+2)+1∧zi2 w wi pb p neg (k+3) (fun c=>z2p ds c||(decide (z04 p k≤c)&&decide (c < i))))
         case atStart=>
          refine⟨z04 p k,rfl,rfl,Nat.le_refl _,by omega,?_⟩
          have:=HL2.out
          exact⟨this.st,this.c0,this.c1,this.tab.congr (fun c _=>by
           have:(decide (z04 p k≤c)&&decide (c < z04 p k))=false:=by simp
           simp[this]),this.fr,this.sz⟩
         case round=>
          obtain⟨i,rfl,rfl,hi1,hi2,hI⟩:=hrel
          have bB:=z2a p (k+2)
          have HI:=hid hI
          have hcell:=hI.tab.cell (i:=i)
          have hfz:=hI.tab.frozen i
          clear hI
          by_cases hle:i≤z04 p (k+2)
          ·have hc1:=hcell (by omega)
           have hi256:(i:Int) < 256:=by omega
           clear hcell
           go_wp2
           go_roundg (z04 p (k+2)+1 - (i+1))
           case measure=>omega
           case rel=>
            exact⟨i+1,rfl,by go_num,by omega,by omega,HI.out.put hlt i (fun c _=>by
             by_cases hci:c=i
             ·subst hci;simp;right;omega
             ·rw[if_neg hci,decide_eq_decide.2 (show c < i+1↔c < i by omega)])⟩
          ·clear hcell
           go_wp2
           go_roundg (p.size+1 - (k+3))
           case measure=>omega
           case rel=>
            refine⟨(k+3),ds++[(z04 p k,z04 p (k+2))],rfl,by omega,?_,?_,by simp⟩
            ·have:=HI.out
             exact⟨this.st,this.c0,this.c1,this.tab.congr (fun c _=>by
              have e:i=z04 p (k+2)+1:=by omega
              subst e
              rw[z94]
              congr 2
              rw[decide_eq_decide.2 (show c < z04 p (k+2)+1↔c≤z04 p (k+2) by omega)]),this.fr,this.sz⟩
            ·rw[HR.out,HC.out]
             cases cls p (k+3) <;> simp
      ·have hcs:cls p k=(cls p (k+1)).map fun x=>((z04 p k,z04 p k) :: x.1,x.2):=by rw[z7u,if_pos hend,if_neg hne,if_neg hc]
       have HC:=hid hcs
       clear hcs hne
       go_wp2_with fail
       go_cut [47] (fun t wx=>t=.bool false∧∃n,wx=w1.drewN n)
       case first=>
        cases h45:z41 p (k+1+0) 45 with
        | false=>
         rw[h45] at HA
         clear h45
         go_quiet ((go_at_call 306;exact Calls.quiet_of (HA.out _)))
         go_wp2
         go_meet
         case rel=>exact⟨rfl,_,rfl⟩
        | true=>
         rw[h45] at HA
         by_cases hl2:k+2 < p.size
         ·have h93':z41 p (k+1+1) 93=true:=by
           simp[z41] at h45 ⊢
           exact⟨hl2,Decidable.byContradiction fun h=>hc ⟨hl2,h45.2,h⟩⟩
          rw[h93'] at HB
          have d2:(k:Int)+1+1 < p.size:=by omega
          clear h45 h93' hc
          go_quiet ((first|(with_reducible exact Calls.quiet_of (HA.out _))|(with_reducible exact Calls.quiet_of (HB.out _))))
          go_wp2
          go_meet
          case rel=>exact⟨rfl,_,rfl⟩
         ·have d2:decide ((k:Int)+1+1 < p.size)=false:=by simp;omega
          clear h45 hc
          go_quiet ((first|(with_reducible exact Calls.quiet_of (HA.out _))|(with_reducible exact Calls.quiet_of (HB.out _))))
          go_wp2
          go_meet
          case rel=>exact⟨rfl,_,rfl⟩
       case rest=>
        obtain⟨rfl,n2,rfl⟩:=hcut
        have HL2:=hid (HL1.out.drewN n2)
        go_wp2
        go_loopg [7] (z04 p (k)+1 - z04 p k) (fun g c wi=>∃i:Nat,g=z04 p (k)+1 - i∧c=.int .i64 i∧z04 p k≤i∧i≤z04 p (k)+1∧zi2 w wi pb p neg (k+1) (fun c=>z2p ds c||(decide (z04 p k≤c)&&decide (c < i))))
        case atStart=>
         refine⟨z04 p k,rfl,rfl,Nat.le_refl _,by omega,?_⟩
         have:=HL2.out
         exact⟨this.st,this.c0,this.c1,this.tab.congr (fun c _=>by
          have:(decide (z04 p k≤c)&&decide (c < z04 p k))=false:=by simp
          simp[this]),this.fr,this.sz⟩
        case round=>
         obtain⟨i,rfl,rfl,hi1,hi2,hI⟩:=hrel
         have bB:=z2a p k
         have HI:=hid hI
         have hcell:=hI.tab.cell (i:=i)
         have hfz:=hI.tab.frozen i
         clear hI
         by_cases hle:i≤z04 p (k)
         ·have hc1:=hcell (by omega)
          have hi256:(i:Int) < 256:=by omega
          clear hcell
          go_wp2
          go_roundg (z04 p (k)+1 - (i+1))
          case measure=>omega
          case rel=>
           exact⟨i+1,rfl,by go_num,by omega,by omega,HI.out.put hlt i (fun c _=>by
            by_cases hci:c=i
            ·subst hci;simp;right;omega
            ·rw[if_neg hci,decide_eq_decide.2 (show c < i+1↔c < i by omega)])⟩
         ·clear hcell
          go_wp2
          go_roundg (p.size+1 - (k+1))
          case measure=>omega
          case rel=>
           refine⟨(k+1),ds++[(z04 p k,z04 p (k))],rfl,by omega,?_,?_,by simp⟩
           ·have:=HI.out
            exact⟨this.st,this.c0,this.c1,this.tab.congr (fun c _=>by
             have e:i=z04 p (k)+1:=by omega
             subst e
             rw[z94]
             congr 2
             rw[decide_eq_decide.2 (show c < z04 p (k)+1↔c≤z04 p (k) by omega)]),this.fr,this.sz⟩
           ·rw[HR.out,HC.out]
            cases cls p (k+1) <;> simp
     ·have hke:k=p.size:=by omega
      have hcn:∀x,cls p m=some x→x.1=[]:=by
       intro x hx
       rw[HR.out,z7u,if_neg hend] at hx
       simp at hx
      have HCN:=hid hcn
      clear hcn h93
      go_wp2_with fail
      refine(z5o p pb k 0 93 _ hs (by omega) (by omega) hp hkle).mono ?_
      rw[HK.out]
      rintro e w' ⟨rfl,n',rfl⟩
      go_wp2_with fail
      refine(zkc p pb k _ hs (hp.drewN _) hke).mono ?_
      rintro e w1 ⟨rfl,hf1⟩
      go_wp2
      exact⟨rfl,.inr ⟨HCN.out,rfl,(HL.out.fr.drewN _).trans hf1⟩⟩
end Go.Proofs.YtamgdmiopinidaaGreatDoor
