/- Contracts that the proof of E3 uses. No condition beyond those in each theorem. -/
import Derived.Test.YtamgdmiopinidaaGreatDoorSlE316
import Derived.Test.YtamgdmiopinidaaGreatDoorSlE318
set_option linter.unusedVariables false
set_option linter.unusedSimpArgs false
set_option maxHeartbeats 8000000
set_option maxRecDepth 100000
namespace Go.Proofs.YtamgdmiopinidaaGreatDoor
open Lib (hid)
open Go.Proofs.Tryz (prog)
open Go.RowKit
attribute [local go_sem] z1k
theorem Tryz.info4:(prog.info? 4).map (fun i=>(i.zero,i.size,i.bytes))=some (some (.bool false),1,1):=by kernel_rfl
theorem zce{w:World}{L B:Nat}:∀ {ps:List Part} {xs:List Value} {k:Nat} {P:Part},cellsOf w L B ps xs→ps[k]? = some P→∃a f,xs[k * 2]? = some a∧xs[k * 2+1]? = some f∧z5d w L B P a f
 | [],_,k,P,_,hk=>by simp at hk
 | Q :: ps,xs,0,P,h,hk=>by
  obtain⟨a,f,r,rfl,h1,h2⟩:=h
  simp at hk
  subst hk
  exact⟨a,f,rfl,rfl,h1⟩
 | Q :: ps,xs,k+1,P,h,hk=>by
  obtain⟨a,f,r,rfl,h1,h2⟩:=h
  simp at hk
  obtain⟨a',f',e1,e2,h3⟩:=zce h2 hk
  refine⟨a',f',?_,?_,h3⟩
  ·rw[show(k+1) * 2=k * 2+1+1 by omega];simpa using e1
  ·rw[show(k+1) * 2+1=k * 2+1+1+1 by omega];simpa using e2
structure MOut(w wr:World)(g m:Nat)(f:Nat→Bool):Prop where
 row:wr.rowIs g 4 m (fun i=>.bool (f i))
 lo:w.heap.size≤g
 fr:Fr [] w wr
structure MIn(w wi:World)(g g1 m i:Nat)(F N:Nat→Bool)(a f:Value):Prop where
 row:wi.rowIs g 4 m (fun j=>.bool (F j))
 nx:wi.rowIs (g1+1) 4 m (fun j=>.bool (if j < i then N j else false))
 bx:Whole wi g1 209 [a,f]
 fr:Fr [] w wi
 sz:g1+1 < wi.heap.size
theorem MIn.put{w wi:World}{g g1 m i:Nat}{F N:Nat→Bool}{a f:Value}(h:MIn w wi g g1 m i F N a f)(hg:g < g1)(hw:w.heap.size≤g1)(b:Bool)(hb:b=N i) :
  MIn w (wi.setCell ⟨g1+1,i,none⟩ (.bool b)) g g1 m (i+1) F N a f:=
 ⟨h.row.setOther (by simp;omega) _,(h.nx.set i _).congr (fun j _=>by
  by_cases hj:j=i
  ·subst hj;simp[hb]
  ·rw[if_neg hj]
   by_cases h1:j < i
   ·rw[if_pos h1,if_pos (by omega)]
   ·rw[if_neg h1,if_neg (by omega)]),h.bx.far (by simp) _,h.fr.setCell (.inr (by simp;omega)) _,by simpa[World.setCell] using h.sz⟩
theorem MIn.skip{w wi:World}{g g1 m:Nat}{F N:Nat→Bool}{a f:Value}(h:MIn w wi g g1 m 0 F N a f)(h0:N 0=false):MIn w wi g g1 m 1 F N a f:=
 ⟨h.row,h.nx.congr (fun j _=>by
  by_cases hj:j=0
  ·subst hj;simp[h0]
  ·rw[if_neg (by omega),if_neg (by omega)]),h.bx,h.fr,h.sz⟩
theorem MIn.like{w wi wj:World}{g g1 m i:Nat}{F N:Nat→Bool}{a f:Value}(h:MIn w wi g g1 m i F N a f)(e:wj.heap=wi.heap)(e2:wj.os=wi.os)(e3:wj.tape=wi.tape)(e4:wj.output=wi.output):MIn w wj g g1 m i F N a f:=by
 cases wi;cases wj
 simp only at e e2 e3 e4
 subst e;subst e2;subst e3;subst e4
 exact⟨h.row,h.nx,h.bx,⟨h.fr.os,h.fr.tape,h.fr.output,h.fr.size,h.fr.block⟩,h.sz⟩
theorem zqu(ps:List Part)(base B:Nat)(v:Value)(xs:List Value)(s:ByteArray)(w:World)(hs:s.size≤60)(hps:ps.length≤60)(hB:B≤w.heap.size)
  (hown:w.ownsRow base 209 2 v ps.length xs) (hcells:cellsOf w base B ps xs) :
  Calls prog 148 #[v,.string s] w fun e w'=>e=.returned (.bool (z3h ps s s.size))∧Fr [] w w':=by
 have hmk:=run_make_row' (P:=prog) 152 4 (.bool false) 1 Tryz.underlying152 Tryz.info4 rfl .i64 .i64 (s.size+1) (by omega) (by omega)
 have ec:((s.size+1:Nat):Int)=(s.size:Int)+1:=by omega
 rw[ec] at hmk
 clear ec
 obtain⟨A,c,hv⟩:=zb8 hown
 subst hv
 have HOWN:=hid hown
 have HC:=hid hcells
 clear hown hcells
 have hA0:MOut w ((w.alloc (.cells (madeCells #[.bool false] (s.size+1)) 4)).setCell ⟨w.heap.size,0,none⟩ (.bool true)) w.heap.size (s.size+1) (z3h (ps.take 0) s):=
  ⟨((World.rowIs_made w (.bool false) (s.size+1) 4).set 0 (.bool true)).congr (fun i _=>by
   by_cases h:i=0 <;> simp[z3h,h]),Nat.le_refl _,((Fr.refl _ w).alloc _).setCell (.inr (by simp)) _⟩
 rw[World.setCell_alloc_at _ _ _ _ _ rfl] at hA0
 have HA0:=hid hA0
 clear hA0
 have r0:=(World.rowIs_made w (.bool false) (s.size+1) 4).cell (i:=0) (by omega)
 have z0:=(World.rowIs_made w (.bool false) (s.size+1) 4).frozen 0
 go_enter Tryz.func148,Tryz.ntmps148
 go_wp2
 clear r0 z0
 go_loopg [5,7,8,9,18] ps.length (fun gk s5 _ _ _ s18 wr=>∃k g:Nat,gk=ps.length - k∧k≤ps.length∧s18=.int .i64 k∧s5=.slice (some ⟨g,0,none⟩) (s.size+1) (s.size+1)∧MOut w wr g (s.size+1) (z3h (ps.take k) s))
 case atStart=>exact⟨0,_,rfl,Nat.zero_le _,rfl,rfl,HA0.out⟩
 case round=>
  clear HA0
  obtain⟨k,g,rfl,hk,rfl,rfl,hM⟩:=hrel
  have HM:=hid hM
  have hsz:=hM.fr.size
  clear hM
  by_cases hlt:k < ps.length
  ·obtain⟨P,hP⟩:∃P,ps[k]? = some P:=⟨ps[k],List.getElem?_eq_getElem hlt⟩
   obtain⟨a,f,hxa,hxf,hpi⟩:=zce HC.out hP
   obtain⟨G,hA,hGlt⟩:∃G,A=some ⟨G,0,none⟩∧G < w.heap.size:=by
    rcases HOWN.out.2 with⟨e,h0⟩|⟨G,cap,cur,e,_,hG,_⟩
    ·omega
    ·cases e;exact⟨G,rfl,(Array.getElem?_eq_some_iff.1 hG).1⟩
   subst hA
   have q0:wr.cell? ⟨G,k * 2,none⟩=some a:=by
    rw[(HM.out.fr.cell? (p:=⟨G,k * 2,none⟩) hGlt (by simp)),HOWN.out.cellAt (k * 2) (by omega),hxa]
   have q1:wr.cell? ⟨G,k * 2+1,none⟩=some f:=by
    rw[(HM.out.fr.cell? (p:=⟨G,k * 2+1,none⟩) hGlt (by simp)),HOWN.out.cellAt (k * 2+1) (by omega),hxf]
   have hst:=hpi.one
   have hsa:∀(W:World) (ad:Addr) (m:Mode),(store ad a m).run prog W=stored prog W ad a m:=fun W ad m=>run_store _ _ _ _ _ hst.1
   have hsf:∀(W:World) (ad:Addr) (m:Mode),(store ad f m).run prog W=stored prog W ad f m:=fun W ad m=>run_store _ _ _ _ _ hst.2
   have HPI:=hid hpi
   have HP:=hid hP
   clear hpi hP hxa hxf hst
   obtain⟨F,hF⟩:∃F,F=z3h (ps.take k) s:=⟨_,rfl⟩
   have HF:=hid hF
   rw[←hF] at HM
   clear hF
   have hglt:g < wr.heap.size:=HM.out.row.lt
   have hI0:MIn w ((wr.alloc (.cells #[a,f] 209)).alloc (.cells (madeCells #[.bool false] (s.size+1)) 4)) g wr.heap.size (s.size+1) 0 F (z3k P F s) a f:=
    ⟨(HM.out.row.alloc _).alloc _,by simpa using World.rowIs_made (wr.alloc (.cells #[a,f] 209)) (.bool false) (s.size+1) 4,(Whole.new wr 209 [a,f]).alloc _,(HM.out.fr.alloc _).alloc _,by simp⟩
   have HI0:=hid hI0
   clear hI0
   go_wp2
   clear q0 q1
   obtain⟨g1,hg1⟩:∃g1,g1=wr.heap.size:=⟨_,rfl⟩
   rw[←hg1] at HI0 hglt hsz ⊢
   go_loopg [9,28] (s.size+1) (fun gk _ s28 wr=>∃i:Nat,gk=s.size+1 - i∧i≤s.size+1∧s28=.int .i64 i∧MIn w wr g g1 (s.size+1) i F (z3k P F s) a f)
   case atStart=>exact⟨0,rfl,Nat.zero_le _,rfl,HI0.out⟩
   case round=>
    clear HI0 hg1
    obtain⟨i,rfl,hi,rfl,hI⟩:=hrel
    have HI:=hid hI
    have hisz:=hI.sz
    obtain⟨bx0,bx1,_,_⟩:=hI.bx.two
    clear hI
    by_cases hil:i < s.size+1
    ·have cI:=HI.out.row.cell hil
     have nI:=HI.out.nx.cell hil
     have fI:=HI.out.nx.frozen i
     cases hP:P with
     | star=>
      subst hP
      obtain⟨rfl,rfl⟩:=HPI.out
      cases hFi:F i with
      | true=>
       simp only[hFi] at cI
       have HFi:=hid hFi
       clear hFi
       go_wp2
       go_roundg (s.size+1 - (i+1))
       case measure=>omega
       case rel=>exact⟨i+1,rfl,by omega,by go_num,HI.out.put hglt (by omega) true (by cases i <;> simp[z3k,HFi.out])⟩
      | false=>
       simp only[hFi] at cI
       have HFi:=hid hFi
       clear hFi
       cases i with
       | zero=>
        go_wp2
        go_roundg (s.size+1 - 1)
        case measure=>omega
        case rel=>exact⟨1,rfl,by omega,rfl,HI.out.put hglt (by omega) false (by simp[z3k,HFi.out])⟩
       | succ j=>
        have nJ:=HI.out.nx.cell (i:=j) (by omega)
        simp only[Nat.lt_succ_self,if_true] at nJ
        have hj0:decide ((0:Int) < (j:Int)+1)=true:=decide_eq_true (by omega)
        go_wp2
        go_roundg (s.size+1 - (j+1+1))
        case measure=>omega
        case rel=>exact⟨j+1+1,rfl,by omega,by go_num,HI.out.put hglt (by omega) _ (by simp[z3k,HFi.out])⟩
     | any=>
      subst hP
      obtain⟨rfl,rfl⟩:=HPI.out
      have hN0:z3k .any F s 0=false:=rfl
      have hN:∀j,z3k .any F s (j+1)=(F j&&true):=fun _=>rfl
      have HN0:=hid hN0
      have HN:=hid hN
      clear hN0 hN
      cases i with
      | zero=>
       go_wp2
       go_roundg (s.size+1 - 1)
       case measure=>omega
       case rel=>exact⟨1,rfl,by omega,rfl,HI.out.skip HN0.out⟩
      | succ j=>
       have cJ:=HI.out.row.cell (i:=j) (by omega)
       have bj:=z2a s j
       have hj0:(j:Int) < s.size:=by omega
       have hw1:IntKind.i64.wrap (j:Int)=(j:Int):=IntWalk.i64_in _ (by omega)
       have hw3:(j:Int) < (s.size:Int)+1:=by omega
       cases hFj:F j with
       | false=>
        simp only[hFj] at cJ
        have HFj:=hid hFj
        clear hFj
        go_wp2
        go_region
        go_wp2
        go_roundg (s.size+1 - (j+1+1))
        case measure=>omega
        case rel=>exact⟨j+1+1,rfl,by omega,by go_num,(HI.out.put hglt (by omega) false (by rw[HN.out,HFj.out];rfl)).like rfl rfl rfl rfl⟩
       | true=>
        simp only[hFj] at cJ
        have HFj:=hid hFj
        clear hFj
        go_wp2
        go_region_with (refine(zs9 _ _).mono ?_;rintro e w2 ⟨rfl,rfl⟩)
        all_goals
         go_wp2
         go_roundg (s.size+1 - (j+1+1))
         case measure=>omega
         case rel=>exact⟨j+1+1,rfl,by omega,by go_num,(HI.out.put hglt (by omega) (true) (by rw[HN.out,HFj.out];rfl)).like rfl rfl rfl rfl⟩
     | lit x=>
      subst hP
      obtain⟨rfl,b,hb1,hb2,rfl,hbw⟩:=HPI.out
      have hN0:z3k (.lit x) F s 0=false:=rfl
      have hN:∀j,z3k (.lit x) F s (j+1)=(F j&&decide (z04 s j=x)):=fun _=>rfl
      have HN0:=hid hN0
      have HN:=hid hN
      clear hN0 hN
      cases i with
      | zero=>
       go_wp2
       go_roundg (s.size+1 - 1)
       case measure=>omega
       case rel=>exact⟨1,rfl,by omega,rfl,HI.out.skip HN0.out⟩
      | succ j=>
       have cJ:=HI.out.row.cell (i:=j) (by omega)
       have bj:=z2a s j
       have hj0:(j:Int) < s.size:=by omega
       have hw1:IntKind.i64.wrap (j:Int)=(j:Int):=IntWalk.i64_in _ (by omega)
       have hw3:(j:Int) < (s.size:Int)+1:=by omega
       cases hFj:F j with
       | false=>
        simp only[hFj] at cJ
        have HFj:=hid hFj
        clear hFj
        go_wp2
        go_region
        go_wp2
        go_roundg (s.size+1 - (j+1+1))
        case measure=>omega
        case rel=>exact⟨j+1+1,rfl,by omega,by go_num,(HI.out.put hglt (by omega) false (by rw[HN.out,HFj.out];rfl)).like rfl rfl rfl rfl⟩
       | true=>
        simp only[hFj] at cJ
        have HFj:=hid hFj
        clear hFj
        have hx:∀W:World,W.cell? ⟨b,0,none⟩=some (.int .u8 x)→Calls prog 308 #[.int .u8 (z04 s j:Int),.pointer (some ⟨b,0,none⟩)] W fun e w'=>e=.returned (.bool (decide (z04 s j=x)))∧W=w':=fun W hW=>zs3 _ x b W hW
        have HX:=hid hx
        clear hx
        have xc:wr.cell? ⟨b,0,none⟩=some (.int .u8 x):=(HI.out.fr.cell? (p:=⟨b,0,none⟩) (by show b < w.heap.size;omega) (by simp)).trans (hbw.cell 0)
        go_wp2
        go_region_with (refine(HX.out _ (by simpa using xc)).mono ?_;rintro e w2 ⟨rfl,rfl⟩)
        all_goals
         go_wp2
         go_roundg (s.size+1 - (j+1+1))
         case measure=>omega
         case rel=>exact⟨j+1+1,rfl,by omega,by go_num,(HI.out.put hglt (by omega) (decide (z04 s j=x)) (by rw[HN.out,HFj.out];rfl)).like rfl rfl rfl rfl⟩
     | cls neg rs=>
      subst hP
      obtain⟨rfl,b,b2,hb1,hb2,hb3,hb4,rfl,hbw,hbw2⟩:=HPI.out
      have hN0:z3k (.cls neg rs) F s 0=false:=rfl
      have hN:∀j,z3k (.cls neg rs) F s (j+1)=(F j&&(z2p rs (z04 s j) != neg)):=fun _=>rfl
      have HN0:=hid hN0
      have HN:=hid hN
      clear hN0 hN
      cases i with
      | zero=>
       go_wp2
       go_roundg (s.size+1 - 1)
       case measure=>omega
       case rel=>exact⟨1,rfl,by omega,rfl,HI.out.skip HN0.out⟩
      | succ j=>
       have cJ:=HI.out.row.cell (i:=j) (by omega)
       have bj:=z2a s j
       have hj0:(j:Int) < s.size:=by omega
       have hw1:IntKind.i64.wrap (j:Int)=(j:Int):=IntWalk.i64_in _ (by omega)
       have hw3:(j:Int) < (s.size:Int)+1:=by omega
       cases hFj:F j with
       | false=>
        simp only[hFj] at cJ
        have HFj:=hid hFj
        clear hFj
        go_wp2
        go_region
        go_wp2
        go_roundg (s.size+1 - (j+1+1))
        case measure=>omega
        case rel=>exact⟨j+1+1,rfl,by omega,by go_num,(HI.out.put hglt (by omega) false (by rw[HN.out,HFj.out];rfl)).like rfl rfl rfl rfl⟩
       | true=>
        simp only[hFj] at cJ
        have HFj:=hid hFj
        clear hFj
        have hx:∀W:World,W.cell? ⟨b,z04 s j,none⟩=some (.bool (z2p rs (z04 s j)))→W.cell? ⟨b2,0,none⟩=some (.bool neg)→Calls prog 307 #[.int .u8 (z04 s j:Int),.pointer (some ⟨b,0,none⟩),.pointer (some ⟨b2,0,none⟩)] W fun e w'=>e=.returned (.bool (z2p rs (z04 s j) != neg))∧∃n,w'=W.drewN n:=fun W hW hW2=>zsz _ b b2 _ neg W bj hW hW2
        have HX:=hid hx
        clear hx
        have xc:wr.cell? ⟨b,z04 s j,none⟩=some (.bool (z2p rs (z04 s j))):=(HI.out.fr.cell? (p:=⟨b,z04 s j,none⟩) (by show b < w.heap.size;omega) (by simp)).trans (hbw.cell bj)
        have xc2:wr.cell? ⟨b2,0,none⟩=some (.bool neg):=(HI.out.fr.cell? (p:=⟨b2,0,none⟩) (by show b2 < w.heap.size;omega) (by simp)).trans (hbw2.cell 0)
        go_wp2
        go_region_with (refine(HX.out _ (by simpa using xc) (by simpa using xc2)).mono ?_;rintro e w2 ⟨rfl,n2,rfl⟩)
        all_goals
         go_wp2
         go_roundg (s.size+1 - (j+1+1))
         case measure=>omega
         case rel=>exact⟨j+1+1,rfl,by omega,by go_num,(HI.out.put hglt (by omega) ((z2p rs (z04 s j) != neg)) (by rw[HN.out,HFj.out];rfl)).like rfl rfl rfl rfl⟩
    ·have hie:i=s.size+1:=by omega
     go_wp2
     go_roundg (ps.length - (k+1))
     case measure=>omega
     case rel=>
      refine⟨k+1,g1+1,rfl,by omega,by go_num,rfl,?_,by omega,HI.out.fr⟩
      rw[zf6 HP.out,←HF.out]
      exact HI.out.nx.congr (fun j hj=>by rw[if_pos (by omega)])
  ·have hke:k=ps.length:=by omega
   have cL:=HM.out.row.cell (i:=s.size) (by omega)
   have HKE:=hid hke
   clear hke
   go_wp2
   go_ret
   have:=HKE.out
   subst this
   rw[List.take_length]
   exact⟨rfl,HM.out.fr⟩
def z3w(p s:ByteArray):Int:=if z0y p=0∧60 < s.size then 2 else z0y p
def z4i(p s:ByteArray):Bool:=decide (z3w p s=0)&&z3h (((z2f p 0).getD []).map (·.2)) s s.size
theorem zf1(p s:ByteArray)(w:World)(hp:p.size≤281474976710656)(hs:s.size≤281474976710656) :
  Calls prog 110 #[.string p,.string s] w fun e w'=>e=.returned (.tuple #[.bool (z4i p s),.int .i64 (z3w p s)])∧Fr [] w w':=by
 go_enter Tryz.func110,Tryz.ntmps110
 go_wp2_with fail
 refine(z9x p _ hp).mono ?_
 intro e w1 hpost
 rcases hpost with⟨hc,hp60,l,v,xs,hpl,rfl,hown,hcells,hf⟩|⟨hc,rfl,hf⟩
 ·by_cases h60:60 < s.size
  ·have hE:z3w p s=2:=by unfold z3w;rw[if_pos ⟨hc,h60⟩]
   have hA:z4i p s=false:=by unfold z4i;rw[hE];rfl
   have E:=hid hE
   have A:=hid hA
   clear hE hA hc hpl hown hcells
   go_wp2
   go_ret2
   rw[E.out,A.out]
   exact⟨rfl,hf⟩
  ·have hE:z3w p s=0:=by unfold z3w;rw[if_neg (fun h=>h60 h.2),hc]
   have hA:z4i p s=z3h (l.map (·.2)) s s.size:=by unfold z4i;rw[hE,hpl];simp
   have E:=hid hE
   have A:=hid hA
   have hll:l.length≤60:=by have:=zgr hpl;omega
   clear hE hA hc hpl
   have hown':=(show w1.ownsRow (w.heap.size+3) 209 2 v (l.map (·.2)).length xs by simpa using hown)
   clear hown
   go_wp2_with fail
   refine(zqu (l.map (·.2)) _ _ v xs s _ (by omega) (by simpa using hll) (Nat.le_refl _) hown' hcells).mono ?_
   rintro e w2 ⟨rfl,hf2⟩
   go_wp2
   go_ret2
   rw[E.out,A.out]
   exact⟨rfl,hf.trans hf2⟩
 ·have hE:z3w p s=z0y p:=by unfold z3w;rw[if_neg (fun h=>hc h.1)]
  have hA:z4i p s=false:=by unfold z4i;rw[hE];simp[hc]
  have E:=hid hE
  have A:=hid hA
  have hb:(z0y p==0)=false:=by simpa using hc
  have hb2:(z0y p != 0)=true:=by simpa using hc
  clear hE hA hc
  go_wp2
  go_ret2
  rw[E.out,A.out]
  exact⟨rfl,hf⟩
attribute [local go_sem] z1k
end Go.Proofs.YtamgdmiopinidaaGreatDoor
namespace Go.Proofs.YtamgdmiopinidaaGreatDoor
open Lib (hid)
open Go.Proofs.Tryz (prog)
def nums(s:ByteArray):List Nat:=s.data.toList.map (·.toNat)
end Go.Proofs.YtamgdmiopinidaaGreatDoor
namespace Go.Proofs.YtamgdmiopinidaaGreatDoor
open Lib (hid)
open Go.Proofs.Tryz (prog)
open Go.RowKit
attribute [local go_sem] z1k
def keyM(p:ByteArray)(now:Int)(e:Ent):Bool:=z4i p e.key&&!z1r e.til now
def z8b(l:List Ent)(now:Int)(p:ByteArray):List ByteArray:=(l.filter (keyM p now)).map Ent.key
def zek(l:List Ent)(now:Int)(p:ByteArray):Int:=if z0p l now ⟨#[]⟩=0 then z0y p else z0p l now ⟨#[]⟩
def zbi(l:List Ent)(now:Int)(p:ByteArray):List ByteArray:=if zek l now p=0 then z8b l now p else []
def TCP(r:List ByteArray)(c:Int)(w:World)(e:Ending)(w':World):Prop:=∃A n,e=.returned (.tuple #[.slice A r.length n,.int .i64 c])∧w'.ownsRow w.heap.size 9 1 (.slice A r.length n) r.length (z03 r)∧Fr [] w w'
theorem zny{l:List Ent}{k:Nat}{e:Ent}(now:Int)(p:ByteArray)(h:l[k]? = some e):z8b (l.take (k+1)) now p=z8b (l.take k) now p++(if keyM p now e=true then [e.key] else []):=by
 unfold z8b
 rw[zjn _ h,List.map_append]
 congr 1
 split <;> rfl
theorem zla(l:List Ent)(k:Nat)(now:Int)(p:ByteArray):(z8b (l.take k) now p).length≤l.length:=by
 unfold z8b
 rw[List.length_map]
 exact zdx _ _
theorem z9d(l:List Ent)(v:Value)(now:Int)(p:ByteArray)(w:World)(B:Nat)(hs:∀e∈l,e.Small)(hl:l.length≤281474976710656)(hz:p.size≤281474976710656)(hB:B≤w.heap.size)(h:z0v w B v l) :
  Calls prog 74 #[v,.int .i64 now,.string p] w (TCP (zbi l now p) (zek l now p) w):=by
 obtain⟨i0,hi,hz0,hz1,hz2⟩:=info_parts z3o
 obtain⟨A,c,rfl⟩:=h.form
 have RD:=hid (z3d l _ now ⟨#[]⟩ w B hs hl (by decide) hB h)
 have GC:=hid (fun W=>zf0 p W hz)
 have HV:=hid h
 have HS:=hid hs
 have EC:=hid (show zek l now p=if z0p l now ⟨#[]⟩=0 then z0y p else z0p l now ⟨#[]⟩ from rfl)
 have ER:=hid (show zbi l now p=if zek l now p=0 then z8b l now p else [] from rfl)
 clear h hs
 by_cases ha:z0p l now ⟨#[]⟩=0
 ·rw[if_pos ha] at EC
  have hl16:=(zta (zwj ha).1).le
  rw[ha] at RD
  rw[EC.out] at ER ⊢
  clear ha EC
  by_cases hg:z0y p=0
  ·rw[if_pos hg] at ER
   rw[hg] at GC ⊢
   rw[ER.out]
   clear hg ER
   go_enter Tryz.func74,Tryz.ntmps74
   go_wp2_with fail
   refine RD.out.mono ?_
   rintro e1 w1 ⟨rfl,f1⟩
   go_wp2_with fail
   refine(GC.out _).mono ?_
   rintro e2 w2 ⟨rfl,f2⟩
   have F2:=hid (f1.trans f2)
   clear f1 f2
   go_wp2
   go_loopg [9,26] l.length (fun g o i wr=>∃(k:Nat) (cur:List ByteArray),g=l.length - k∧k≤l.length∧i=.int .i64 k∧Hid (cur=z8b (l.take k) now p)∧wr.ownsRow w.heap.size 9 1 o cur.length (z03 cur)∧Fr [] w wr)
   case atStart=>exact⟨0,[],rfl,Nat.zero_le _,rfl,hid rfl,World.ownsRow_nil _ _ _ _,F2.out⟩
   case round=>
    obtain⟨k,cur,rfl,hk,rfl,hcur,hO,hf⟩:=hrel
    have HF:=hid hf
    have HO:=hid hO
    have hzz:=hf.size
    obtain⟨Ao,co,rfl,-⟩:=z06 hO
    have hcl:cur.length≤l.length:=by rw[hcur.out];exact zla _ _ _ _
    clear hf hO F2
    by_cases hlt:k < l.length
    ·obtain⟨b,off,rfl,hb,hc,hmx,hat⟩:=HV.out.at_ (by omega)
     obtain⟨e,he⟩:∃e,l[k]? = some e:=⟨_,List.getElem?_eq_getElem hlt⟩
     obtain⟨A1,A2,A3,c1,c2,c3,h7⟩:=hat k e he
     have hes:=(HS.out e (List.mem_of_getElem? he)).key
     have P7:=hid (h7.fr HF.out hb hB (by simp))
     obtain⟨x0,x1,x2,x3,x4,x5,x6,-⟩:=P7.out
     have ET:=hid (zny now p he)
     have GM:=hid (fun W=>zf1 p e.key W hz hes)
     have GO:=hid (fun W=>zbr e.til now W)
     have V1:=hid (Whole.new wr 45 [.string e.key,.int .i64 e.item.kind,.string e.item.text,.slice A1 e.item.list.length c1,.slice A2 e.item.pairs.length c2,.slice A3 e.item.scores.length c3,.int .i64 e.til])
     have F1:=hid ((Fr.refl [] wr).alloc (.cells #[.string e.key,.int .i64 e.item.kind,.string e.item.text,.slice A1 e.item.list.length c1,.slice A2 e.item.pairs.length c2,.slice A3 e.item.scores.length c3,.int .i64 e.til] 45))
     have KM:=hid (show keyM p now e=(z4i p e.key&&!z1r e.til now) from rfl)
     clear hat h7 he hes
     rw[KM.out,←hcur.out] at ET
     generalize z3w p e.key=mc at *
     rcases hm:z4i p e.key with _|_
     ·rw[hm] at GM ET
      have ET2:=hid (ET.out.trans (by rw[Bool.false_and,if_neg (by decide),List.append_nil]))
      clear hm ET KM
      go_wp2_with fail
      refine(GM.out _).mono ?_
      rintro e2 w2 ⟨rfl,f2⟩
      have G2:=hid (F1.out.trans f2)
      clear f2
      go_wp2
      go_roundg (l.length - (k+1))
      case measure=>omega
      case rel=>exact⟨k+1,cur,rfl,by omega,by go_num,hid ET2.out.symm,z0n HO.out G2.out (by simp),HF.out.trans G2.out⟩
     ·rcases hg:z1r e.til now with _|_
      ·rw[hm,hg] at ET
       rw[hm] at GM
       rw[hg] at GO
       have ET2:=hid (ET.out.trans (by rw[show(true&&!false)=true from rfl,if_pos rfl]))
       clear hm hg ET KM
       go_wp2_with fail
       refine(GM.out _).mono ?_
       rintro e2 w2 ⟨rfl,f2⟩
       have V2:=hid (V1.out.fr f2 (by simp))
       have G2:=hid (F1.out.trans f2)
       clear f2
       have hzw:=V2.out.lt
       obtain⟨y0,y1,y2,y3,y4,y5,y6⟩:=seven V2.out
       have HO2:=hid ((z0n HO.out G2.out (by simp)).alloc (.cells #[.string e.key] 9))
       go_wp2_with fail
       refine(GO.out _).mono ?_
       rintro e3 w3 ⟨rfl,rfl⟩
       have hO1:=hid (z0t (World.ownsRow_lit (base:=w2.heap.size) (e:=9) (size:=1) w2 #[.string e.key] 1 (Nat.le_refl _) (by decide) rfl))
       have h1:∀u∈[Value.string e.key],u.oneCell'=true:=fun u hu=>by simp at hu;subst hu;rfl
       go_wp2_with (at_builtin;refine z0i _ rfl _ _ 24 rfl w.heap.size 9 i0 _ 1 16 Tryz.underlying24 hi hz0 hz1 hz2 rfl (by decide) _ _ _ rfl HO2.out _ _ 1 _ rfl hO1.out h1 ?c1 ?c2 ?c3 ?_)
       case c1=>unfold maxLen;omega
       case c2=>omega
       case c3=>first|omega|(simp;omega)
       intro v' w5 hown hgrow hat5
       have HO5:=hid hown
       have F5:=hid ((HF.out.trans (G2.out.alloc (.cells #[.string e.key] 9))).grown hgrow (fun j hj=>.inr (HO2.out.lt j hj).1))
       clear hown hgrow hat5
       go_wp2
       go_roundg (l.length - (k+1))
       case measure=>omega
       case rel=>exact⟨k+1,_,rfl,by omega,by go_num,hid rfl,by rw[ET2.out,z4y,List.length_append];exact HO5.out,F5.out⟩
      ·rw[hm,hg] at ET
       rw[hm] at GM
       rw[hg] at GO
       have ET2:=hid (ET.out.trans (by rw[show(true&&!true)=false from rfl,if_neg (by decide),List.append_nil]))
       clear hm hg ET KM
       go_wp2_with fail
       refine(GM.out _).mono ?_
       rintro e2 w2 ⟨rfl,f2⟩
       have V2:=hid (V1.out.fr f2 (by simp))
       have G2:=hid (F1.out.trans f2)
       clear f2
       have hzw:=V2.out.lt
       obtain⟨y0,y1,y2,y3,y4,y5,y6⟩:=seven V2.out
       go_wp2_with fail
       refine(GO.out _).mono ?_
       rintro e3 w3 ⟨rfl,rfl⟩
       go_wp2
       go_roundg (l.length - (k+1))
       case measure=>omega
       case rel=>exact⟨k+1,cur,rfl,by omega,by go_num,hid ET2.out.symm,z0n HO.out G2.out (by simp),HF.out.trans G2.out⟩
    ·obtain rfl:k=l.length:=by omega
     have hc2:=hcur.out
     rw[List.take_length] at hc2
     go_wp2
     go_ret2
     rw[←hc2]
     exact⟨_,_,rfl,HO.out,HF.out⟩
  ·rw[if_neg hg] at ER
   rw[ER.out]
   have q1:(z0y p != 0)=true:=by simpa using hg
   clear hg ER
   generalize z0y p=r at *
   go_enter Tryz.func74,Tryz.ntmps74
   go_wp2_with fail
   refine RD.out.mono ?_
   rintro e1 w1 ⟨rfl,f1⟩
   go_wp2_with fail
   refine(GC.out _).mono ?_
   rintro e2 w2 ⟨rfl,f2⟩
   go_wp2
   go_ret2
   exact⟨_,_,rfl,World.ownsRow_nil _ _ _ _,f1.trans f2⟩
 ·rw[if_neg ha] at EC
  rw[EC.out] at ER ⊢
  rw[if_neg ha] at ER
  rw[ER.out]
  have q1:(z0p l now ⟨#[]⟩ != 0)=true:=by simpa using ha
  have q2:(z0p l now ⟨#[]⟩==0)=false:=by simpa using ha
  clear ha ER EC
  generalize z0p l now ⟨#[]⟩=r at *
  go_enter Tryz.func74,Tryz.ntmps74
  go_wp2_with fail
  refine RD.out.mono ?_
  rintro e1 w1 ⟨rfl,f1⟩
  go_wp2
  go_ret2
  exact⟨_,_,rfl,World.ownsRow_nil _ _ _ _,f1⟩
def z5x(x:Itm)(l:List ByteArray):List ByteArray:=z8e (x.list++l)
def zjr(x:Itm)(l:List ByteArray):Int:=if z02 3 x≠0 then z02 3 x else z13 l
def zdf(x:Itm)(l:List ByteArray):Int:=if zjr x l≠0 then zjr x l else if 24 < (z5x x l).length then 2 else 0
def z9c(x:Itm)(l:List ByteArray):Itm:=if zdf x l=0 then ofK 3 (z5x x l) else z2r 0
def zdh(x:Itm)(l:List ByteArray):Int:=if zdf x l=0 then ((z5x x l).length:Int) - x.list.length else 0
theorem zw8{x:Itm}{l:List ByteArray}(h:zjr x l=0):z02 3 x=0∧z13 l=0:=by
 unfold zjr at h
 by_cases ha:z02 3 x=0
 ·rw[if_neg (by simpa using ha)] at h
  exact⟨ha,h⟩
 ·rw[if_pos ha] at h
  exact absurd h ha
theorem zik{x:Itm}{l:List ByteArray}(h:zdf x l=0):zjr x l=0∧(z5x x l).length≤24:=by
 unfold zdf at h
 by_cases hp:zjr x l=0
 ·rw[if_neg (by simpa using hp)] at h
  refine⟨hp,?_⟩
  by_cases hc:24 < (z5x x l).length
  ·rw[if_pos hc] at h;cases h
  ·omega
 ·rw[if_pos hp] at h
  exact absurd h hp
theorem z8u{x:Itm}{l:List ByteArray}(h:zjr x l=0):∀s∈z5x x l,s.size≤60:=fun s hs=>by
 obtain⟨ha,hb⟩:=zw8 h
 rcases List.mem_append.1 (z81.1 hs) with h1|h1
 ·exact(z18 ha).texts s h1
 ·exact z64 hb s h1
theorem zm6(x:Itm)(v:Value)(l:List ByteArray)(Al:Option Addr)(cl:Nat)(w:World)(B:Nat)(hs:x.Small)(hB:B≤w.heap.size)(h:z0q w B v x)(hl:l.length≤8796093021952)(hL:Sl w B 1 (.slice Al l.length cl) l.length (z03 l)) :
  Calls prog 187 #[v,.slice Al l.length cl] w (z4k (zdh x l) (zdf x l) (z9c x l) w):=by
 have RD:=hid (fun W (hf:Fr [] w W)=>z7w x v W B hs (Nat.le_trans hB hf.size) (h.fr hf hB (by simp)))
 have SM:=hid (fun W (hf:Fr [] w W)=>zkl l Al cl W B (by omega) (Nat.le_trans hB hf.size) (hL.fr hf hB (by simp)))
 have HL:=hid hL
 obtain⟨A1,c1,A2,c2,A3,c3,rfl,h1,h2,h3⟩:=h
 have H1:=hid h1
 have D0:=hid (BO.new w (.int .i64 x.kind) (.string x.text) (.slice A1 x.list.length c1) (.slice A2 x.pairs.length c2) (.slice A3 x.scores.length c3))
 obtain⟨d0,d1,d2,d3,d4⟩:=five D0.out.b
 have EP:=hid (show zjr x l=if z02 3 x≠0 then z02 3 x else z13 l from rfl)
 have EC:=hid (show zdf x l=if zjr x l≠0 then zjr x l else if 24 < (z5x x l).length then 2 else 0 from rfl)
 have EY:=hid (show z9c x l=if zdf x l=0 then ofK 3 (z5x x l) else z2r 0 from rfl)
 have EK:=hid (show zdh x l=if zdf x l=0 then ((z5x x l).length:Int) - x.list.length else 0 from rfl)
 have OK:=hid (fun(h:zjr x l=0)=>z8u h)
 have OA:=hid (fun(h:z02 3 x=0)=>(zfo h).2)
 have ON:=hid (fun(h:z13 l=0)=>z64 h)
 have OX:=hid (fun(h:z02 3 x=0)=>(z18 h).texts)
 have EL:=hid (zsm 3 (z5x x l))
 have LL:=hid (show(z5x x l).length≤x.list.length+l.length from by have:=za3 (x.list++l);rw[List.length_append] at this;exact this)
 clear h1 h2 h3 hs hL
 have no0:∀c:Int,c≠0→zdf x l=c→z9c x l=z2r 0∧zdh x l=0:=fun c hc he=>by
  have h0:zdf x l≠0:=by rw[he];exact hc
  exact⟨by rw[EY.out,if_neg h0],by rw[EK.out,if_neg h0]⟩
 have NO:=hid no0
 clear no0
 by_cases ha:z02 3 x=0
 ·rw[ha] at RD
  by_cases hb:z13 l=0
  ·rw[hb] at SM
   have hp:zjr x l=0:=by rw[EP.out,if_neg (by simpa using ha)];exact hb
   have h24:=OA.out ha
   have hll:=LL.out
   have OF:=hid (fun W base u hb0 hu=>(show Calls prog 233 #[u] W (zp3 (ofK 3 (z5x x l)) base u W) from zgf (x.list++l) base u W (by rw[List.length_append];omega) (fun s hs=>by
    rcases List.mem_append.1 hs with h|h
    ·have:=OX.out ha s h;omega
    ·have:=ON.out hb s h;omega) hb0 hu))
   have HW:=hid (show IntKind.i64.wrap (((z5x x l).length:Int) - (x.list.length:Int))=((z5x x l).length:Int) - x.list.length from IntWalk.i64_in _ (by omega))
   by_cases hc:24 < (z5x x l).length
   ·have E:=hid (show zdf x l=2 from by rw[EC.out,if_neg (by simpa using hp),if_pos hc])
    obtain⟨e1,e2⟩:=NO.out 2 (by decide) E.out
    rw[e1,e2,E.out]
    have q:((z5x x l).length:Int) > 24:=by omega
    have ELL:=hid (congrArg List.length EL.out)
    clear e1 e2 EP EC EY EK OK OA ON OX ha hb hc NO hp EL LL HW
    generalize ofK 3 (z5x x l)=y at *
    generalize (z5x x l).length=N at *
    go_enter Tryz.func187,Tryz.ntmps187
    go_wp2_with fail
    refine(RD.out _ D0.out.f).mono ?_
    rintro e w1 ⟨rfl,f1⟩
    have D1:=hid (D0.out.go f1)
    clear d0 d1 d2 d3 d4
    obtain⟨d0,d1,d2,d3,d4⟩:=five D1.out.b
    go_wp2_with fail
    refine(SM.out _ D1.out.f).mono ?_
    rintro e w2 ⟨rfl,f2⟩
    have D2:=hid (D1.out.go f2)
    clear d0 d1 d2 d3 d4
    obtain⟨d0,d1,d2,d3,d4⟩:=five D2.out.b
    have D3:=hid (D2.out.alloc (.cells #[.slice A1 x.list.length c1,.slice Al l.length cl] 24))
    have V3:=hid (Whole.new w2 24 [.slice A1 x.list.length c1,.slice Al l.length cl])
    have CC:=hid (z62 x.list l _ _ w2.heap.size 2 _ B (by omega) (by omega) (by omega) (by omega) (Nat.le_trans hB D3.out.f.size) (H1.out.fr D3.out.f hB (by simp)) (HL.out.fr D3.out.f hB (by simp)) (V3.out.cell 0) (V3.out.cell 1))
    go_wp2_with fail
    refine CC.out.mono ?_
    rintro e w3 ⟨u,rfl,ho,f3⟩
    have D4:=hid (D3.out.go f3)
    have hz:=D3.out.lt
    obtain⟨U,cu,hu,-⟩:=z06 ho
    rw[List.length_append] at hu
    subst hu
    have HO:=hid ho
    clear d0 d1 d2 d3 d4 ho
    go_wp2_with fail
    refine(OF.out _ _ _ f3.size HO.out).mono ?_
    rintro e w4 ⟨u,rfl,hi,f4⟩
    have D4:=hid (D4.out.step f4 (fun g hg=>by have:=z1j HO.out hg;omega))
    have HI:=hid hi
    obtain⟨P1,p1,P2,p2,P3,p3,rfl⟩:=hi.form
    clear hi
    have D5:=hid (D4.out.alloc (.cells #[.int .i64 y.kind,.string y.text,.slice P1 y.list.length p1,.slice P2 y.pairs.length p2,.slice P3 y.scores.length p3] 43))
    have V5:=hid (Whole.new w4 43 [.int .i64 y.kind,.string y.text,.slice P1 y.list.length p1,.slice P2 y.pairs.length p2,.slice P3 y.scores.length p3])
    have q:(y.list.length:Int) > 24:=by rw[ELL.out];exact q
    obtain⟨a0,a1,a2,a3,a4⟩:=five D5.out.o
    obtain⟨b0,b2,b3,b4,b5⟩:=z10 D5.out.o
    obtain⟨g0,g1,g2,g3,g4⟩:=five V5.out
    go_wp2
    refine bodyPost_ret (v:=.tuple #[.agg #[.int .i64 0,.string ⟨#[]⟩,.slice none 0 0,.slice none 0 0,.slice none 0 0],.int .i64 0,.int .i64 2]) (by simp[results,Tryz.results187,go_sem,a0,a1,a2,a3,a4]) rfl ?_
    exact⟨_,rfl,z0l.nothing _ _,D5.out.end5 _ _ _ _ _⟩
   ·have E:=hid (show zdf x l=0 from by rw[EC.out,if_neg (by simpa using hp),if_neg hc])
    rw[EY.out,EK.out,E.out,if_pos rfl,if_pos rfl]
    have q:¬(((z5x x l).length:Int) > 24):=by omega
    have ELL:=hid (congrArg List.length EL.out)
    clear EP EC EY EK OK OA ON OX ha hb hc NO hp EL LL E
    generalize ofK 3 (z5x x l)=y at *
    generalize (z5x x l).length=N at *
    go_enter Tryz.func187,Tryz.ntmps187
    go_wp2_with fail
    refine(RD.out _ D0.out.f).mono ?_
    rintro e w1 ⟨rfl,f1⟩
    have D1:=hid (D0.out.go f1)
    clear d0 d1 d2 d3 d4
    obtain⟨d0,d1,d2,d3,d4⟩:=five D1.out.b
    go_wp2_with fail
    refine(SM.out _ D1.out.f).mono ?_
    rintro e w2 ⟨rfl,f2⟩
    have D2:=hid (D1.out.go f2)
    clear d0 d1 d2 d3 d4
    obtain⟨d0,d1,d2,d3,d4⟩:=five D2.out.b
    have D3:=hid (D2.out.alloc (.cells #[.slice A1 x.list.length c1,.slice Al l.length cl] 24))
    have V3:=hid (Whole.new w2 24 [.slice A1 x.list.length c1,.slice Al l.length cl])
    have CC:=hid (z62 x.list l _ _ w2.heap.size 2 _ B (by omega) (by omega) (by omega) (by omega) (Nat.le_trans hB D3.out.f.size) (H1.out.fr D3.out.f hB (by simp)) (HL.out.fr D3.out.f hB (by simp)) (V3.out.cell 0) (V3.out.cell 1))
    go_wp2_with fail
    refine CC.out.mono ?_
    rintro e w3 ⟨u,rfl,ho,f3⟩
    have D4:=hid (D3.out.go f3)
    have hz:=D3.out.lt
    obtain⟨U,cu,hu,-⟩:=z06 ho
    rw[List.length_append] at hu
    subst hu
    have HO:=hid ho
    clear d0 d1 d2 d3 d4 ho
    go_wp2_with fail
    refine(OF.out _ _ _ f3.size HO.out).mono ?_
    rintro e w4 ⟨u,rfl,hi,f4⟩
    have D4:=hid (D4.out.step f4 (fun g hg=>by have:=z1j HO.out hg;omega))
    have HI:=hid hi
    obtain⟨P1,p1,P2,p2,P3,p3,rfl⟩:=hi.form
    clear hi
    have D5:=hid (D4.out.alloc (.cells #[.int .i64 y.kind,.string y.text,.slice P1 y.list.length p1,.slice P2 y.pairs.length p2,.slice P3 y.scores.length p3] 43))
    have V5:=hid (Whole.new w4 43 [.int .i64 y.kind,.string y.text,.slice P1 y.list.length p1,.slice P2 y.pairs.length p2,.slice P3 y.scores.length p3])
    have q:¬((y.list.length:Int) > 24):=by rw[ELL.out];omega
    have hz4:=D4.out.lt
    have hne1:¬w.heap.size=w.heap.size+1:=by omega
    have hne2:¬w.heap.size+1=w.heap.size:=by omega
    have hne3:¬w4.heap.size=w.heap.size+1:=by omega
    have hne4:¬w.heap.size+1=w4.heap.size:=by omega
    have HI5:=hid (HI.out.go ((Fr.refl [] _).alloc (.cells #[.int .i64 y.kind,.string y.text,.slice P1 y.list.length p1,.slice P2 y.pairs.length p2,.slice P3 y.scores.length p3] 43)))
    go_wp2_with fail
    generalize hw5:w4.alloc (.cells #[.int .i64 y.kind,.string y.text,.slice P1 y.list.length p1,.slice P2 y.pairs.length p2,.slice P3 y.scores.length p3] 43)=w5
    rw[hw5] at D5 V5 HI5
    clear hw5
    obtain⟨a0,a1,a2,a3,a4⟩:=five D5.out.o
    obtain⟨b0,b2,b3,b4,b5⟩:=z10 D5.out.o
    obtain⟨d0,d1,d2,d3,d4⟩:=five D5.out.b
    obtain⟨g0,g1,g2,g3,g4⟩:=five V5.out
    go_wp2
    go_region_held3 (fun wx=>wx.cell? ⟨w.heap.size,2,none⟩=some (.slice A1 x.list.length c1)∧wx.cell? ⟨w4.heap.size,0,none⟩=some (.int .i64 y.kind)∧wx.cell? ⟨w4.heap.size,1,none⟩=some (.string y.text)∧wx.cell? ⟨w4.heap.size,2,none⟩=some (.slice P1 y.list.length p1)∧wx.cell? ⟨w4.heap.size,3,none⟩=some (.slice P2 y.pairs.length p2)∧wx.cell? ⟨w4.heap.size,4,none⟩=some (.slice P3 y.scores.length p3)) (go_keep) (first|fail)
    go_wp2
    refine bodyPost_ret (v:=.tuple #[.agg #[.int .i64 y.kind,.string y.text,.slice P1 y.list.length p1,.slice P2 y.pairs.length p2,.slice P3 y.scores.length p3],.int .i64 (IntKind.i64.wrap ((y.list.length:Int) - (x.list.length:Int))),.int .i64 0]) (by simp[results,Tryz.results187,go_sem,a0,a1,a2,a3,a4]) rfl ?_
    exact⟨_,by rw[ELL.out,HW.out],((z1q (HI5.out.go (Fr.refl [] _).drew) (by omega) _ _ _ _ _).less (by omega)),(D5.out.go (Fr.refl [] _).drew).end5 _ _ _ _ _⟩
  ·have hp:zjr x l=z13 l:=by rw[EP.out,if_neg (by simpa using ha)]
   have E:=hid (show zdf x l=z13 l from by rw[EC.out,hp,if_pos hb])
   obtain⟨e1,e2⟩:=NO.out _ hb E.out
   rw[e1,e2,E.out]
   have q2:(z13 l != 0)=true:=by simpa using hb
   clear e1 e2 EP EC EY EK OK OA ON OX ha hb NO hp EL LL E
   generalize z13 l=r at *
   go_enter Tryz.func187,Tryz.ntmps187
   go_wp2_with fail
   refine(RD.out _ D0.out.f).mono ?_
   rintro e w1 ⟨rfl,f1⟩
   have D1:=hid (D0.out.go f1)
   clear d0 d1 d2 d3 d4
   obtain⟨d0,d1,d2,d3,d4⟩:=five D1.out.b
   go_wp2_with fail
   refine(SM.out _ D1.out.f).mono ?_
   rintro e w2 ⟨rfl,f2⟩
   have D2:=hid (D1.out.go f2)
   clear d0 d1 d2 d3 d4
   obtain⟨a0,a1,a2,a3,a4⟩:=five D2.out.o
   obtain⟨b0,b2,b3,b4,b5⟩:=z10 D2.out.o
   go_wp2
   refine bodyPost_ret (v:=.tuple #[.agg #[.int .i64 0,.string ⟨#[]⟩,.slice none 0 0,.slice none 0 0,.slice none 0 0],.int .i64 0,.int .i64 r]) (by simp[results,Tryz.results187,go_sem,a0,a1,a2,a3,a4]) rfl ?_
   exact⟨_,rfl,z0l.nothing _ _,D2.out.end5 _ _ _ _ _⟩
 ·have hp:zjr x l=z02 3 x:=by rw[EP.out,if_pos ha]
  have E:=hid (show zdf x l=z02 3 x from by rw[EC.out,hp,if_pos ha])
  obtain⟨e1,e2⟩:=NO.out _ ha E.out
  rw[e1,e2,E.out]
  have q2:(z02 3 x != 0)=true:=by simpa using ha
  have q3:(z02 3 x==0)=false:=by simpa using ha
  clear e1 e2 EP EC EY EK OK OA ON OX ha NO hp EL LL E
  generalize z02 3 x=r at *
  go_enter Tryz.func187,Tryz.ntmps187
  go_wp2_with fail
  refine(RD.out _ D0.out.f).mono ?_
  rintro e w1 ⟨rfl,f1⟩
  have D1:=hid (D0.out.go f1)
  clear d0 d1 d2 d3 d4
  obtain⟨a0,a1,a2,a3,a4⟩:=five D1.out.o
  obtain⟨b0,b2,b3,b4,b5⟩:=z10 D1.out.o
  go_wp2
  refine bodyPost_ret (v:=.tuple #[.agg #[.int .i64 0,.string ⟨#[]⟩,.slice none 0 0,.slice none 0 0,.slice none 0 0],.int .i64 0,.int .i64 r]) (by simp[results,Tryz.results187,go_sem,a0,a1,a2,a3,a4]) rfl ?_
  exact⟨_,rfl,z0l.nothing _ _,D1.out.end5 _ _ _ _ _⟩
end Go.Proofs.YtamgdmiopinidaaGreatDoor
