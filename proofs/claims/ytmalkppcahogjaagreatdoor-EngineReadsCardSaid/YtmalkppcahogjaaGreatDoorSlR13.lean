/- Contracts; no condition but each theorem's own. -/
import Derived.Test.YtmalkppcahogjaaGreatDoorSlR12
set_option linter.unusedVariables false
set_option linter.unusedSimpArgs false
set_option maxHeartbeats 8000000
set_option maxRecDepth 100000
namespace Go.Proofs.YtmalkppcahogjaaGreatDoor
open Lib (hid)
open Go.Proofs.Tryz (prog)
open Go.RowKit
def zcb(m:Nat)(ys:List Value)(base:Nat)(v:Value)(w:World)(e:Ending)(w':World):Prop:=
 ∃v',e=.returned v'∧w'.ownsRow base 113 2 v' m ys∧w.grownBy w' v.ownBlock∧(v'.ownBlock=v.ownBlock∨v'.ownBlock=some w.heap.size)
theorem zv8(n:Nat)(xs vs:List Value)(base gv:Nat)(v:Value)(w:World)(hn:(n+1) * 24≤140737488355328)(h:w.ownsRow base 113 2 v n xs)(hv1:∀u∈vs,u.oneCell'=true)(hvl:vs.length=2)(hgv:Whole w gv 113 vs)(hb:base≤w.heap.size):
  Calls prog 325 #[v,.int .i64 n,.slice (some ⟨gv,0,none⟩) 1 1] w (zcb (n+1) (xs++vs) base v w):=by
 obtain⟨i0,hi,hz0,hz1,hz2⟩:=info_parts z6e;have hs:Sl w w.heap.size 2 (.slice (some ⟨gv,0,none⟩) 1 1) 1 vs:=⟨_,_,rfl,by omega,by omega,by unfold maxLen;omega,fun _=>⟨gv,0,rfl,hgv.lt,fun j u hu=>by rw[Nat.zero_add,hgv.cell];exact hu⟩⟩;have HS:=hid hs;have HO:=hid h;have H1:=hid hv1;obtain⟨A,c,rfl,hA,hc,hm⟩:=z05 h;unfold maxLen at hm;clear hs h hv1 hvl hgv;rcases hA with rfl|⟨g,rfl⟩
 ·have hn0:n=0:=by
   rcases HO.out.2 with⟨_,h0⟩|⟨g',cap',cur,h',_⟩
   ·exact h0
   ·cases h'
  subst hn0;go_enter Tryz.func325,Tryz.ntmps325;go_wp2_with (at_builtin;refine z0j _ rfl _ _ 63 rfl base 113 i0 _ 2 24 Tryz.underlying63 hi hz0 hz1 hz2 rfl (by decide) _ _ _ rfl HO.out _ _ 1 vs rfl HS.out H1.out ?c1 ?c2 hb ?_)
  case c1=>unfold maxLen;omega
  case c2=>omega
  intro v' w2 hown' hgrow hat;go_wp2;go_ret;exact⟨_,rfl,hown',hgrow,hat⟩
 ·by_cases hcn:c=n
  all_goals
   go_enter Tryz.func325,Tryz.ntmps325;go_wp2_with (at_builtin;refine z0j _ rfl _ _ 63 rfl base 113 i0 _ 2 24 Tryz.underlying63 hi hz0 hz1 hz2 rfl (by decide) _ _ _ rfl HO.out _ _ 1 vs rfl HS.out H1.out (by unfold maxLen;omega) (by omega) hb (fun v' w2 hown' hgrow hat=>?_));go_ret;exact⟨_,rfl,hown',hgrow,hat⟩
theorem zxe(n i c g:Nat)(xs vs:List Value)(base gv:Nat)(w:World)(hin:i < n)(hr:n+1≤c)(h:w.ownsRow base 113 2 (.slice (some ⟨g,0,none⟩) n c) n xs)(h1:∀u∈xs,u.oneCell'=true)(hv1:∀u∈vs,u.oneCell'=true)(hvl:vs.length=2)(hgv:Whole w gv 113 vs)(hne:gv≠g):
  Calls prog 325 #[.slice (some ⟨g,0,none⟩) n c,.int .i64 i,.slice (some ⟨gv,0,none⟩) 1 1] w (zcb (n+1) (z10 xs vs (i * 2)) base (.slice (some ⟨g,0,none⟩) n c) w):=by
 obtain⟨i0,hi,hz0,hz1,hz2⟩:=info_parts z6e;obtain⟨cur0,cur,w0,l0,w1,l1,o2⟩:=zki (w:=w.drew) h (Nat.le_of_lt hin) hr hvl;obtain⟨_,_,_,_,_,_,hm,hxl⟩:=z24 h;have hdl:(xs.drop (i * 2)).length=(n - i) * 2:=by rw[List.length_drop,hxl];omega
 have hov:∀lb cb,(callFunc 354 #[.slice (some ⟨gv,0,none⟩) 1 1,.slice (some ⟨g,(i+1) * 2,none⟩) lb cb]).run prog w=.ok (.value (.bool false)) w:=fun lb cb=>by
  rw[run_callFunc_extern Tryz.func354 (by kernel_rfl) (by kernel_rfl) (by kernel_rfl) (e:=Extern.SlicesOverlaps.overlaps #[63,63] #[4]) (by kernel_rfl),
   Lib.run_overlaps_apart w 63 4 113 Tryz.underlying63 2 (fun w=>by kernel_rfl) ⟨gv,0,none⟩ ⟨g,(i+1) * 2,none⟩ 1 1 lb cb hne 113 113 vs.length cur0.length (by unfold Whole at hgv;simp[World.shape?,hgv]) (by have:=w0;unfold Whole at this;have:w.heap[g]? = _:=this;simp[World.shape?,this]) (by rw[l0];omega) (hgv.frozen _) (hgv.frozen _)]
  rfl
 have hc1:∀ty dc sc,(Builtin.copy_ #[63,63] ty #[.slice (some ⟨g,(i+1) * 2,none⟩) (n - i) dc,.slice (some ⟨g,i * 2,none⟩) (n+1 - i) sc]).run prog w.drew=.ok (goInt ((n - i:Nat))) (w.drew.setCells g ((i+1) * 2) (xs.drop (i * 2))):=fun ty dc sc=>
  z29 w.drew _ _ ty 113 i0 2 g ((i+1) * 2) (n - i) dc ⟨g,i * 2,none⟩ (n+1 - i) sc (n - i) _ Tryz.underlying63 hi hz1 (by simp only[Nat.min_def];split <;> omega) hdl
   (fun t u hu=>by
    rw[List.getElem?_drop] at hu;have hlt:=(List.getElem?_eq_some_iff.1 hu).1;have:=(h.cellAt (i * 2+t) (by omega)).trans hu;rw[Addr.add_lit,show i * 2=i * 2 by omega];exact this)
   (fun t ht=>by
    rw[show(i+1) * 2=(i+1) * 2 by omega];exact z0n w0 (o:=(i+1) * 2) (m:=(n - i) * 2) (by rw[l0];omega) t (by omega))
   (fun u hu=>h1 u (List.mem_of_mem_drop hu))
 rw[show(i+1) * 2=(i+1) * 2 by omega] at w1 o2;obtain⟨W1,hW1⟩:∃W1,W1=w.drew.setCells g ((i+1) * 2) (xs.drop (i * 2)):=⟨_,rfl⟩;rw[←hW1] at hc1 w1 o2
 have hgv1:Whole W1 gv 113 vs:=by
  rw[hW1];exact hgv.drew.grown (z08 _ _ _) (by simpa using hne)
 rw[show i * 2=i * 2 by omega] at o2
 have hc2:∀ty dc,(Builtin.copy_ #[63,63] ty #[.slice (some ⟨g,i * 2,none⟩) (n+1 - i) dc,.slice (some ⟨gv,0,none⟩) 1 1]).run prog W1=.ok (goInt ((1:Nat))) (W1.setCells g (i * 2) vs):=fun ty dc=>
  z29 W1 _ _ ty 113 i0 2 g (i * 2) (n+1 - i) dc ⟨gv,0,none⟩ 1 1 1 vs Tryz.underlying63 hi hz1 (by simp only[Nat.min_def];split <;> omega) (by omega)
   (fun t u hu=>by
    rw[Addr.add_lit,Nat.zero_add,hgv1.cell];exact hu)
   (fun t ht=>by
    rw[show i * 2=i * 2 by omega];exact z0n w1 (o:=i * 2) (m:=2) (by rw[l1];omega) t (by omega))
   hv1
 have HW:=hid hW1;have O2:=hid o2;unfold maxLen at hm;have hz1':¬((i:Int)=(n:Int)):=by omega
 have hw1:IntKind.i64.wrap ((i:Int)+1)=(i:Int)+1:=by rw[IntKind.wrap_i64];omega
 have hw2:IntKind.i64.wrap ((n:Int)+1)=(n:Int)+1:=by rw[IntKind.wrap_i64];omega
 have ht1:((i:Int)+1).toNat=i+1:=by omega
 have ht2:((n:Int)+1).toNat=n+1:=by omega
 have hb0:i≤n:=by omega
 have hb1:(0:Int)≤(i:Int)+1:=by omega
 have hb2:(0:Int)≤(n:Int)+1:=by omega
 have hb3:(n:Int)+1≤(c:Int):=by omega
 have hb4:(i:Int)≤(n:Int)+1:=by omega
 have hb5:(i:Int)≤(n:Int):=by omega
 have hb6:¬(c=i):=by omega
 have hb7:¬(c=i+1):=by omega
 have hb8:¬((c:Int) < (n:Int)+1):=by omega
 clear h h1 hv1 hvl hgv hgv1 cur0 cur w0 l0 w1 l1 o2 hxl hdl hW1 hi hz0 hz1 hz2;go_enter Tryz.func325,Tryz.ntmps325;go_wp2_with (simp only[hov])
 go_region_law (refine z3g rfl _ _ 63 63 rfl _ _ (by simp[Act.eval,Act.put]) (by simp[Act.eval,Act.put]) (hc1 _ _ _) ?_)
 go_wp2_with (at_builtin;refine z2n _ rfl _ _ 63 63 rfl _ _ rfl rfl (hc2 _ _) ?_);go_ret;refine⟨_,rfl,O2.out,?_,.inl rfl⟩;rw[HW.out];exact z23 ((z08 _ _ _).trans (z08 _ _ _))
theorem zuy(n i c g:Nat)(xs vs:List Value)(base gv:Nat)(w:World)(hn:(n+1) * 24≤140737488355328)(hin:i < n)(hnc:n≤c)(hr:c < n+1)(h:w.ownsRow base 113 2 (.slice (some ⟨g,0,none⟩) n c) n xs)(h1:∀u∈xs,u.oneCell'=true)(hv1:∀u∈vs,u.oneCell'=true)(hvl:vs.length=2)(hgv:Whole w gv 113 vs)(hb:base≤w.heap.size):
  Calls prog 325 #[.slice (some ⟨g,0,none⟩) n c,.int .i64 i,.slice (some ⟨gv,0,none⟩) 1 1] w (zcb (n+1) (z10 xs vs (i * 2)) base (.slice (some ⟨g,0,none⟩) n c) w):=by
 obtain⟨i0,hi,hz0,hz1,hz2⟩:=info_parts z6e;obtain⟨cur0,w0,l0,hx0,_,_,hm,hxl⟩:=z24 h;clear hx0;have hdl:(xs.drop (i * 2)).length=(n - i) * 2:=by rw[List.length_drop,hxl];omega
 have htl:(xs.take (i * 2)).length=i * 2:=by rw[List.length_take,hxl];omega
 have hcell:∀t u,xs[t]? = some u→w.cell? ⟨g,t,none⟩=some u:=fun t u hu=>by
  have hlt:=(List.getElem?_eq_some_iff.1 hu).1;exact(h.cellAt t (by omega)).trans hu
 have hold:(Builtin.firstCells i0.size i (.slice (some ⟨g,0,none⟩) i c)).run prog w.drew=.ok (xs.take (i * 2)).toArray w.drew:=by
  rw[hz1]
  exact run_firstCells_some w.drew 2 i ⟨g,0,none⟩ i c (xs.take (i * 2)) htl (fun t u hu=>by
   rw[Addr.add_lit,Nat.zero_add];rw[List.getElem?_take] at hu;split at hu
   ·exact hcell t u hu
   ·cases hu)
 have hG:grownCap w (n+1) c 113≤maxLen:=grownCap_le_maxLen w _ _ _ (by unfold maxLen;omega);have hGe:n+1≤grownCap w (n+1) c 113:=grownCap_ge w _ _ _
 have hrz:∀ty,(Builtin.append_ #[63,3] ty #[.slice (some ⟨g,0,none⟩) i c,.int .i64 ((n:Int)+1 - (i:Int))]).run prog w =
   .ok (.slice (some ⟨w.heap.size,0,none⟩) (n+1) (grownCap w (n+1) c 113)) (w.drew.alloc (.cells ((xs.take (i * 2)).toArray++Builtin.zeroCells (Value.cells (.agg #[.int .i64 0,.string ⟨#[]⟩])) (n+1 - i)++Builtin.zeroCells (Value.cells (.agg #[.int .i64 0,.string ⟨#[]⟩])) (grownCap w (n+1) c 113 - (n+1))) 113)):=fun ty=>by
  have hik:i+(n+1 - i)=n+1:=by omega
  have h:=Lib.run_append_grow_zeros w 63 3 ty 113 i0 _ .i64 .i64 Tryz.underlying63 Tryz.underlying3 hi hz0 (some ⟨g,0,none⟩) i c _ hold (n+1 - i) (by omega) (by omega) (by omega) (by omega) (by rw[hz2];omega) (by rw[hz2,hik];exact growslice_fits hr hn);rw[hik] at h;rw[show(n:Int)+1 - (i:Int)=((n+1 - i:Nat):Int) by omega];exact h
 generalize grownCap w (n+1) c 113=G at *;obtain⟨zs,hzs⟩:∃zs,zs=(Builtin.zeroCells (Value.cells (.agg #[.int .i64 0,.string ⟨#[]⟩])) (n+1 - i)++Builtin.zeroCells (Value.cells (.agg #[.int .i64 0,.string ⟨#[]⟩])) (G - (n+1))).toList:=⟨_,rfl⟩;have hzl:zs.length=(n+1 - i) * 2+(G - (n+1)) * 2:=by rw[hzs];simp[Builtin.zeroCells,Value.cells];try omega
 have hra:(xs.take (i * 2)).toArray++Builtin.zeroCells (Value.cells (.agg #[.int .i64 0,.string ⟨#[]⟩])) (n+1 - i)++Builtin.zeroCells (Value.cells (.agg #[.int .i64 0,.string ⟨#[]⟩])) (G - (n+1))=(xs.take (i * 2)++zs).toArray:=by
  rw[hzs];simp
 rw[hra] at hrz;obtain⟨W0,hW0⟩:∃W0,W0=w.drew.alloc (.cells (xs.take (i * 2)++zs).toArray 113):=⟨_,rfl⟩;rw[←hW0] at hrz;have wn:Whole W0 w.heap.size 113 (xs.take (i * 2)++zs):=by rw[hW0];exact Whole.new w.drew 113 _
 have hgr:w.grownBy W0 (some g):=by rw[hW0];exact z23 (z8m _ _ _)
 have hgv0:Whole W0 gv 113 vs:=by rw[hW0];exact hgv.drew.alloc _
 have wg0:Whole W0 g 113 cur0:=by rw[hW0];exact w0.drew.alloc _
 have hgl:g≠w.heap.size:=Nat.ne_of_lt w0.lt;obtain⟨cur,w1,l1,o2⟩:=zjr (i:=i) (n:=n) (base:=base) hxl (Nat.le_of_lt hin) hvl hGe hG hb wn (by rw[List.length_append,htl,hzl];omega);rw[show(i+1) * 2=(i+1) * 2 by omega,show i * 2=i * 2 by omega] at o2;rw[show i * 2=i * 2 by omega] at w1
 have hc1:∀ty dc,(Builtin.copy_ #[63,63] ty #[.slice (some ⟨w.heap.size,i * 2,none⟩) (n+1 - i) dc,.slice (some ⟨gv,0,none⟩) 1 1]).run prog W0=.ok (goInt ((1:Nat))) (W0.setCells w.heap.size (i * 2) vs):=fun ty dc=>
  z29 W0 _ _ ty 113 i0 2 w.heap.size (i * 2) (n+1 - i) dc ⟨gv,0,none⟩ 1 1 1 vs Tryz.underlying63 hi hz1 (by simp only[Nat.min_def];split <;> omega) (by omega)
   (fun t u hu=>by
    rw[Addr.add_lit,Nat.zero_add,hgv0.cell];exact hu)
   (fun t ht=>by
    rw[show i * 2=i * 2 by omega];exact z0n wn (o:=i * 2) (m:=2) (by rw[List.length_append,htl,hzl];omega) t (by omega))
   hv1
 obtain⟨W1,hW1⟩:∃W1,W1=W0.setCells w.heap.size (i * 2) vs:=⟨_,rfl⟩;rw[←hW1] at hc1 o2 w1;have hgr1:w.grownBy W1 (some g):=by rw[hW1];exact z3y hgr (z08 _ _ _) (Nat.le_refl _)
 have wg1:Whole W1 g 113 cur0:=by rw[hW1];exact wg0.grown (z08 _ _ _) (by simpa using hgl)
 have hc2:∀ty dc sc,(Builtin.copy_ #[63,63] ty #[.slice (some ⟨w.heap.size,(i+1) * 2,none⟩) (n - i) dc,.slice (some ⟨g,i * 2,none⟩) (n - i) sc]).run prog W1.drew=.ok (goInt ((n - i:Nat))) (W1.drew.setCells w.heap.size ((i+1) * 2) (xs.drop (i * 2))):=fun ty dc sc=>
  z29 W1.drew _ _ ty 113 i0 2 w.heap.size ((i+1) * 2) (n - i) dc ⟨g,i * 2,none⟩ (n - i) sc (n - i) _ Tryz.underlying63 hi hz1 (by simp only[Nat.min_def];split <;> omega) hdl
   (fun t u hu=>by
    rw[List.getElem?_drop] at hu;have h2:=hcell _ u hu;have e1:=wg0.cell (i * 2+t);have e2:=w0.cell (i * 2+t);have e3:=wg1.drew.cell (i * 2+t);rw[Addr.add_lit,show i * 2=i * 2 by omega,e3,←e2];exact h2)
   (fun t ht=>by
    rw[show(i+1) * 2=(i+1) * 2 by omega];exact z0n w1.drew (o:=(i+1) * 2) (m:=(n - i) * 2) (by rw[l1];omega) t (by omega))
   (fun u hu=>h1 u (List.mem_of_mem_drop hu))
 have O2:=hid (show(W1.drew.setCells w.heap.size ((i+1) * 2) (xs.drop (i * 2))).ownsRow base 113 2 (.slice (some ⟨w.heap.size,0,none⟩) (n+1) G) (n+1) (z10 xs vs (i * 2)) by rw[z4t];exact o2);have G2:=hid (show w.grownBy (W1.drew.setCells w.heap.size ((i+1) * 2) (xs.drop (i * 2))) (some g) from z3y (z88 hgr1) (z08 _ _ _) (Nat.le_refl _));obtain⟨W2,hW2⟩:∃W2,W2=W1.drew.setCells w.heap.size ((i+1) * 2) (xs.drop (i * 2)):=⟨_,rfl⟩;rw[←hW2] at hc2 O2 G2;unfold maxLen at hm hG;have hz1':¬((i:Int)=(n:Int)):=by omega
 have hw1:IntKind.i64.wrap ((i:Int)+1)=(i:Int)+1:=by rw[IntKind.wrap_i64];omega
 have hw2:IntKind.i64.wrap ((n:Int)+1)=(n:Int)+1:=by rw[IntKind.wrap_i64];omega
 have hw3:IntKind.i64.wrap ((n:Int)+1 - (i:Int))=(n:Int)+1 - (i:Int):=by rw[IntKind.wrap_i64];omega
 have ht1:((i:Int)+1).toNat=i+1:=by omega
 have hb0:i≤n:=by omega
 have hb1:(0:Int)≤(i:Int)+1:=by omega
 have hb4:(i:Int)≤(n:Int)+1:=by omega
 have hb5:(i:Int)≤(n:Int):=by omega
 have hb6:¬(c=i):=by omega
 have hb7:¬(G=i+1):=by omega
 have hb9:¬(G=i):=by omega
 have hb10:(i:Int)≤(c:Int):=by omega
 have hb8:(c:Int) < (n:Int)+1:=by omega
 clear h h1 hv1 hvl hgv hgv0 cur0 cur w0 l0 w1 l1 o2 hxl hdl hW1 hi hz0 hz1 hz2 htl hcell hold hzs hzl hra hW0 wn hgr wg0 wg1 hgr1 hW2;go_enter Tryz.func325,Tryz.ntmps325
 go_wp2_with (first
  | (at_builtin;refine Lib.wpList_append_run _ rfl _ _ _ _ rfl _ _ rfl rfl _ _ (hrz _) ?_)
  | (at_builtin;refine z2n _ rfl _ _ 63 63 rfl _ _ rfl rfl (hc1 _ _) ?_))
 go_region_law (refine z3g rfl _ _ 63 63 rfl _ _ (by simp[Act.eval,Act.put]) (by simp[Act.eval,Act.put]) (hc2 _ _ _) ?_)
 go_wp2;go_ret;exact⟨_,rfl,O2.out,G2.out,.inr rfl⟩
theorem zld(n i:Nat)(xs vs:List Value)(base gv:Nat)(v:Value)(w:World)(hn:(n+1) * 24≤140737488355328)(hin:i≤n)(h:w.ownsRow base 113 2 v n xs)(h1:∀u∈xs,u.oneCell'=true)(hv1:∀u∈vs,u.oneCell'=true)(hvl:vs.length=2)(hgv:Whole w gv 113 vs)(hne:v.ownBlock≠some gv)(hb:base≤w.heap.size):
  Calls prog 325 #[v,.int .i64 i,.slice (some ⟨gv,0,none⟩) 1 1] w (zcb (n+1) (z10 xs vs (i * 2)) base v w):=by
 rcases Nat.lt_or_ge i n with hlt|hge
 ·obtain⟨A,c,rfl,hA,hc,hm⟩:=z05 h;rcases hA with rfl|⟨g,rfl⟩
  ·exfalso;rcases h.2 with⟨_,h0⟩|⟨g',cap',cur,h',_⟩
   ·omega
   ·cases h'
  ·by_cases hr:n+1≤c
   ·exact zxe n i c g xs vs base gv w hlt hr h h1 hv1 hvl hgv (by
     rintro rfl;exact hne rfl)
   ·exact zuy n i c g xs vs base gv w hn hlt hc (by omega) h h1 hv1 hvl hgv hb
 ·obtain rfl:i=n:=by omega
  have e:z10 xs vs (i * 2)=xs++vs:=by
   have hl:xs.length=i * 2:=h.1;unfold z10;rw[List.take_of_length_le (by omega),List.drop_of_length_le (by omega),List.append_nil]
  rw[e];exact zv8 i xs vs base gv v w hn h hv1 hvl hgv hb
def zx4(l:List (Int×ByteArray))(s:Int×ByteArray):Bool:=match l[z7d l s]? with|some q=>decide (z94 q s=0)|none=>false
theorem zmo(l:List (Int×ByteArray))(f:Int)(v:ByteArray)(A:Option Addr)(c B:Nat)(w:World)(hr:rises ltC l=true)(hI:∀q∈l,z0i q.1=true)(hV:z0i f=true)(hl:l.length≤281474976710656)(hB:B≤w.heap.size)(h:Sl w B 2 (.slice A l.length c) l.length (z07 l)):
  Calls prog 324 #[.slice A l.length c,.agg #[.int .i64 f,.string v],.func (Fn.func 228) #[] #[]] w (z4c (z7d l (f,v)) (zx4 l (f,v)) w):=by
 have HS:=hid h;have HI:=hid hI;have HV:=hid hV;have hlow:=zgn l (f,v);have HR:=hid hr;have F0:=hid ((Fr.refl [] w).alloc (.cells #[.int .i64 f,.string v] 113));have B0:=hid (Whole.new w 113 [.int .i64 f,.string v]);clear h hr hI hV;go_enter Tryz.func324,Tryz.ntmps324;go_wp2;go_loopg [9,10] l.length (fun g s9 s10 wr=>∃(lo hi:Nat),g=hi - lo∧s9=.int .i64 lo∧s10=.int .i64 hi∧lo≤z7d l (f,v)∧z7d l (f,v)≤hi∧hi≤l.length∧Fr [] w wr∧Whole wr w.heap.size 113 [.int .i64 f,.string v])
 case atStart=>exact⟨0,l.length,rfl,rfl,rfl,Nat.zero_le _,hlow,Nat.le_refl _,F0.out,B0.out⟩
 case round=>
  obtain⟨lo,hi,rfl,rfl,rfl,h1,h2,h3,hf,hb⟩:=hrel;have HF:=hid hf;have HB:=hid hb;clear hf hb;by_cases hlt:lo < hi
  ·obtain⟨m,hm⟩:∃m,m=(lo+hi) / 2:=⟨_,rfl⟩;have hml:m < l.length:=by omega
   obtain⟨b,off,rfl,hb,hc,hmx,hcell⟩:=HS.out.at_ (by omega);obtain⟨q,hq⟩:∃q,l[m]? = some q:=⟨_,List.getElem?_eq_getElem hml⟩;have x1:w.cell? ⟨b,off+m * 2,none⟩=some (.int .i64 q.1):=by rw[Nat.mul_comm];exact hcell _ _ (z0a l m q hq).1
   have x2:w.cell? ⟨b,off+m * 2+1,none⟩=some (.string q.2):=by rw[Nat.mul_comm];exact hcell _ _ (z0a l m q hq).2
   have X1:=hid x1;have X2:=hid x2;have c1:=HF.out.cell x1 (by simp);have c2:=HF.out.cell x2 (by simp);have d1:wr.cell? ⟨w.heap.size,0,none⟩=some (.int .i64 f):=HB.out.cell 0;have d2:wr.cell? ⟨w.heap.size,1,none⟩=some (.string v):=HB.out.cell 1;have FL:=hid (fun W=>(show Calls prog 228 #[.agg #[.int .i64 q.1,.string q.2],.agg #[.int .i64 f,.string v]] W (fun e w'=>e=.returned (.int .i64 (z94 q (f,v)))∧Fr [] W w') from zb6 q (f,v) W (HI.out q (List.mem_of_getElem? hq)) HV.out));have hmi:((lo:Int)+(hi:Int)) / 2=(m:Int):=by omega
   have hM:=hid hm
   have hnew:(z94 q (f,v) < 0→m < z7d l (f,v))∧(¬z94 q (f,v) < 0→z7d l (f,v)≤m):=⟨fun h=>by
    rcases Nat.lt_or_ge m (z7d l (f,v)) with h'|h'
    ·exact h'
    ·exact absurd h (zpm HR.out h' hq),fun h=>by
    rcases Nat.lt_or_ge m (z7d l (f,v)) with h'|h'
    ·exact absurd (zjk h' hq) h
    ·exact h'⟩
   have HN:=hid hnew;clear x1 x2 hcell hq hnew hm;generalize z94 q (f,v)=o at *;by_cases ho:o < 0
   ·have hn:=HN.out.1 ho;go_wp2;clear hmi;go_region_held3 (fun wx=>wx.cell? ⟨b,off+m * 2,none⟩=some (.int .i64 q.1)∧wx.cell? ⟨b,off+m * 2+1,none⟩=some (.string q.2)∧wx.cell? ⟨w.heap.size,0,none⟩=some (.int .i64 f)∧wx.cell? ⟨w.heap.size,1,none⟩=some (.string v)) (go_keep) (first|(go_at_call 228;(refine(FL.out _).mono ?_);rintro e w2 ⟨rfl,f2⟩;have G2:=hid (z01 f2);have c1:=G2.out.cell c1 (by simp);have c2:=G2.out.cell c2 (by simp);have d1:=G2.out.cell d1 (by simp);have d2:=G2.out.cell d2 (by simp);clear f2))
    go_wp2;go_roundg (hi - (m+1))
    case measure=>have:=hM.out;omega
    case rel=>exact⟨m+1,hi,rfl,by go_num,rfl,by omega,h2,h3,HF.out.trans G2.out,HB.out.fr G2.out (by simp)⟩
   ·have hn:=HN.out.2 ho;go_wp2;clear hmi;go_region_held3 (fun wx=>wx.cell? ⟨b,off+m * 2,none⟩=some (.int .i64 q.1)∧wx.cell? ⟨b,off+m * 2+1,none⟩=some (.string q.2)∧wx.cell? ⟨w.heap.size,0,none⟩=some (.int .i64 f)∧wx.cell? ⟨w.heap.size,1,none⟩=some (.string v)) (go_keep) (first|(go_at_call 228;(refine(FL.out _).mono ?_);rintro e w2 ⟨rfl,f2⟩;have G2:=hid (z01 f2);have c1:=G2.out.cell c1 (by simp);have c2:=G2.out.cell c2 (by simp);have d1:=G2.out.cell d1 (by simp);have d2:=G2.out.cell d2 (by simp);clear f2))
    go_wp2;go_roundg (m - lo)
    case measure=>have:=hM.out;omega
    case rel=>exact⟨lo,m,rfl,rfl,rfl,h1,hn,by omega,HF.out.trans G2.out,HB.out.fr G2.out (by simp)⟩
  ·obtain rfl:hi=lo:=by omega
   obtain⟨lw,hlw⟩:∃lw,lw=z7d l (f,v):=⟨_,rfl⟩;obtain rfl:hi=lw:=by omega
   have HL:=hid hlw;have d1:wr.cell? ⟨w.heap.size,0,none⟩=some (.int .i64 f):=HB.out.cell 0;have d2:wr.cell? ⟨w.heap.size,1,none⟩=some (.string v):=HB.out.cell 1;by_cases hn:hi < l.length
   ·obtain⟨b,off,rfl,hb,hc,hmx,hcell⟩:=HS.out.at_ (by omega);obtain⟨q,hq⟩:∃q,l[hi]? = some q:=⟨_,List.getElem?_eq_getElem hn⟩;have c1:=HF.out.cell (show w.cell? ⟨b,off+hi * 2,none⟩=some (.int .i64 q.1) by rw[Nat.mul_comm];exact hcell _ _ (z0a l hi q hq).1) (by simp);have c2:=HF.out.cell (show w.cell? ⟨b,off+hi * 2+1,none⟩=some (.string q.2) by rw[Nat.mul_comm];exact hcell _ _ (z0a l hi q hq).2) (by simp);have FL:=hid (fun W=>(show Calls prog 228 #[.agg #[.int .i64 q.1,.string q.2],.agg #[.int .i64 f,.string v]] W (fun e w'=>e=.returned (.int .i64 (z94 q (f,v)))∧Fr [] W w') from zb6 q (f,v) W (HI.out q (List.mem_of_getElem? hq)) HV.out));have HH:=hid (show zx4 l (f,v)=decide (z94 q (f,v)=0) from by unfold zx4;rw[←hlw,hq]);clear hcell hq hlw h1 h2;generalize z94 q (f,v)=o at *;by_cases ho:o=0
    ·subst ho;have HH2:=hid (HH.out.trans (decide_eq_true rfl));clear HH;go_wp2;go_region_held3 (fun wx=>wx.cell? ⟨b,off+hi * 2,none⟩=some (.int .i64 q.1)∧wx.cell? ⟨b,off+hi * 2+1,none⟩=some (.string q.2)∧wx.cell? ⟨w.heap.size,0,none⟩=some (.int .i64 f)∧wx.cell? ⟨w.heap.size,1,none⟩=some (.string v)) (go_keep) (first|(go_at_call 228;(refine(FL.out _).mono ?_);rintro e w2 ⟨rfl,f2⟩;have G2:=hid (z01 f2);have c1:=G2.out.cell c1 (by simp);have c2:=G2.out.cell c2 (by simp);have d1:=G2.out.cell d1 (by simp);have d2:=G2.out.cell d2 (by simp);clear f2))
     go_wp2;go_ret2;refine⟨?_,HF.out.trans G2.out⟩;rw[←HL.out,HH2.out];rfl
    ·have q1:(o==0)=false:=by simpa using ho
     have HH2:=hid (HH.out.trans (decide_eq_false ho));clear ho HH;go_wp2;go_region_held3 (fun wx=>wx.cell? ⟨b,off+hi * 2,none⟩=some (.int .i64 q.1)∧wx.cell? ⟨b,off+hi * 2+1,none⟩=some (.string q.2)∧wx.cell? ⟨w.heap.size,0,none⟩=some (.int .i64 f)∧wx.cell? ⟨w.heap.size,1,none⟩=some (.string v)) (go_keep) (first|(go_at_call 228;(refine(FL.out _).mono ?_);rintro e w2 ⟨rfl,f2⟩;have G2:=hid (z01 f2);have c1:=G2.out.cell c1 (by simp);have c2:=G2.out.cell c2 (by simp);have d1:=G2.out.cell d1 (by simp);have d2:=G2.out.cell d2 (by simp);clear f2))
     go_wp2;go_ret2;refine⟨?_,HF.out.trans G2.out⟩;rw[←HL.out,HH2.out];rfl
   ·have HH:=hid (show zx4 l (f,v)=false from by unfold zx4;rw[←hlw,List.getElem?_eq_none (by omega)]);have hn':decide ((hi:Int) < (l.length:Int))=false:=by simpa using hn
    clear hlw h1 h2;go_wp2;go_quiet (fail);go_wp2;go_ret2;refine⟨?_,HF.out.drewN _⟩;rw[←HL.out,HH.out];rfl
theorem z68(x:Itm)(v:Value)(w:World)(B:Nat)(hs:x.Small)(hB:B≤w.heap.size)(h:z0r w B v x):
  Calls prog 320 #[v] w fun e w'=>e=.returned (.int .i64 (z02 5 x))∧Fr [] w w':=by
 have M:=hid (fun W (hf:Fr [] w W)=>zi4 x 5 v W B hs (Nat.le_trans hB hf.size) (h.fr hf hB (by simp)));obtain⟨A1,c1,A2,c2,A3,c3,rfl,h1,h2,h3⟩:=h;have F1:Fr [] w (w.alloc (.cells #[.int .i64 x.kind,.string x.text,.slice A1 x.list.length c1,.slice A2 x.pairs.length c2,.slice A3 x.scores.length c3] 65)):=(Fr.refl [] w).alloc _;go_enter Tryz.func320,Tryz.ntmps320;go_wp2_with fail;refine(M.out _ F1).mono ?_;rintro e w1 ⟨rfl,f1⟩;go_wp2;go_ret;exact⟨rfl,F1.trans f1⟩
theorem zkh(l:List (Int×ByteArray))(A:Option Addr)(c:Nat)(w:World)(B:Nat)(hs:(zbl l).Small)(hB:B≤w.heap.size)(h:Sl w B 2 (.slice A l.length c) l.length (z07 l)):
  Calls prog 326 #[.slice A l.length c] w fun e w'=>e=.returned (if l.length=0 then .agg #[.int .i64 0,.string ⟨#[]⟩,.slice none 0 0,.slice none 0 0,.slice none 0 0] else .agg #[.int .i64 5,.string ⟨#[]⟩,.slice none 0 0,.slice none 0 0,.slice A l.length c])∧Fr [] w w':=by
 have hv:z0r w B (.agg #[.int .i64 5,.string ⟨#[]⟩,.slice none 0 0,.slice none 0 0,.slice A l.length c]) (zbl l):=⟨none,0,none,0,A,c,rfl,Sl.nil _ _ _,Sl.nil _ _ _,h⟩;have O:=hid (fun W (hf:Fr [] w W)=>(show Calls prog 345 #[.agg #[.int .i64 5,.string ⟨#[]⟩,.slice none 0 0,.slice none 0 0,.slice A l.length c]] W fun e w'=>e=.returned (if l.length=0 then .agg #[.int .i64 0,.string ⟨#[]⟩,.slice none 0 0,.slice none 0 0,.slice none 0 0] else .agg #[.int .i64 5,.string ⟨#[]⟩,.slice none 0 0,.slice none 0 0,.slice A l.length c])∧Fr [] W w' from by have:=zm7 (zbl l) (.agg #[.int .i64 5,.string ⟨#[]⟩,.slice none 0 0,.slice none 0 0,.slice A l.length c]) W B hs (Nat.le_trans hB hf.size) (hv.fr hf hB (by simp)) (show(5:Int)≠1 by decide);unfold ofV at this;rw[show many (zbl l)=l.length from by show 0+0+l.length=l.length;omega] at this;exact this));have F1:Fr [] w (w.alloc (.cells #[.int .i64 0,.string ⟨#[]⟩,.slice none 0 0,.slice none 0 0,.slice none 0 0] 65)):=(Fr.refl [] w).alloc _;have R1:=hid (show Whole (w.alloc (.cells #[.int .i64 0,.string ⟨#[]⟩,.slice none 0 0,.slice none 0 0,.slice none 0 0] 65)) w.heap.size 65 [.int .i64 0,.string ⟨#[]⟩,.slice none 0 0,.slice none 0 0,.slice none 0 0] from Whole.new w _ _);clear hv h hs;by_cases hm:l.length=0
 ·rw[if_pos hm] at O ⊢;clear hm;go_enter Tryz.func326,Tryz.ntmps326;go_wp2_with fail;refine(O.out _ F1).mono ?_;rintro e w1 ⟨rfl,f1⟩;have F2:=F1.trans f1;have R2:=hid (R1.out.fr f1 (by simp));obtain⟨a0,a1,a2,a3,a4⟩:=five R2.out;obtain⟨b0,b2,b3,b4,b5⟩:=z12 R2.out;go_wp2;refine bodyPost_ret (v:=.agg #[.int .i64 0,.string ⟨#[]⟩,.slice none 0 0,.slice none 0 0,.slice none 0 0]) (by simp[results,Tryz.results326,go_sem,a0,a1,a2,a3,a4]) rfl ?_;refine⟨rfl,z42 F2 (Nat.le_refl _) _ _ _ _ _⟩
 ·rw[if_neg hm] at O ⊢;clear hm;go_enter Tryz.func326,Tryz.ntmps326;go_wp2_with fail;refine(O.out _ F1).mono ?_;rintro e w1 ⟨rfl,f1⟩;have F2:=F1.trans f1;have R2:=hid (R1.out.fr f1 (by simp));obtain⟨a0,a1,a2,a3,a4⟩:=five R2.out;obtain⟨b0,b2,b3,b4,b5⟩:=z12 R2.out;go_wp2;refine bodyPost_ret (v:=.agg #[.int .i64 5,.string ⟨#[]⟩,.slice none 0 0,.slice none 0 0,.slice A l.length c]) (by simp[results,Tryz.results326,go_sem,a0,a1,a2,a3,a4]) rfl ?_;refine⟨rfl,z42 F2 (Nat.le_refl _) _ _ _ _ _⟩
def OwnI5(base:Nat)(x:Itm)(w:World)(e:Ending)(w':World):Prop:=∃u,e=.returned u∧z0q w' base u x∧Fr [] w w'
theorem zcs(l:List (Int×ByteArray))(base:Nat)(v:Value)(w:World)(hl:l.length≤1000000)(ht:∀s∈l,(-9223372036854775808≤s.1∧s.1≤9223372036854775807)∧s.2.size≤281474976710656)(h:w.ownsRow base 113 2 v l.length (z07 l)):
  Calls prog 326 #[v] w (OwnI5 base (ofC l) w):=by
 obtain⟨A,c,rfl,-⟩:=z05 h;refine(zkh l A c w w.heap.size (zbr hl ht) (Nat.le_refl _) (z0s h)).mono ?_;rintro e w' ⟨rfl,hf⟩;unfold ofC;by_cases h0:l.length=0
 ·rw[if_pos h0,if_pos h0];exact⟨_,rfl,z0q.nothing _ _,hf⟩
 ·rw[if_neg h0,if_neg h0];exact⟨_,rfl,⟨_,_,_,rfl,⟨rfl,.inl ⟨rfl,rfl⟩⟩,⟨rfl,.inl ⟨rfl,rfl⟩⟩,z0p h hf (by simp)⟩,hf⟩
theorem zna(x:Int×ByteArray)(m:ByteArray)(g:Nat)(w:World)(hg:w.cell? ⟨g,0,none⟩=some (.string m)):
  Calls prog 353 (#[.agg #[.int .i64 x.1,.string x.2]]++#[.pointer (some ⟨g,0,none⟩)]) w fun e w'=>e=.returned (.bool (decide (x.2=m)))∧Fr [] w w':=by
 have E:=hid (eqB x.2 m);have F1:Fr [] w (w.alloc (.cells #[.int .i64 x.1,.string x.2] 113)):=(Fr.refl [] w).alloc _;have hg1:(w.alloc (.cells #[.int .i64 x.1,.string x.2] 113)).cell? ⟨g,0,none⟩=some (.string m):=F1.cell hg (by simp);have V1:=hid (Whole.new w 113 [.int .i64 x.1,.string x.2]);have c1:(w.alloc (.cells #[.int .i64 x.1,.string x.2] 113)).cell? ⟨w.heap.size,1,none⟩=some (.string x.2):=V1.out.cell 1;clear hg;go_enter Tryz.func353,Tryz.ntmps353;go_wp2;go_ret;exact⟨by rw[←E.out];rfl,F1⟩
theorem zkm(m:ByteArray)(g D:Nat)(w:World)(h:w.cell? ⟨g,0,none⟩=some (.string m))(hg:g < D):zo3 353 #[.pointer (some ⟨g,0,none⟩)] (fun q=>decide (q.2=m)) D w:=
 fun W x hW=>zna x m g W (z4q hW h hg (by simp))
theorem zj3(l:List (Int×ByteArray))(m:ByteArray)(A:Option Addr)(c B:Nat)(w:World)(hl:l.length≤281474976710656)(hB:B≤w.heap.size)(h:Sl w B 2 (.slice A l.length c) l.length (z07 l)):
  Calls prog 322 #[.slice A l.length c,.string m] w fun e w'=>e=.returned (.int .i64 (z34 (fun q:Int×ByteArray=>decide (q.2=m)) l))∧Fr [] w w':=by
 have F1:=hid ((Fr.refl [] w).alloc (.cells #[.string m] 9));have hsz:(w.alloc (.cells #[.string m] 9)).heap.size=w.heap.size+1:=by simp
 have hp:zo3 353 #[.pointer (some ⟨w.heap.size,0,none⟩)] (fun q=>decide (q.2=m)) (w.heap.size+1) (w.alloc (.cells #[.string m] 9)):=zkm m w.heap.size _ _ ((Whole.new w 9 [.string m]).cell 0) (by omega);have I:=hid (zlz 353 #[.pointer (some ⟨w.heap.size,0,none⟩)] (z1t Tryz.func353 (by kernel_rfl) rfl) _ _ l A c B _ hp hl (by omega) (h.fr F1.out hB (by simp)));clear hp h hsz;go_enter Tryz.func322,Tryz.ntmps322;go_wp2_with fail;refine I.out.mono ?_;rintro e w1 ⟨rfl,h1⟩;go_wp2;go_ret;exact⟨rfl,F1.out.trans h1⟩
theorem zfu(l:List (Int×ByteArray))(A:Option Addr)(c:Nat)(w:World)(B:Nat)(hl:l.length≤281474976710656)(hB:B≤w.heap.size)(h:Sl w B 2 (.slice A l.length c) l.length (z07 l)):
  Calls prog 321 #[.slice A l.length c] w fun e w'=>e=.returned (.int .i64 (z3z l))∧Fr [] w w':=by
 have HS:=hid h;have E:=hid (show z3z l=if l.length=0 then 1 else zc1 l from rfl);clear h;by_cases h0:l.length=0
 ·have E1:=hid (E.out.trans (if_pos h0));have q0:((l.length:Int)==0)=true:=by simp[h0]
  clear E h0;go_enter Tryz.func321,Tryz.ntmps321;go_wp2;go_ret;rw[E1.out];exact⟨rfl,Fr.refl _ _⟩
 ·have E1:=hid (E.out.trans (if_neg h0));have q0:((l.length:Int)==0)=false:=beq_eq_false_iff_ne.2 (by omega);clear E;go_enter Tryz.func321,Tryz.ntmps321;go_wp2;go_loopg [10] l.length (fun g i wr=>∃(k:Nat),g=l.length - k∧k≤l.length∧i=.int .i64 k∧Hid (zc1 l=zc1 (l.drop k))∧Fr [] w wr)
  case atStart=>exact⟨0,rfl,Nat.zero_le _,rfl,hid rfl,Fr.refl _ _⟩
  case round=>
   obtain⟨k,rfl,hk,rfl,HE,hf⟩:=hrel;have HF:=hid hf;clear hf;by_cases hlt:k < l.length
   ·obtain⟨b,off,rfl,hb,hc,hm,hcell⟩:=HS.out.at_ (by omega);obtain⟨s,hs⟩:∃s,l[k]? = some s:=⟨_,List.getElem?_eq_getElem hlt⟩;have hc1:wr.cell? ⟨b,off+2 * k,none⟩=some (.int .i64 s.1):=HF.out.cell (hcell _ _ (z0a l k s hs).1) (by simp);have hc2:wr.cell? ⟨b,off+2 * k+1,none⟩=some (.string s.2):=HF.out.cell (hcell _ _ (z0a l k s hs).2) (by simp);rw[Nat.mul_comm 2 k] at hc1 hc2;have ST:=hid (HE.out.trans (zoc hs));have II:=hid (fun W=>z6j s.1 W);have LO:=hid (fun W=>z2r s.2 W);clear hcell hs;by_cases h1:z0i s.1=true
    ·have ST2:=hid (ST.out.trans (if_neg (by rw[h1];decide)));rw[h1] at II;by_cases h2:60 < s.2.size
     ·have E2:=hid (E1.out.trans (ST2.out.trans (if_pos h2)));rw[decide_eq_true h2] at LO;clear h1 h2 ST ST2;go_wp2_with fail;refine(II.out _).mono ?_;rintro e w1 ⟨rfl,rfl⟩;go_wp2_with fail;refine(LO.out _).mono ?_;rintro e w1 ⟨rfl,rfl⟩;go_wp2;go_ret;rw[E2.out];exact⟨rfl,HF.out.alloc _⟩
     ·have ST3:=hid (ST2.out.trans (if_neg h2));rw[decide_eq_false h2] at LO;clear h1 h2 ST ST2;go_wp2_with fail;refine(II.out _).mono ?_;rintro e w1 ⟨rfl,rfl⟩;go_wp2_with fail;refine(LO.out _).mono ?_;rintro e w1 ⟨rfl,rfl⟩;go_wp2;go_roundg (l.length - (k+1))
      case measure=>omega
      case rel=>exact⟨k+1,rfl,by omega,by go_num,ST3,HF.out.alloc _⟩
    ·have h1':z0i s.1=false:=by simpa using h1
     have E2:=hid (E1.out.trans (ST.out.trans (if_pos h1')));rw[h1'] at II;clear h1 h1' ST;go_wp2_with fail;refine(II.out _).mono ?_;rintro e w1 ⟨rfl,rfl⟩;go_wp2;go_ret;rw[E2.out];exact⟨rfl,HF.out.alloc _⟩
   ·have E2:=hid (E1.out.trans (HE.out.trans (zp2 (by omega))));go_wp2;go_ret;rw[E2.out];exact⟨rfl,HF.out⟩
theorem zpr(x:Int×ByteArray)(l:List ByteArray)(A:Option Addr)(c g B:Nat)(w:World)(hl:l.length≤281474976710656)(hB:B≤w.heap.size)(h:Sl w B 1 (.slice A l.length c) l.length (z04 l))(hg:w.cell? ⟨g,0,none⟩=some (.slice A l.length c)):
  Calls prog 328 (#[.agg #[.int .i64 x.1,.string x.2]]++#[.pointer (some ⟨g,0,none⟩)]) w fun e w'=>e=.returned (.bool (l.any fun y=>decide (y=x.2)))∧Fr [] w w':=by
 have F1:Fr [] w (w.alloc (.cells #[.int .i64 x.1,.string x.2] 113)):=(Fr.refl [] w).alloc _;have V1:=hid (show Whole (w.alloc (.cells #[.int .i64 x.1,.string x.2] 113)) w.heap.size 113 [.int .i64 x.1,.string x.2] from Whole.new w _ _);have CT:=hid (fun W (hf:Fr [] w W)=>z72 l x.2 A c B W hl (Nat.le_trans hB hf.size) (h.fr hf hB (by simp)));have hgl:g < w.heap.size:=World.block_lt_of_cell? w _ hg;have hg1:(w.alloc (.cells #[.int .i64 x.1,.string x.2] 113)).cell? ⟨g,0,none⟩=some (.slice A l.length c):=F1.cell hg (by simp);have c1:(w.alloc (.cells #[.int .i64 x.1,.string x.2] 113)).cell? ⟨w.heap.size,1,none⟩=some (.string x.2):=V1.out.cell 1;generalize (l.any fun y=>decide (y=x.2))=b at *;clear h hg;go_enter Tryz.func328,Tryz.ntmps328;go_wp2_with fail;refine(CT.out _ F1).mono ?_;rintro e w1 ⟨rfl,rfl⟩;go_wp2;go_ret;exact⟨rfl,F1⟩
theorem zoo(l:List ByteArray)(A:Option Addr)(c g D:Nat)(w:World)(hl:l.length≤281474976710656)(hD:D≤w.heap.size)(h:Sl w D 1 (.slice A l.length c) l.length (z04 l))(hc:w.cell? ⟨g,0,none⟩=some (.slice A l.length c))(hg:g < D):
  zo3 328 #[.pointer (some ⟨g,0,none⟩)] (fun x=>l.any fun y=>decide (y=x.2)) D w:=
 fun W x hW=>zpr x l A c g D W hl (Nat.le_trans hD hW.size) (zs2 h hW (Nat.le_refl _)) (z4q hW hc hg (by simp))
theorem z7j(l:List (Int×ByteArray))(p:Int×ByteArray)(i:Nat):z10 (z07 l) [.int .i64 p.1,.string p.2] (i * 2)=z07 (l.take i++p :: l.drop i):=by
 have h:z07 l=z07 (l.take i)++z07 (l.drop i):=by rw[←z39,List.take_append_drop]
 have hd:(z07 l).drop (i * 2)=z07 (l.drop i):=by
  have e:=List.take_append_drop (i * 2) (z07 l);rw[z3l] at e;exact List.append_cancel_left (e.trans h)
 unfold z10;rw[z3l,hd,show p :: l.drop i=[p]++l.drop i from rfl,z39,z39];simp[z07]
theorem zcz(l:List (Int×ByteArray))(i:Nat):(z07 l).take (i * 2)++(z07 l).drop ((i+1) * 2)=z07 (l.take i++l.drop (i+1)):=by
 have h:z07 l=z07 (l.take (i+1))++z07 (l.drop (i+1)):=by rw[←z39,List.take_append_drop]
 have hd:(z07 l).drop ((i+1) * 2)=z07 (l.drop (i+1)):=by
  have e:=List.take_append_drop ((i+1) * 2) (z07 l);rw[z3l] at e;exact List.append_cancel_left (e.trans h)
 rw[z3l,hd,z39]
theorem zgx(x:Itm)(v:Value)(l:List (Int×ByteArray))(Al:Option Addr)(cl:Nat)(w:World)(B:Nat)(hs:x.Small)(hB:B≤w.heap.size)(h:z0r w B v x)(hl:(24+l.length) * 24≤140737488355328)(hL:Sl w B 2 (.slice Al l.length cl) l.length (z07 l)):
  Calls prog 263 #[v,.slice Al l.length cl] w (z4d (zep x l) (zbv x l) (z9q x l) w):=by
 have RD:=hid (fun W (hf:Fr [] w W)=>z68 x v W B hs (Nat.le_trans hB hf.size) (h.fr hf hB (by simp)));have SM:=hid (fun W (hf:Fr [] w W)=>zfu l Al cl W B (by omega) (Nat.le_trans hB hf.size) (hL.fr hf hB (by simp)));have HL:=hid hL;obtain⟨A1,c1,A2,c2,A3,c3,rfl,h1,h2,h3⟩:=h;have H3:=hid h3;have D0:=hid (BO.new w (.int .i64 x.kind) (.string x.text) (.slice A1 x.list.length c1) (.slice A2 x.pairs.length c2) (.slice A3 x.scores.length c3));obtain⟨d0,d1,d2,d3,d4⟩:=five D0.out.b;have EC:=hid (show zbv x l=if zln x l≠0 then zln x l else if 24 < (zdf x l).length then 2 else 0 from rfl);have EP:=hid (show zln x l=if z02 5 x≠0 then z02 5 x else z3z l from rfl);have EY:=hid (show z9q x l=if zbv x l=0 then ofC (zdf x l) else z2p 0 from rfl);have EK:=hid (show zep x l=if zbv x l=0 then ((zdf x l).length:Int) - x.scores.length else 0 from rfl);clear h1 h2 h3 hs hL
 have no0:∀c:Int,c≠0→zbv x l=c→z9q x l=z2p 0∧zep x l=0:=fun c hc he=>by
  have h0:zbv x l≠0:=by rw[he];exact hc
  exact⟨by rw[EY.out,if_neg h0],by rw[EK.out,if_neg h0]⟩
 have NO:=hid no0;clear no0;by_cases ha:z02 5 x=0
 ·rw[ha] at RD;by_cases hb:z3z l=0
  ·have NL:=hid (zb2 hb).2;have OK0:=hid (z2v ha);have hx24:=OK0.out.2;have hp:zln x l=0:=by rw[EP.out,if_neg (by simpa using ha)];exact hb
   rw[hb] at SM;have CL:=hid (fun W (hW:Fr [] w W)=>zb5 x.scores.length (z07 x.scores) A3 c3 W B (by omega) (Nat.le_trans hB hW.size) (H3.out.fr hW hB (by simp)) (z4z _));have E0:=hid (show zbv x l=if 24 < (zdf x l).length then 2 else 0 from by rw[EC.out,if_neg (by simpa using hp)]);clear ha hb hp EC EP;go_enter Tryz.func263,Tryz.ntmps263;go_wp2_with fail;refine(RD.out _ D0.out.f).mono ?_;rintro e w1 ⟨rfl,f1⟩;have D1:=hid (D0.out.go f1);clear d0 d1 d2 d3 d4;go_wp2_with fail;refine(SM.out _ D1.out.f).mono ?_;rintro e w2 ⟨rfl,f2⟩;have D2:=hid (D1.out.go f2);have hz2:=D2.out.lt;obtain⟨d0,d1,d2,d3,d4⟩:=five D2.out.b;go_wp2_with fail;refine(CL.out _ D2.out.f).mono ?_;rintro e w3 ⟨u,rfl,ho,f3⟩;have D3:=hid (D2.out.go f3);have HO3:=hid (z16 ho (show w.heap.size+2≤w2.heap.size by omega));clear d0 d1 d2 d3 d4 ho SM RD CL;go_wp2;go_loopg [8,29] l.length (fun g o i wr=>∃(k:Nat) (cur:List (Int×ByteArray)),g=l.length - k∧k≤l.length∧i=.int .i64 k∧Hid (cur=(l.take k).foldl zgw x.scores)∧wr.ownsRow (w.heap.size+2) 113 2 o cur.length (z07 cur)∧BO w 1 [.int .i64 x.kind,.string x.text,.slice A1 x.list.length c1,.slice A2 x.pairs.length c2,.slice A3 x.scores.length c3] wr)
   case atStart=>exact⟨0,x.scores,rfl,Nat.zero_le _,rfl,hid rfl,HO3.out,D3.out⟩
   case round=>
    obtain⟨k,cur,rfl,hk,rfl,hcur,hO,hD⟩:=hrel;have D4:=hid hD;have HO4:=hid hO;have OKC:=hid (show z8i cur from by rw[hcur.out];exact z8i.fold _ OK0.out.1 (fun s hs=>NL.out s (List.mem_of_mem_take hs)))
    have hcl:cur.length≤24+k:=by
     have:=zi6 (l.take k) x.scores;rw[←hcur.out,List.length_take] at this;omega
    obtain⟨A,c,rfl,hA,hc1,hc2⟩:=z05 hO;have hz4:=D4.out.lt;clear hO hD hA;by_cases hlt:k < l.length
    ·obtain⟨b,off,rfl,hb,hlc,hlm,hcell⟩:=HL.out.at_ (by omega);obtain⟨p,hp⟩:∃p,l[k]? = some p:=⟨_,List.getElem?_eq_getElem hlt⟩;have x1:wr.cell? ⟨b,off+2 * k,none⟩=some (.int .i64 p.1):=D4.out.f.cell (hcell _ _ (z0a l k p hp).1) (by simp);have x2:wr.cell? ⟨b,off+2 * k+1,none⟩=some (.string p.2):=D4.out.f.cell (hcell _ _ (z0a l k p hp).2) (by simp);rw[Nat.mul_comm 2 k] at x1 x2;have F1:=hid ((Fr.refl [] wr).alloc (.cells #[.int .i64 p.1,.string p.2] 113));have V1:=hid (Whole.new wr 113 [.int .i64 p.1,.string p.2]);have PL:=hid (fun W (hW:Fr [] wr W)=>zj3 cur p.2 A c wr.heap.size W (by omega) hW.size ((z0s HO4.out).fr hW (Nat.le_refl _) (by simp)));have HPS:=hid (NL.out p (List.mem_of_getElem? hp));have HNX:=hid (show zgw cur p=(l.take (k+1)).foldl zgw x.scores from by rw[List.take_add_one,hp,Option.toList_some,List.foldl_append,←hcur.out];rfl);unfold maxLen at hc2 hlm;clear hcell hp hcur;rcases zdh p.2 cur with⟨e1,hno⟩|⟨i0,s',e1,hi,hm,-⟩
     ·rw[e1] at PL;have EO:=hid (zv4 hno);clear e1 hno;go_wp2_with fail;refine(PL.out _ F1.out).mono ?_;rintro e w5 ⟨rfl,f5⟩;have F5:=hid (F1.out.trans f5);have HO5:=hid (z0p HO4.out F5.out (by simp));have V5:=hid (V1.out.fr f5 (by simp));have D5:=hid (D4.out.go F5.out);have hz5:wr.heap.size < w5.heap.size:=V5.out.lt;clear f5;have OKX:=hid (show z8i (cur) from by rw[←EO.out];exact OKC.out.off p.2);have NOX:=hid (show ∀q∈cur,q.2≠p.2 from by rw[←EO.out];exact zro cur p.2);have hcu:(cur).length≤cur.length:=by have:=zgv cur p.2;rw[EO.out] at this;exact this
      have HP:=hid (show zgw cur p=(cur).take (z7d (cur) p)++p :: (cur).drop (z7d (cur) p) from by unfold zgw zt2;rw[EO.out]);have hlow:=zgn (cur) p;have v1:w5.cell? ⟨wr.heap.size,0,none⟩=some (.int .i64 p.1):=V5.out.cell 0;have v2:w5.cell? ⟨wr.heap.size,1,none⟩=some (.string p.2):=V5.out.cell 1;have BS:=hid (zmo (cur) p.1 p.2 A c w5.heap.size w5 OKX.out.rise (fun q hq=>(OKX.out.ok q hq).1) HPS.out.1 (by omega) (Nat.le_refl _) (z0s HO5.out));rw[show((p.1,p.2):Int×ByteArray)=p from rfl] at BS;generalize zx4 (cur) p=hb at *;go_wp2_with fail;refine BS.out.mono ?_;rintro e w7 ⟨rfl,f7⟩;have V7:=hid (V5.out.fr f7 (by simp));clear v1 v2;have v1:w7.cell? ⟨wr.heap.size,0,none⟩=some (.int .i64 p.1):=V7.out.cell 0;have v2:w7.cell? ⟨wr.heap.size,1,none⟩=some (.string p.2):=V7.out.cell 1;have F8:=hid ((show Fr [] w5 w7 from f7).alloc (.cells #[.int .i64 p.1,.string p.2] 113));have V8:=hid (Whole.new w7 113 [.int .i64 p.1,.string p.2]);have HO8:=hid (z0p HO5.out F8.out (by simp));have D8:=hid (D5.out.go F8.out);have hz8:=D8.out.lt
      have IN:=hid (zld (cur).length (z7d (cur) p) (z07 (cur)) [.int .i64 p.1,.string p.2] (w.heap.size+2) w7.heap.size (.slice A (cur).length c) _ (by omega) hlow HO8.out (z4z _) (by intro u hu;simp at hu;rcases hu with rfl|rfl <;> rfl) rfl V8.out (by
       intro e;have h1:=(HO5.out.lt _ e).2;have h2:=f7.size;omega) (by omega))
      generalize z7d (cur) p=i at *;clear f7 x1 x2;go_wp2_with fail;refine IN.out.mono ?_;rintro e w9 ⟨u9,rfl,ho9,hg9,-⟩;have D9:=hid (D8.out.step (z3p hg9) (fun g hg=>by have:=z1f HO8.out hg;omega));rw[z7j,←HP.out] at ho9
      have hl9:(zgw cur p).length=(cur).length+1:=by
       rw[HP.out,List.length_append,List.length_cons,List.length_take,List.length_drop];omega
      rw[←hl9] at ho9;have HO9:=hid ho9;clear ho9 hg9;go_wp2;go_roundg (l.length - (k+1))
      case measure=>omega
      case rel=>exact⟨k+1,zgw cur p,rfl,by omega,by go_num,HNX.out,HO9.out,D9.out⟩
     ·rw[e1] at PL;have hil:=(List.getElem?_eq_some_iff.1 hi).1;have EO:=hid (ztp OKC.out.dist hi hm);clear e1 hm hi;go_wp2_with fail;refine(PL.out _ F1.out).mono ?_;rintro e w5 ⟨rfl,f5⟩;have F5:=hid (F1.out.trans f5);have HO5:=hid (z0p HO4.out F5.out (by simp));have V5:=hid (V1.out.fr f5 (by simp));have D5:=hid (D4.out.go F5.out);have hz5:wr.heap.size < w5.heap.size:=V5.out.lt
      have DE:=hid (show Calls prog 323 #[.slice A cur.length c,.int .i64 (i0:Int),.int .i64 ((i0:Int)+1)] w5 (zlf (cur.take i0++cur.drop (i0+1)).length (z07 (cur.take i0++cur.drop (i0+1))) (w.heap.size+2) (.slice A cur.length c) w5) from by
       have:=zun cur.length i0 (i0+1) (z07 cur) (w.heap.size+2) (.slice A cur.length c) w5 (by omega) (by omega) (by omega) HO5.out (z4z _);rw[zcz,show(((i0+1:Nat)):Int)=(i0:Int)+1 from by omega] at this;rw[show(cur.take i0++cur.drop (i0+1)).length=i0+(cur.length - (i0+1)) from by rw[List.length_append,List.length_take,List.length_drop];omega];exact this)
      generalize cur.take i0++cur.drop (i0+1)=cu at *;clear f5 PL;go_wp2_with fail;refine DE.out.mono ?_;rintro e w6 ⟨u6,rfl,ho6,hg6,hb6⟩
      have V6:=hid (V5.out.grown hg6 (by
       intro e;have:=HO4.out.lt wr.heap.size e.symm;omega))
      have D6:=hid (D5.out.step (z3p hg6) (fun g hg=>by have:=z1f HO5.out hg;omega));have hs6:=hg6.size;have HO6:=hid ho6;obtain⟨A6,c6,rfl,-,hc6,hm6⟩:=z05 ho6;unfold maxLen at hm6;have hz6:w5.heap.size≤w6.heap.size:=hs6;clear ho6 hg6 hb6 DE hs6;have OKX:=hid (show z8i (cu) from by rw[←EO.out];exact OKC.out.off p.2);have NOX:=hid (show ∀q∈cu,q.2≠p.2 from by rw[←EO.out];exact zro cur p.2);have hcu:(cu).length≤cur.length:=by have:=zgv cur p.2;rw[EO.out] at this;exact this
      have HP:=hid (show zgw cur p=(cu).take (z7d (cu) p)++p :: (cu).drop (z7d (cu) p) from by unfold zgw zt2;rw[EO.out]);have hlow:=zgn (cu) p;have v1:w6.cell? ⟨wr.heap.size,0,none⟩=some (.int .i64 p.1):=V6.out.cell 0;have v2:w6.cell? ⟨wr.heap.size,1,none⟩=some (.string p.2):=V6.out.cell 1;have BS:=hid (zmo (cu) p.1 p.2 A6 c6 w6.heap.size w6 OKX.out.rise (fun q hq=>(OKX.out.ok q hq).1) HPS.out.1 (by omega) (Nat.le_refl _) (z0s HO6.out));rw[show((p.1,p.2):Int×ByteArray)=p from rfl] at BS;generalize zx4 (cu) p=hb at *;go_wp2_with fail;refine BS.out.mono ?_;rintro e w7 ⟨rfl,f7⟩;have V7:=hid (V6.out.fr f7 (by simp));clear v1 v2;have v1:w7.cell? ⟨wr.heap.size,0,none⟩=some (.int .i64 p.1):=V7.out.cell 0;have v2:w7.cell? ⟨wr.heap.size,1,none⟩=some (.string p.2):=V7.out.cell 1;have F8:=hid ((show Fr [] w6 w7 from f7).alloc (.cells #[.int .i64 p.1,.string p.2] 113));have V8:=hid (Whole.new w7 113 [.int .i64 p.1,.string p.2]);have HO8:=hid (z0p HO6.out F8.out (by simp));have D8:=hid (D6.out.go F8.out);have hz8:=D8.out.lt
      have IN:=hid (zld (cu).length (z7d (cu) p) (z07 (cu)) [.int .i64 p.1,.string p.2] (w.heap.size+2) w7.heap.size (.slice A6 (cu).length c6) _ (by omega) hlow HO8.out (z4z _) (by intro u hu;simp at hu;rcases hu with rfl|rfl <;> rfl) rfl V8.out (by
       intro e;have h1:=(HO6.out.lt _ e).2;have h2:=f7.size;omega) (by omega))
      generalize z7d (cu) p=i at *;clear f7 x1 x2;go_wp2_with fail;refine IN.out.mono ?_;rintro e w9 ⟨u9,rfl,ho9,hg9,-⟩;have D9:=hid (D8.out.step (z3p hg9) (fun g hg=>by have:=z1f HO8.out hg;omega));rw[z7j,←HP.out] at ho9
      have hl9:(zgw cur p).length=(cu).length+1:=by
       rw[HP.out,List.length_append,List.length_cons,List.length_take,List.length_drop];omega
      rw[←hl9] at ho9;have HO9:=hid ho9;clear ho9 hg9;go_wp2;go_roundg (l.length - (k+1))
      case measure=>omega
      case rel=>exact⟨k+1,zgw cur p,rfl,by omega,by go_num,HNX.out,HO9.out,D9.out⟩
    ·obtain rfl:k=l.length:=by omega
     have hcur2:zdf x l=cur:=by have:=hcur.out;rw[List.take_length] at this;exact this.symm
     rw[hcur2] at E0 EY EK;clear hcur hcur2;unfold maxLen at hc2;by_cases h24:24 < cur.length
     ·have E:=hid (show zbv x l=2 from by rw[E0.out,if_pos h24]);obtain⟨e1,e2⟩:=NO.out 2 (by decide) E.out;have q24:(cur.length:Int) > 24:=by omega
      have E1:=hid e1;have E2:=hid e2;clear e1 e2 E0 EY EK NO h24 hlt;obtain⟨a0,a1,a2,a3,a4⟩:=five D4.out.o;obtain⟨b0,b2,b3,b4,b5⟩:=z12 D4.out.o;go_wp2;refine bodyPost_ret (v:=.tuple #[.agg #[.int .i64 0,.string ⟨#[]⟩,.slice none 0 0,.slice none 0 0,.slice none 0 0],.int .i64 0,.int .i64 2]) (by simp[results,Tryz.results263,go_sem,a0,a1,a2,a3,a4]) rfl ?_;rw[E1.out,E2.out,E.out];exact⟨_,rfl,z0q.nothing _ _,D4.out.end5 _ _ _ _ _⟩
     ·have E:=hid (show zbv x l=0 from by rw[E0.out,if_neg h24]);have E1:=hid (EY.out.trans (if_pos E.out));have E2:=hid (EK.out.trans (if_pos E.out));have q24:¬(cur.length:Int) > 24:=by omega
      have OF:=hid (fun W base u hu=>zcs cur base u W (by omega) OKC.out.small hu);have HW:=hid (show IntKind.i64.wrap ((cur.length:Int) - (x.scores.length:Int))=(cur.length:Int) - x.scores.length from IntWalk.i64_in _ (by omega));clear E0 EY EK NO hlt NL hcl;obtain⟨d0,d1,d2,d3,d4⟩:=five D4.out.b;generalize ofC cur=y at *;generalize z9q x l=y0 at *;generalize zep x l=n0 at *;generalize zbv x l=c0 at *;have hne1:¬w.heap.size=w.heap.size+1:=by omega
      have hne2:¬w.heap.size+1=w.heap.size:=by omega
      go_wp2;go_region_held3 (fun wx=>wx.cell? ⟨w.heap.size,4,none⟩=some (.slice A3 x.scores.length c3)) (go_keep) (first|(go_at_call 326;(refine(OF.out _ _ _ (show wr.drew.ownsRow _ _ _ _ _ _ from HO4.out)).mono ?_);rintro e w5 ⟨u5,rfl,hi,f5⟩;have D5:=hid (D4.out.go (z01 f5));clear d0 d1 d2 d3 d4 f5;obtain⟨d0,d1,d2,d3,d4⟩:=five D5.out.b;have HI:=hid hi;obtain⟨P1,p1,P2,p2,P3,p3,rfl⟩:=hi.form;clear hi;obtain⟨a0,a1,a2,a3,a4⟩:=five D5.out.o;obtain⟨b0,b2,b3,b4,b5⟩:=z12 D5.out.o))
      go_wp2;refine bodyPost_ret (v:=.tuple #[.agg #[.int .i64 y.kind,.string y.text,.slice P1 y.list.length p1,.slice P2 y.pairs.length p2,.slice P3 y.scores.length p3],.int .i64 (IntKind.i64.wrap ((cur.length:Int) - (x.scores.length:Int))),.int .i64 0]) (by simp[results,Tryz.results263,go_sem,a0,a1,a2,a3,a4]) rfl ?_;rw[E1.out,E2.out,E.out];exact⟨_,by rw[HW.out],(z1n HI.out (by omega) _ _ _ _ _).less (by omega),D5.out.end5 _ _ _ _ _⟩
  ·have E:=hid (show zbv x l=z3z l from by
    have hp:zln x l=z3z l:=by rw[EP.out,if_neg (by simpa using ha)]
    rw[EC.out,hp,if_pos hb])
   obtain⟨e1,e2⟩:=NO.out _ hb E.out;rw[e1,e2,E.out];have q:(z3z l != 0)=true:=by simpa using hb
   clear e1 e2 EC EP EY EK ha hb NO E;generalize z3z l=r at *;go_enter Tryz.func263,Tryz.ntmps263;go_wp2_with fail;refine(RD.out _ D0.out.f).mono ?_;rintro e w1 ⟨rfl,f1⟩;have D1:=hid (D0.out.go f1);clear d0 d1 d2 d3 d4;go_wp2_with fail;refine(SM.out _ D1.out.f).mono ?_;rintro e w2 ⟨rfl,f2⟩;have D2:=hid (D1.out.go f2);obtain⟨a0,a1,a2,a3,a4⟩:=five D2.out.o;obtain⟨b0,b2,b3,b4,b5⟩:=z12 D2.out.o;go_wp2;refine bodyPost_ret (v:=.tuple #[.agg #[.int .i64 0,.string ⟨#[]⟩,.slice none 0 0,.slice none 0 0,.slice none 0 0],.int .i64 0,.int .i64 r]) (by simp[results,Tryz.results263,go_sem,a0,a1,a2,a3,a4]) rfl ?_;exact⟨_,rfl,z0q.nothing _ _,D2.out.end5 _ _ _ _ _⟩
 ·have hp:zln x l=z02 5 x:=by rw[EP.out,if_pos ha]
  have E:=hid (show zbv x l=z02 5 x from by rw[EC.out,hp,if_pos ha]);obtain⟨e1,e2⟩:=NO.out _ ha E.out;rw[e1,e2,E.out];have q:(z02 5 x != 0)=true:=by simpa using ha
  have q2:(z02 5 x==0)=false:=by simpa using ha
  clear e1 e2 EC EP EY EK hp E ha NO SM;generalize z02 5 x=r at *;go_enter Tryz.func263,Tryz.ntmps263;go_wp2_with fail;refine(RD.out _ D0.out.f).mono ?_;rintro e w1 ⟨rfl,f1⟩;have D1:=hid (D0.out.go f1);clear d0 d1 d2 d3 d4;obtain⟨a0,a1,a2,a3,a4⟩:=five D1.out.o;obtain⟨b0,b2,b3,b4,b5⟩:=z12 D1.out.o;go_wp2;refine bodyPost_ret (v:=.tuple #[.agg #[.int .i64 0,.string ⟨#[]⟩,.slice none 0 0,.slice none 0 0,.slice none 0 0],.int .i64 0,.int .i64 r]) (by simp[results,Tryz.results263,go_sem,a0,a1,a2,a3,a4]) rfl ?_;exact⟨_,rfl,z0q.nothing _ _,D1.out.end5 _ _ _ _ _⟩
theorem zg3(x:Itm)(v:Value)(l:List ByteArray)(A:Option Addr)(c:Nat)(w:World)(B:Nat)(hs:x.Small)(hB:B≤w.heap.size)(h:z0r w B v x)(hl:l.length≤281474976710656)(hL:Sl w B 1 (.slice A l.length c) l.length (z04 l)):
  Calls prog 264 #[v,.slice A l.length c] w (z4d (z95 x l) (z02 5 x) (z6g x l) w):=by
 have RD:=hid (fun W (hf:Fr [] w W)=>z68 x v W B hs (Nat.le_trans hB hf.size) (h.fr hf hB (by simp)));obtain⟨A1,c1,A2,c2,A3,c3,rfl,h1,h2,h3⟩:=h;have H3:=hid h3;have HL:=hid hL;have D0:=hid (BO.newL w (.int .i64 x.kind) (.string x.text) (.slice A1 x.list.length c1) (.slice A2 x.pairs.length c2) (.slice A3 x.scores.length c3) (.slice A l.length c));obtain⟨d0,d1,d2,d3,d4⟩:=five D0.out.b
 have S0:=hid (show(((w.alloc (.cells #[.int .i64 x.kind,.string x.text,.slice A1 x.list.length c1,.slice A2 x.pairs.length c2,.slice A3 x.scores.length c3] 65)).alloc (.cells #[.slice A l.length c] 24)).alloc (.cells #[.int .i64 0,.string ⟨#[]⟩,.slice none 0 0,.slice none 0 0,.slice none 0 0] 65)).cell? ⟨w.heap.size+1,0,none⟩=some (.slice A l.length c) from by
  have:=((Whole.new (w.alloc (.cells #[.int .i64 x.kind,.string x.text,.slice A1 x.list.length c1,.slice A2 x.pairs.length c2,.slice A3 x.scores.length c3] 65)) 24 [.slice A l.length c]).alloc (.cells #[.int .i64 0,.string ⟨#[]⟩,.slice none 0 0,.slice none 0 0,.slice none 0 0] 65)).cell 0;simpa using this)
 have EY:=hid (show z6g x l=if z02 5 x=0 then ofC (z8p x l) else z2p 0 from rfl);have EK:=hid (show z95 x l=if z02 5 x=0 then (x.scores.length:Int) - (z8p x l).length else 0 from rfl);clear h1 h2 h3 hs hL;by_cases ha:z02 5 x=0
 ·have hok:=z1j ha;rw[EY.out,EK.out,if_pos ha,if_pos ha,ha];rw[ha] at RD;have OK0:=zm0 l ha;have h24:=(z2v ha).2;have hrl:(z8p x l).length≤x.scores.length:=List.length_filter_le _ _;have OF:=hid (fun W base u hu=>zcs (z8p x l) base u W (by omega) OK0.1.small hu);have CL:=hid (fun W (hW:Fr [] w W)=>zb5 x.scores.length (z07 x.scores) A3 c3 W B (by omega) (Nat.le_trans hB hW.size) (H3.out.fr hW hB (by simp)) (z4z _));have DF:=hid (fun W base u D (hp:zo3 328 #[.pointer (some ⟨w.heap.size+1,0,none⟩)] (fun x=>l.any fun y=>decide (y=x.2)) D W) hD hu=>(show Calls prog 327 #[u,.func (Fn.func 328) #[] #[.pointer (some ⟨w.heap.size+1,0,none⟩)]] W (zhm (z8p x l) base u W) from zse 328 #[.pointer (some ⟨w.heap.size+1,0,none⟩)] (z1t Tryz.func328 (by kernel_rfl) rfl) (fun x=>l.any fun y=>decide (y=x.2)) D x.scores base u W hp hD (by omega) hu));clear hok OK0 EY EK ha;generalize ofC (z8p x l)=y at *;have HW:=hid (show IntKind.i64.wrap ((x.scores.length:Int) - ((z8p x l).length:Int))=(x.scores.length:Int) - (z8p x l).length from IntWalk.i64_in _ (by omega));generalize z8p x l=r at *;go_enter Tryz.func264,Tryz.ntmps264;go_wp2_with fail;refine(RD.out _ D0.out.f).mono ?_;rintro e w1 ⟨rfl,f1⟩;have D1:=hid (D0.out.go f1);have S1:=hid (f1.cell S0.out (by simp));have hz1:=D1.out.lt;clear d0 d1 d2 d3 d4;obtain⟨d0,d1,d2,d3,d4⟩:=five D1.out.b;go_wp2_with fail;refine(CL.out _ D1.out.f).mono ?_;rintro e w2 ⟨u,rfl,ho,f2⟩;have D2:=hid (D1.out.go f2);have S2:=hid (f2.cell S1.out (by simp));have HO:=hid ho;obtain⟨U,cu,rfl,-⟩:=z05 ho;have hp:=hid (zoo l A c (w.heap.size+1) w1.heap.size w2 hl f2.size (((HL.out.fr D1.out.f hB (by simp)).more (Nat.le_trans hB D1.out.f.size)).fr f2 (Nat.le_refl _) (by simp)) S2.out (by omega));clear d0 d1 d2 d3 d4 ho;obtain⟨d0,d1,d2,d3,d4⟩:=five D2.out.b;go_wp2_with fail;refine(DF.out _ _ _ _ hp.out (Nat.le_refl _) HO.out).mono ?_;rintro e w3 ⟨u3,rfl,ho3,f3,-⟩;have D3:=hid (D2.out.step f3 (fun g hg=>by have:=z1f HO.out hg;omega));have HO3:=hid ho3;obtain⟨U3,cu3,rfl,-⟩:=z05 ho3;clear d0 d1 d2 d3 d4 ho3;obtain⟨d0,d1,d2,d3,d4⟩:=five D3.out.b;have hne1:¬w.heap.size=w.heap.size+1+1:=by omega
  have hne2:¬w.heap.size+1+1=w.heap.size:=by omega
  go_wp2;go_region_held3 (fun wx=>wx.cell? ⟨w.heap.size,4,none⟩=some (.slice A3 x.scores.length c3)) (go_keep) (first|(go_at_call 326;(refine(OF.out _ _ _ (show w3.drew.ownsRow _ _ _ _ _ _ from HO3.out)).mono ?_);rintro e w5 ⟨u5,rfl,hi,f5⟩;have D5:=hid (D3.out.go (z01 f5));clear d0 d1 d2 d3 d4 f5;obtain⟨d0,d1,d2,d3,d4⟩:=five D5.out.b;have HI:=hid hi;obtain⟨P1,p1,P2,p2,P3,p3,rfl⟩:=hi.form;clear hi;have OO:=D5.out.o;rw[show w.heap.size+2=w.heap.size+1+1 from rfl] at OO;obtain⟨a0,a1,a2,a3,a4⟩:=five OO;obtain⟨b0,b2,b3,b4,b5⟩:=z12 OO;clear OO))
  go_wp2;refine bodyPost_ret (v:=.tuple #[.agg #[.int .i64 y.kind,.string y.text,.slice P1 y.list.length p1,.slice P2 y.pairs.length p2,.slice P3 y.scores.length p3],.int .i64 (IntKind.i64.wrap ((x.scores.length:Int) - (r.length:Int))),.int .i64 0]) (by simp[results,Tryz.results264,go_sem,a0,a1,a2,a3,a4]) rfl ?_;exact⟨_,by rw[HW.out],(z1n HI.out (by omega) _ _ _ _ _).less (by omega),D5.out.end5 _ _ _ _ _⟩
 ·rw[EY.out,EK.out,if_neg ha,if_neg ha];have q2:(z02 5 x != 0)=true:=by simpa using ha
  clear EY EK ha;generalize z02 5 x=r at *;go_enter Tryz.func264,Tryz.ntmps264;go_wp2_with fail;refine(RD.out _ D0.out.f).mono ?_;rintro e w1 ⟨rfl,f1⟩;have D1:=hid (D0.out.go f1);clear d0 d1 d2 d3 d4;have OO:=D1.out.o;rw[show w.heap.size+2=w.heap.size+1+1 from rfl] at OO;obtain⟨a0,a1,a2,a3,a4⟩:=five OO;obtain⟨b0,b2,b3,b4,b5⟩:=z12 OO;clear OO;go_wp2;refine bodyPost_ret (v:=.tuple #[.agg #[.int .i64 0,.string ⟨#[]⟩,.slice none 0 0,.slice none 0 0,.slice none 0 0],.int .i64 0,.int .i64 r]) (by simp[results,Tryz.results264,go_sem,a0,a1,a2,a3,a4]) rfl ?_;exact⟨_,rfl,z0q.nothing _ _,D1.out.end5 _ _ _ _ _⟩
section
variable (g B0:Nat) (sv:Value) (now:Int) (lv:Value) (l:List ByteArray) (s:List Ent) (c0:ByteArray) (w:World)
theorem zyl(ok:z1y s)(hn:2≤l.length)(h12:l.length≤11)(hz:∀t∈l,t.size≤60)(h:Dr g B0 sv now lv l s w):
  Calls prog 185 #[.pointer (some ⟨g,0,none⟩),.string ⟨#[115,97,100,100]⟩] w (ChD g B0 B0 sv now lv l (doC .sadd s now (c0 :: l)) w):=by
 have hr:=ok.rise;have hs16:=ok.le;have DI:=zDI hr hs16 h;have LS:=hid (z0b (z09 ok) now (wd l 0)).item;have EP:doC .sadd s now (c0 :: l)=fin s now (wd l 0) (zag (z00 s now (wd l 0)).item (l.drop 1)) (z00 s now (wd l 0)).til true false (ze3 (z00 s now (wd l 0)).item (l.drop 1)) (z0o (ze5 (z00 s now (wd l 0)).item (l.drop 1))):=rfl;have SY:=hid (show(zag (z00 s now (wd l 0)).item (l.drop 1)).Small from zje _ _);have htl:(l.drop 1).length=l.length - 1:=by rw[List.length_drop]
 have OP:=hid (fun W u A c (k:z0r W W.heap.size u (z00 s now (wd l 0)).item) (q:Sl W W.heap.size 1 (.slice A (l.length - 1) c) (l.length - 1) (z04 (l.drop 1)))=>(show Calls prog 253 #[u,.slice A (l.length - 1) c] W (z4d (ze5 (z00 s now (wd l 0)).item (l.drop 1)) (ze3 (z00 s now (wd l 0)).item (l.drop 1)) (zag (z00 s now (wd l 0)).item (l.drop 1)) W) from by
  rw[←htl] at q ⊢;exact znp (z00 s now (wd l 0)).item u (l.drop 1) A c W W.heap.size LS.out (Nat.le_refl _) k (by omega) q))
 clear htl;have CH:=zCH g B0 sv now lv l s w (zag (z00 s now (wd l 0)).item (l.drop 1)) (z0o (ze5 (z00 s now (wd l 0)).item (l.drop 1))) (ze3 (z00 s now (wd l 0)).item (l.drop 1)) ok (by omega) SY;rw[EP];clear EP SY;have H:=hid h;have hlt:=h.lt;have hbz:=h.bz;obtain⟨SA,sc,rfl⟩:=h.sform;obtain⟨LA,lc,rfl⟩:=h.lform;obtain⟨b,off,rfl,hb,hc,hm,hat⟩:=h.word (by omega);have HAT:=hid hat;have DG:=hid (fun W (hW:Fr [] w W)=>(h.go hW).three);unfold maxLen at hm;clear h hr hat ok;generalize fin s now (wd l 0) (zag (z00 s now (wd l 0)).item (l.drop 1)) (z00 s now (wd l 0)).til true false (ze3 (z00 s now (wd l 0)).item (l.drop 1)) (z0o (ze5 (z00 s now (wd l 0)).item (l.drop 1)))=pp at *;generalize zag (z00 s now (wd l 0)).item (l.drop 1)=y at *;generalize ze5 (z00 s now (wd l 0)).item (l.drop 1)=nn at *;generalize ze3 (z00 s now (wd l 0)).item (l.drop 1)=cc at *;generalize (z00 s now (wd l 0)).item=x at *;have sx1:(1:Int)≤(l.length:Int):=by omega
 have sx2:(l.length:Int)≤(lc:Int):=by omega
 have sx3:¬lc=1:=by omega
 have sx4:(1:Int)≤(lc:Int):=by omega
 have SLT:=hid (fun W (hW:Fr [] w W)=>zap ((H.out.go hW).l.more (H.out.go hW).bz) (by omega) sx3);have F0:=zF w;have Q0:=zQ w;obtain⟨d0,d1,d2⟩:=DG.out _ F0.out;have dw:=F0.out.cell (HAT.out 0 (by omega)) (by simp);rw[Nat.add_zero] at dw;go_enter Tryz.func185,Tryz.ntmps185;go_wp2_with fail;refine(DI.out _ F0.out).mono ?_;rintro e1 w1 ⟨xv,rfl,hi,f1⟩;have F1:=hid (F0.out.trans f1);have Q1:=hid (Q0.out.f0 f1);have HI:=hid hi;obtain⟨X1,x1,X2,x2,X3,x3,rfl⟩:=hi.form;have hz1:=f1.size;simp at hz1;clear f1 hi d0 d1 d2 dw;have C1:=zC1 Q1 HI H F1;have C2:=zC2 C1;obtain⟨d0,d1,d2,d3,d4⟩:=five C1.out.b;have d5:=(C1.out.d).three.2.2;obtain⟨h0,h1,h2,h3,h4⟩:=five C2.out.b;have h5:=(C2.out.d).three.2.2;have V2:=zV2 w1 (.cells #[.int .i64 x.kind,.string x.text,.slice X1 x.list.length x1,.slice X2 x.pairs.length x2,.slice X3 x.scores.length x3] 65);have hb1:¬g=w1.heap.size+1:=by have:=C1.out.d.lt;simp at this;omega
 have hb2:¬w1.heap.size+1=g:=by have:=C1.out.d.lt;simp at this;omega
 have hb3:¬b=w1.heap.size+1:=by omega
 have hb4:¬w1.heap.size+1=b:=by omega
 go_upto_region 4 with fail;go_cut [6,7,8] (fun pb pn pe wx=>pn=.int .i64 nn∧pe=.int .i64 cc∧z8u B0 y (w1.alloc (.cells #[.int .i64 x.kind,.string x.text,.slice X1 x.list.length x1,.slice X2 x.pairs.length x2,.slice X3 x.scores.length x3] 65)) pb wx)
 case first=>
  go_region_held3 (fun wx=>wx.cell? ⟨w1.heap.size,0,none⟩=some (.int .i64 x.kind)∧wx.cell? ⟨w1.heap.size,1,none⟩=some (.string x.text)∧wx.cell? ⟨w1.heap.size,2,none⟩=some (.slice X1 x.list.length x1)∧wx.cell? ⟨w1.heap.size,3,none⟩=some (.slice X2 x.pairs.length x2)∧wx.cell? ⟨w1.heap.size,4,none⟩=some (.slice X3 x.scores.length x3)∧wx.cell? ⟨g,2,none⟩=some (.slice (some ⟨b,off,none⟩) l.length lc)) (go_keep) ((first|fail|(go_at_call 253;first|(refine(OP.out _ _ _ _ C1.out.drew.i.item (SLT.out _ C1.out.drew.f)).mono ?_;rintro e3 w3 ⟨yv,rfl,hy,f3⟩;obtain⟨A1,c1,A2,c2,A3,c3,rfl⟩:=hy.form;have C3:=hid (C1.out.go (z01 f3));have F3:=hid (z01 f3);have HY:=hid (hy.less (show B0≤_ from C1.out.d.bz));obtain⟨k0,k1,k2,k3,k4⟩:=five C3.out.b;have k5:=(C3.out.d).three.2.2;clear f3 hy d0 d1 d2 d3 d4 d5 h0 h1 h2 h3 h4 h5)|(refine(OP.out _ _ _ _ C2.out.drew.i.item (SLT.out _ C2.out.drew.f)).mono ?_;rintro e3 w3 ⟨yv,rfl,hy,f3⟩;obtain⟨A1,c1,A2,c2,A3,c3,rfl⟩:=hy.form;have C3:=hid (C2.out.go (z01 f3));have F3:=hid (z2b (z01 f3));have V3:=hid (V2.out.f0 (z01 f3));have y7:=five V3.out;have z7:=z12 V3.out;have HY:=hid (hy.less (show B0≤_ from C2.out.d.bz));obtain⟨k0,k1,k2,k3,k4⟩:=five C3.out.b;have k5:=(C3.out.d).three.2.2;clear f3 hy d0 d1 d2 d3 d4 d5 h0 h1 h2 h3 h4 h5))))
  all_goals
   go_wp2;go_meet
   case rel=>first|with_reducible exact⟨rfl,rfl,z8u.new HY.out F3.out⟩|exact⟨rfl,rfl,z8u.put HY.out F3.out (by simp) V3.out⟩
 clear d0 d1 d2 d3 d4 d5 h0 h1 h2 h3 h4 h5;obtain⟨rfl,rfl,gb,A1,c1,A2,c2,A3,c3,rfl,hgb,hw,hy,hf⟩:=hcut;have HY:=hid hy;have VB:=hid hw;have C4:=hid (C1.out.go hf);have hgz:w.heap.size < gb:=by have:=C1.out.f.size;simp at hgb;have:=C1.out.gx;omega
 clear hw hy hf hgb;obtain⟨m0,m1,m2,m3,m4⟩:=five VB.out;go_upto_region 5 with fail;go_region_held3 (fun wx=>wx.cell? ⟨gb,0,none⟩=some (.int .i64 y.kind)∧wx.cell? ⟨gb,1,none⟩=some (.string y.text)∧wx.cell? ⟨gb,2,none⟩=some (.slice A1 y.list.length c1)∧wx.cell? ⟨gb,3,none⟩=some (.slice A2 y.pairs.length c2)∧wx.cell? ⟨gb,4,none⟩=some (.slice A3 y.scores.length c3)) (go_keep) ((first|(go_at_call 237;refine(z0m _ _).mono ?_;rintro e5 w5 ⟨rfl,f5⟩;have C5:=hid (C4.out.go (z01 f5));have VB5:=hid (VB.out.f0 (z01 f5));have HY5:=hid (HY.out.go (z01 f5));clear f5 m0 m1 m2 m3 m4;obtain⟨m0,m1,m2,m3,m4⟩:=five VB5.out)|(go_at_call 236;refine(CH.out _ _ _ C5.out.d HY5.out (z19.bare _ _ _ _ _)).mono ?_;rintro e6 w6 ⟨u,rfl,hu,f6,hd⟩;obtain⟨R,rc,rfl⟩:=hu.form;have VB6:=hid (VB5.out.fr f6 (fun hm=>by have:=(H.out.low _ hm).2;omega));have Q6:=hid (C5.out.q.fr f6 (fun hm=>by have:=(H.out.low _ hm).2;omega));have HU:=hid hu;have HD:=hid hd;have F6:=hid (C5.out.f.up.trans f6);clear f6 hu hd m0 m1 m2 m3 m4;obtain⟨m0,m1,m2,m3,m4⟩:=five VB6.out;obtain⟨y0,y1,y2,y3⟩:=four Q6.out;obtain⟨z0,z1,z2,z3⟩:=z0h Q6.out;have hgz1:¬gb=w.heap.size:=(by omega);have hgz2:¬w.heap.size=gb:=(by omega))))
 obtain⟨sp,pr⟩:=pp;go_wp2;refine bodyPost_ret (v:=.agg #[.int .i64 pr.kind,.string pr.text,.int .i64 pr.n,.slice R pr.list.length rc]) (by simp[results,Tryz.results185,go_sem,y0,y1,y2,y3]) rfl ?_;exact ChD.fin4 HU.out F6.out Q6.out hbz HD.out
theorem zxg(ok:z1y s)(hn:2≤l.length)(h12:l.length≤11)(hz:∀t∈l,t.size≤60)(h:Dr g B0 sv now lv l s w):
  Calls prog 185 #[.pointer (some ⟨g,0,none⟩),.string ⟨#[115,114,101,109]⟩] w (ChD g B0 B0 sv now lv l (doC .srem s now (c0 :: l)) w):=by
 have hr:=ok.rise;have hs16:=ok.le;have DI:=zDI hr hs16 h;have LS:=hid (z0b (z09 ok) now (wd l 0)).item;have EP:doC .srem s now (c0 :: l)=fin s now (wd l 0) (z6a 3 (z00 s now (wd l 0)).item (l.drop 1)) (z00 s now (wd l 0)).til true false (z02 3 (z00 s now (wd l 0)).item) (z0o (zad 3 (z00 s now (wd l 0)).item (l.drop 1))):=rfl;have SY:=hid (show(z6a 3 (z00 s now (wd l 0)).item (l.drop 1)).Small from zh4 _ _);have htl:(l.drop 1).length=l.length - 1:=by rw[List.length_drop]
 have OP:=hid (fun W u A c (k:z0r W W.heap.size u (z00 s now (wd l 0)).item) (q:Sl W W.heap.size 1 (.slice A (l.length - 1) c) (l.length - 1) (z04 (l.drop 1)))=>(show Calls prog 254 #[u,.slice A (l.length - 1) c] W (z4d (zad 3 (z00 s now (wd l 0)).item (l.drop 1)) (z02 3 (z00 s now (wd l 0)).item) (z6a 3 (z00 s now (wd l 0)).item (l.drop 1)) W) from by
  rw[←htl] at q ⊢;exact zfv (z00 s now (wd l 0)).item u (l.drop 1) A c W W.heap.size LS.out (Nat.le_refl _) k (by omega) q))
 clear htl;have CH:=zCH g B0 sv now lv l s w (z6a 3 (z00 s now (wd l 0)).item (l.drop 1)) (z0o (zad 3 (z00 s now (wd l 0)).item (l.drop 1))) (z02 3 (z00 s now (wd l 0)).item) ok (by omega) SY;rw[EP];clear EP SY;have H:=hid h;have hlt:=h.lt;have hbz:=h.bz;obtain⟨SA,sc,rfl⟩:=h.sform;obtain⟨LA,lc,rfl⟩:=h.lform;obtain⟨b,off,rfl,hb,hc,hm,hat⟩:=h.word (by omega);have HAT:=hid hat;have DG:=hid (fun W (hW:Fr [] w W)=>(h.go hW).three);unfold maxLen at hm;clear h hr hat ok;generalize fin s now (wd l 0) (z6a 3 (z00 s now (wd l 0)).item (l.drop 1)) (z00 s now (wd l 0)).til true false (z02 3 (z00 s now (wd l 0)).item) (z0o (zad 3 (z00 s now (wd l 0)).item (l.drop 1)))=pp at *;generalize z6a 3 (z00 s now (wd l 0)).item (l.drop 1)=y at *;generalize zad 3 (z00 s now (wd l 0)).item (l.drop 1)=nn at *;generalize z02 3 (z00 s now (wd l 0)).item=cc at *;generalize (z00 s now (wd l 0)).item=x at *;have sx1:(1:Int)≤(l.length:Int):=by omega
 have sx2:(l.length:Int)≤(lc:Int):=by omega
 have sx3:¬lc=1:=by omega
 have sx4:(1:Int)≤(lc:Int):=by omega
 have SLT:=hid (fun W (hW:Fr [] w W)=>zap ((H.out.go hW).l.more (H.out.go hW).bz) (by omega) sx3);have F0:=zF w;have Q0:=zQ w;obtain⟨d0,d1,d2⟩:=DG.out _ F0.out;have dw:=F0.out.cell (HAT.out 0 (by omega)) (by simp);rw[Nat.add_zero] at dw;go_enter Tryz.func185,Tryz.ntmps185;go_wp2_with fail;refine(DI.out _ F0.out).mono ?_;rintro e1 w1 ⟨xv,rfl,hi,f1⟩;have F1:=hid (F0.out.trans f1);have Q1:=hid (Q0.out.f0 f1);have HI:=hid hi;obtain⟨X1,x1,X2,x2,X3,x3,rfl⟩:=hi.form;have hz1:=f1.size;simp at hz1;clear f1 hi d0 d1 d2 dw;have C1:=zC1 Q1 HI H F1;have C2:=zC2 C1;obtain⟨d0,d1,d2,d3,d4⟩:=five C1.out.b;have d5:=(C1.out.d).three.2.2;obtain⟨h0,h1,h2,h3,h4⟩:=five C2.out.b;have h5:=(C2.out.d).three.2.2;have V2:=zV2 w1 (.cells #[.int .i64 x.kind,.string x.text,.slice X1 x.list.length x1,.slice X2 x.pairs.length x2,.slice X3 x.scores.length x3] 65);have hb1:¬g=w1.heap.size+1:=by have:=C1.out.d.lt;simp at this;omega
 have hb2:¬w1.heap.size+1=g:=by have:=C1.out.d.lt;simp at this;omega
 have hb3:¬b=w1.heap.size+1:=by omega
 have hb4:¬w1.heap.size+1=b:=by omega
 go_upto_region 7 with fail;go_cut [9,10,11] (fun pb pn pe wx=>pn=.int .i64 nn∧pe=.int .i64 cc∧z8u B0 y (w1.alloc (.cells #[.int .i64 x.kind,.string x.text,.slice X1 x.list.length x1,.slice X2 x.pairs.length x2,.slice X3 x.scores.length x3] 65)) pb wx)
 case first=>
  go_region_held3 (fun wx=>wx.cell? ⟨w1.heap.size,0,none⟩=some (.int .i64 x.kind)∧wx.cell? ⟨w1.heap.size,1,none⟩=some (.string x.text)∧wx.cell? ⟨w1.heap.size,2,none⟩=some (.slice X1 x.list.length x1)∧wx.cell? ⟨w1.heap.size,3,none⟩=some (.slice X2 x.pairs.length x2)∧wx.cell? ⟨w1.heap.size,4,none⟩=some (.slice X3 x.scores.length x3)∧wx.cell? ⟨g,2,none⟩=some (.slice (some ⟨b,off,none⟩) l.length lc)) (go_keep) ((first|fail|(go_at_call 254;first|(refine(OP.out _ _ _ _ C1.out.drew.i.item (SLT.out _ C1.out.drew.f)).mono ?_;rintro e3 w3 ⟨yv,rfl,hy,f3⟩;obtain⟨A1,c1,A2,c2,A3,c3,rfl⟩:=hy.form;have C3:=hid (C1.out.go (z01 f3));have F3:=hid (z01 f3);have HY:=hid (hy.less (show B0≤_ from C1.out.d.bz));obtain⟨k0,k1,k2,k3,k4⟩:=five C3.out.b;have k5:=(C3.out.d).three.2.2;clear f3 hy d0 d1 d2 d3 d4 d5 h0 h1 h2 h3 h4 h5)|(refine(OP.out _ _ _ _ C2.out.drew.i.item (SLT.out _ C2.out.drew.f)).mono ?_;rintro e3 w3 ⟨yv,rfl,hy,f3⟩;obtain⟨A1,c1,A2,c2,A3,c3,rfl⟩:=hy.form;have C3:=hid (C2.out.go (z01 f3));have F3:=hid (z2b (z01 f3));have V3:=hid (V2.out.f0 (z01 f3));have y7:=five V3.out;have z7:=z12 V3.out;have HY:=hid (hy.less (show B0≤_ from C2.out.d.bz));obtain⟨k0,k1,k2,k3,k4⟩:=five C3.out.b;have k5:=(C3.out.d).three.2.2;clear f3 hy d0 d1 d2 d3 d4 d5 h0 h1 h2 h3 h4 h5))))
  all_goals
   go_wp2;go_meet
   case rel=>first|with_reducible exact⟨rfl,rfl,z8u.new HY.out F3.out⟩|exact⟨rfl,rfl,z8u.put HY.out F3.out (by simp) V3.out⟩
 clear d0 d1 d2 d3 d4 d5 h0 h1 h2 h3 h4 h5;obtain⟨rfl,rfl,gb,A1,c1,A2,c2,A3,c3,rfl,hgb,hw,hy,hf⟩:=hcut;have HY:=hid hy;have VB:=hid hw;have C4:=hid (C1.out.go hf);have hgz:w.heap.size < gb:=by have:=C1.out.f.size;simp at hgb;have:=C1.out.gx;omega
 clear hw hy hf hgb;obtain⟨m0,m1,m2,m3,m4⟩:=five VB.out;go_upto_region 8 with fail;go_region_held3 (fun wx=>wx.cell? ⟨gb,0,none⟩=some (.int .i64 y.kind)∧wx.cell? ⟨gb,1,none⟩=some (.string y.text)∧wx.cell? ⟨gb,2,none⟩=some (.slice A1 y.list.length c1)∧wx.cell? ⟨gb,3,none⟩=some (.slice A2 y.pairs.length c2)∧wx.cell? ⟨gb,4,none⟩=some (.slice A3 y.scores.length c3)) (go_keep) ((first|(go_at_call 237;refine(z0m _ _).mono ?_;rintro e5 w5 ⟨rfl,f5⟩;have C5:=hid (C4.out.go (z01 f5));have VB5:=hid (VB.out.f0 (z01 f5));have HY5:=hid (HY.out.go (z01 f5));clear f5 m0 m1 m2 m3 m4;obtain⟨m0,m1,m2,m3,m4⟩:=five VB5.out)|(go_at_call 236;refine(CH.out _ _ _ C5.out.d HY5.out (z19.bare _ _ _ _ _)).mono ?_;rintro e6 w6 ⟨u,rfl,hu,f6,hd⟩;obtain⟨R,rc,rfl⟩:=hu.form;have VB6:=hid (VB5.out.fr f6 (fun hm=>by have:=(H.out.low _ hm).2;omega));have Q6:=hid (C5.out.q.fr f6 (fun hm=>by have:=(H.out.low _ hm).2;omega));have HU:=hid hu;have HD:=hid hd;have F6:=hid (C5.out.f.up.trans f6);clear f6 hu hd m0 m1 m2 m3 m4;obtain⟨m0,m1,m2,m3,m4⟩:=five VB6.out;obtain⟨y0,y1,y2,y3⟩:=four Q6.out;obtain⟨z0,z1,z2,z3⟩:=z0h Q6.out;have hgz1:¬gb=w.heap.size:=(by omega);have hgz2:¬w.heap.size=gb:=(by omega))))
 obtain⟨sp,pr⟩:=pp;go_wp2;refine bodyPost_ret (v:=.agg #[.int .i64 pr.kind,.string pr.text,.int .i64 pr.n,.slice R pr.list.length rc]) (by simp[results,Tryz.results185,go_sem,y0,y1,y2,y3]) rfl ?_;exact ChD.fin4 HU.out F6.out Q6.out hbz HD.out
theorem zyo(ok:z1y s)(hn:2≤l.length)(h12:l.length≤11)(hz:∀t∈l,t.size≤60)(h:Dr g B0 sv now lv l s w):
  Calls prog 186 #[.pointer (some ⟨g,0,none⟩),.string ⟨#[104,100,101,108]⟩] w (ChD g B0 B0 sv now lv l (doC .hdel s now (c0 :: l)) w):=by
 have hr:=ok.rise;have hs16:=ok.le;have DI:=zDI hr hs16 h;have LS:=hid (z0b (z09 ok) now (wd l 0)).item;have EP:doC .hdel s now (c0 :: l)=fin s now (wd l 0) (zaj (z00 s now (wd l 0)).item (l.drop 1)) (z00 s now (wd l 0)).til true false (z02 4 (z00 s now (wd l 0)).item) (z0o (zek (z00 s now (wd l 0)).item (l.drop 1))):=rfl;have SY:=hid (show(zaj (z00 s now (wd l 0)).item (l.drop 1)).Small from zky _ _);have htl:(l.drop 1).length=l.length - 1:=by rw[List.length_drop]
 have OP:=hid (fun W u A c (k:z0r W W.heap.size u (z00 s now (wd l 0)).item) (q:Sl W W.heap.size 1 (.slice A (l.length - 1) c) (l.length - 1) (z04 (l.drop 1)))=>(show Calls prog 262 #[u,.slice A (l.length - 1) c] W (z4d (zek (z00 s now (wd l 0)).item (l.drop 1)) (z02 4 (z00 s now (wd l 0)).item) (zaj (z00 s now (wd l 0)).item (l.drop 1)) W) from by
  rw[←htl] at q ⊢;exact zbb (z00 s now (wd l 0)).item u (l.drop 1) A c W W.heap.size LS.out (Nat.le_refl _) k (by omega) q))
 clear htl;have CH:=zCH g B0 sv now lv l s w (zaj (z00 s now (wd l 0)).item (l.drop 1)) (z0o (zek (z00 s now (wd l 0)).item (l.drop 1))) (z02 4 (z00 s now (wd l 0)).item) ok (by omega) SY;rw[EP];clear EP SY;have H:=hid h;have hlt:=h.lt;have hbz:=h.bz;obtain⟨SA,sc,rfl⟩:=h.sform;obtain⟨LA,lc,rfl⟩:=h.lform;obtain⟨b,off,rfl,hb,hc,hm,hat⟩:=h.word (by omega);have HAT:=hid hat;have DG:=hid (fun W (hW:Fr [] w W)=>(h.go hW).three);unfold maxLen at hm;clear h hr hat ok;generalize fin s now (wd l 0) (zaj (z00 s now (wd l 0)).item (l.drop 1)) (z00 s now (wd l 0)).til true false (z02 4 (z00 s now (wd l 0)).item) (z0o (zek (z00 s now (wd l 0)).item (l.drop 1)))=pp at *;generalize zaj (z00 s now (wd l 0)).item (l.drop 1)=y at *;generalize zek (z00 s now (wd l 0)).item (l.drop 1)=nn at *;generalize z02 4 (z00 s now (wd l 0)).item=cc at *;generalize (z00 s now (wd l 0)).item=x at *;have sx1:(1:Int)≤(l.length:Int):=by omega
 have sx2:(l.length:Int)≤(lc:Int):=by omega
 have sx3:¬lc=1:=by omega
 have sx4:(1:Int)≤(lc:Int):=by omega
 have SLT:=hid (fun W (hW:Fr [] w W)=>zap ((H.out.go hW).l.more (H.out.go hW).bz) (by omega) sx3);have F0:=zF w;have Q0:=zQ w;obtain⟨d0,d1,d2⟩:=DG.out _ F0.out;have dw:=F0.out.cell (HAT.out 0 (by omega)) (by simp);rw[Nat.add_zero] at dw;go_enter Tryz.func186,Tryz.ntmps186;go_wp2_with fail;refine(DI.out _ F0.out).mono ?_;rintro e1 w1 ⟨xv,rfl,hi,f1⟩;have F1:=hid (F0.out.trans f1);have Q1:=hid (Q0.out.f0 f1);have HI:=hid hi;obtain⟨X1,x1,X2,x2,X3,x3,rfl⟩:=hi.form;have hz1:=f1.size;simp at hz1;clear f1 hi d0 d1 d2 dw;have C1:=zC1 Q1 HI H F1;have C2:=zC2 C1;obtain⟨d0,d1,d2,d3,d4⟩:=five C1.out.b;have d5:=(C1.out.d).three.2.2;obtain⟨h0,h1,h2,h3,h4⟩:=five C2.out.b;have h5:=(C2.out.d).three.2.2;have V2:=zV2 w1 (.cells #[.int .i64 x.kind,.string x.text,.slice X1 x.list.length x1,.slice X2 x.pairs.length x2,.slice X3 x.scores.length x3] 65);have hb1:¬g=w1.heap.size+1:=by have:=C1.out.d.lt;simp at this;omega
 have hb2:¬w1.heap.size+1=g:=by have:=C1.out.d.lt;simp at this;omega
 have hb3:¬b=w1.heap.size+1:=by omega
 have hb4:¬w1.heap.size+1=b:=by omega
 go_upto_region 15 with fail;go_cut [13,14,15] (fun pb pn pe wx=>pn=.int .i64 nn∧pe=.int .i64 cc∧z8u B0 y (w1.alloc (.cells #[.int .i64 x.kind,.string x.text,.slice X1 x.list.length x1,.slice X2 x.pairs.length x2,.slice X3 x.scores.length x3] 65)) pb wx)
 case first=>
  go_region_held3 (fun wx=>wx.cell? ⟨w1.heap.size,0,none⟩=some (.int .i64 x.kind)∧wx.cell? ⟨w1.heap.size,1,none⟩=some (.string x.text)∧wx.cell? ⟨w1.heap.size,2,none⟩=some (.slice X1 x.list.length x1)∧wx.cell? ⟨w1.heap.size,3,none⟩=some (.slice X2 x.pairs.length x2)∧wx.cell? ⟨w1.heap.size,4,none⟩=some (.slice X3 x.scores.length x3)∧wx.cell? ⟨g,2,none⟩=some (.slice (some ⟨b,off,none⟩) l.length lc)) (go_keep) ((first|fail|(go_at_call 262;first|(refine(OP.out _ _ _ _ C1.out.drew.i.item (SLT.out _ C1.out.drew.f)).mono ?_;rintro e3 w3 ⟨yv,rfl,hy,f3⟩;obtain⟨A1,c1,A2,c2,A3,c3,rfl⟩:=hy.form;have C3:=hid (C1.out.go (z01 f3));have F3:=hid (z01 f3);have HY:=hid (hy.less (show B0≤_ from C1.out.d.bz));obtain⟨k0,k1,k2,k3,k4⟩:=five C3.out.b;have k5:=(C3.out.d).three.2.2;clear f3 hy d0 d1 d2 d3 d4 d5 h0 h1 h2 h3 h4 h5)|(refine(OP.out _ _ _ _ C2.out.drew.i.item (SLT.out _ C2.out.drew.f)).mono ?_;rintro e3 w3 ⟨yv,rfl,hy,f3⟩;obtain⟨A1,c1,A2,c2,A3,c3,rfl⟩:=hy.form;have C3:=hid (C2.out.go (z01 f3));have F3:=hid (z2b (z01 f3));have V3:=hid (V2.out.f0 (z01 f3));have y7:=five V3.out;have z7:=z12 V3.out;have HY:=hid (hy.less (show B0≤_ from C2.out.d.bz));obtain⟨k0,k1,k2,k3,k4⟩:=five C3.out.b;have k5:=(C3.out.d).three.2.2;clear f3 hy d0 d1 d2 d3 d4 d5 h0 h1 h2 h3 h4 h5))))
  all_goals
   go_wp2;go_meet
   case rel=>first|with_reducible exact⟨rfl,rfl,z8u.new HY.out F3.out⟩|exact⟨rfl,rfl,z8u.put HY.out F3.out (by simp) V3.out⟩
 clear d0 d1 d2 d3 d4 d5 h0 h1 h2 h3 h4 h5;obtain⟨rfl,rfl,gb,A1,c1,A2,c2,A3,c3,rfl,hgb,hw,hy,hf⟩:=hcut;have HY:=hid hy;have VB:=hid hw;have C4:=hid (C1.out.go hf);have hgz:w.heap.size < gb:=by have:=C1.out.f.size;simp at hgb;have:=C1.out.gx;omega
 clear hw hy hf hgb;obtain⟨m0,m1,m2,m3,m4⟩:=five VB.out;go_upto_region 16 with fail;go_region_held3 (fun wx=>wx.cell? ⟨gb,0,none⟩=some (.int .i64 y.kind)∧wx.cell? ⟨gb,1,none⟩=some (.string y.text)∧wx.cell? ⟨gb,2,none⟩=some (.slice A1 y.list.length c1)∧wx.cell? ⟨gb,3,none⟩=some (.slice A2 y.pairs.length c2)∧wx.cell? ⟨gb,4,none⟩=some (.slice A3 y.scores.length c3)) (go_keep) ((first|(go_at_call 237;refine(z0m _ _).mono ?_;rintro e5 w5 ⟨rfl,f5⟩;have C5:=hid (C4.out.go (z01 f5));have VB5:=hid (VB.out.f0 (z01 f5));have HY5:=hid (HY.out.go (z01 f5));clear f5 m0 m1 m2 m3 m4;obtain⟨m0,m1,m2,m3,m4⟩:=five VB5.out)|(go_at_call 236;refine(CH.out _ _ _ C5.out.d HY5.out (z19.bare _ _ _ _ _)).mono ?_;rintro e6 w6 ⟨u,rfl,hu,f6,hd⟩;obtain⟨R,rc,rfl⟩:=hu.form;have VB6:=hid (VB5.out.fr f6 (fun hm=>by have:=(H.out.low _ hm).2;omega));have Q6:=hid (C5.out.q.fr f6 (fun hm=>by have:=(H.out.low _ hm).2;omega));have HU:=hid hu;have HD:=hid hd;have F6:=hid (C5.out.f.up.trans f6);clear f6 hu hd m0 m1 m2 m3 m4;obtain⟨m0,m1,m2,m3,m4⟩:=five VB6.out;obtain⟨y0,y1,y2,y3⟩:=four Q6.out;obtain⟨z0,z1,z2,z3⟩:=z0h Q6.out;have hgz1:¬gb=w.heap.size:=(by omega);have hgz2:¬w.heap.size=gb:=(by omega))))
 obtain⟨sp,pr⟩:=pp;go_wp2;refine bodyPost_ret (v:=.agg #[.int .i64 pr.kind,.string pr.text,.int .i64 pr.n,.slice R pr.list.length rc]) (by simp[results,Tryz.results186,go_sem,y0,y1,y2,y3]) rfl ?_;exact ChD.fin4 HU.out F6.out Q6.out hbz HD.out
theorem zy3(ok:z1y s)(hn:2≤l.length)(h12:l.length≤11)(hz:∀t∈l,t.size≤60)(h:Dr g B0 sv now lv l s w):
  Calls prog 187 #[.pointer (some ⟨g,0,none⟩),.string ⟨#[122,114,101,109]⟩] w (ChD g B0 B0 sv now lv l (doC .zrem s now (c0 :: l)) w):=by
 have hr:=ok.rise;have hs16:=ok.le;have DI:=zDI hr hs16 h;have LS:=hid (z0b (z09 ok) now (wd l 0)).item;have EP:doC .zrem s now (c0 :: l)=fin s now (wd l 0) (z6g (z00 s now (wd l 0)).item (l.drop 1)) (z00 s now (wd l 0)).til true false (z02 5 (z00 s now (wd l 0)).item) (z0o (z95 (z00 s now (wd l 0)).item (l.drop 1))):=rfl;have SY:=hid (show(z6g (z00 s now (wd l 0)).item (l.drop 1)).Small from zhl _ _);have htl:(l.drop 1).length=l.length - 1:=by rw[List.length_drop]
 have OP:=hid (fun W u A c (k:z0r W W.heap.size u (z00 s now (wd l 0)).item) (q:Sl W W.heap.size 1 (.slice A (l.length - 1) c) (l.length - 1) (z04 (l.drop 1)))=>(show Calls prog 264 #[u,.slice A (l.length - 1) c] W (z4d (z95 (z00 s now (wd l 0)).item (l.drop 1)) (z02 5 (z00 s now (wd l 0)).item) (z6g (z00 s now (wd l 0)).item (l.drop 1)) W) from by
  rw[←htl] at q ⊢;exact zg3 (z00 s now (wd l 0)).item u (l.drop 1) A c W W.heap.size LS.out (Nat.le_refl _) k (by omega) q))
 clear htl;have CH:=zCH g B0 sv now lv l s w (z6g (z00 s now (wd l 0)).item (l.drop 1)) (z0o (z95 (z00 s now (wd l 0)).item (l.drop 1))) (z02 5 (z00 s now (wd l 0)).item) ok (by omega) SY;rw[EP];clear EP SY;have H:=hid h;have hlt:=h.lt;have hbz:=h.bz;obtain⟨SA,sc,rfl⟩:=h.sform;obtain⟨LA,lc,rfl⟩:=h.lform;obtain⟨b,off,rfl,hb,hc,hm,hat⟩:=h.word (by omega);have HAT:=hid hat;have DG:=hid (fun W (hW:Fr [] w W)=>(h.go hW).three);unfold maxLen at hm;clear h hr hat ok;generalize fin s now (wd l 0) (z6g (z00 s now (wd l 0)).item (l.drop 1)) (z00 s now (wd l 0)).til true false (z02 5 (z00 s now (wd l 0)).item) (z0o (z95 (z00 s now (wd l 0)).item (l.drop 1)))=pp at *;generalize z6g (z00 s now (wd l 0)).item (l.drop 1)=y at *;generalize z95 (z00 s now (wd l 0)).item (l.drop 1)=nn at *;generalize z02 5 (z00 s now (wd l 0)).item=cc at *;generalize (z00 s now (wd l 0)).item=x at *;have sx1:(1:Int)≤(l.length:Int):=by omega
 have sx2:(l.length:Int)≤(lc:Int):=by omega
 have sx3:¬lc=1:=by omega
 have sx4:(1:Int)≤(lc:Int):=by omega
 have SLT:=hid (fun W (hW:Fr [] w W)=>zap ((H.out.go hW).l.more (H.out.go hW).bz) (by omega) sx3);have F0:=zF w;have Q0:=zQ w;obtain⟨d0,d1,d2⟩:=DG.out _ F0.out;have dw:=F0.out.cell (HAT.out 0 (by omega)) (by simp);rw[Nat.add_zero] at dw;go_enter Tryz.func187,Tryz.ntmps187;go_wp2_with fail;refine(DI.out _ F0.out).mono ?_;rintro e1 w1 ⟨xv,rfl,hi,f1⟩;have F1:=hid (F0.out.trans f1);have Q1:=hid (Q0.out.f0 f1);have HI:=hid hi;obtain⟨X1,x1,X2,x2,X3,x3,rfl⟩:=hi.form;have hz1:=f1.size;simp at hz1;clear f1 hi d0 d1 d2 dw;have C1:=zC1 Q1 HI H F1;have C2:=zC2 C1;obtain⟨d0,d1,d2,d3,d4⟩:=five C1.out.b;have d5:=(C1.out.d).three.2.2;obtain⟨h0,h1,h2,h3,h4⟩:=five C2.out.b;have h5:=(C2.out.d).three.2.2;have V2:=zV2 w1 (.cells #[.int .i64 x.kind,.string x.text,.slice X1 x.list.length x1,.slice X2 x.pairs.length x2,.slice X3 x.scores.length x3] 65);have hb1:¬g=w1.heap.size+1:=by have:=C1.out.d.lt;simp at this;omega
 have hb2:¬w1.heap.size+1=g:=by have:=C1.out.d.lt;simp at this;omega
 have hb3:¬b=w1.heap.size+1:=by omega
 have hb4:¬w1.heap.size+1=b:=by omega
 go_upto_region 12 with fail;go_cut [11,12,13] (fun pb pn pe wx=>pn=.int .i64 nn∧pe=.int .i64 cc∧z8u B0 y (w1.alloc (.cells #[.int .i64 x.kind,.string x.text,.slice X1 x.list.length x1,.slice X2 x.pairs.length x2,.slice X3 x.scores.length x3] 65)) pb wx)
 case first=>
  go_region_held3 (fun wx=>wx.cell? ⟨w1.heap.size,0,none⟩=some (.int .i64 x.kind)∧wx.cell? ⟨w1.heap.size,1,none⟩=some (.string x.text)∧wx.cell? ⟨w1.heap.size,2,none⟩=some (.slice X1 x.list.length x1)∧wx.cell? ⟨w1.heap.size,3,none⟩=some (.slice X2 x.pairs.length x2)∧wx.cell? ⟨w1.heap.size,4,none⟩=some (.slice X3 x.scores.length x3)∧wx.cell? ⟨g,2,none⟩=some (.slice (some ⟨b,off,none⟩) l.length lc)) (go_keep) ((first|fail|(go_at_call 264;first|(refine(OP.out _ _ _ _ C1.out.drew.i.item (SLT.out _ C1.out.drew.f)).mono ?_;rintro e3 w3 ⟨yv,rfl,hy,f3⟩;obtain⟨A1,c1,A2,c2,A3,c3,rfl⟩:=hy.form;have C3:=hid (C1.out.go (z01 f3));have F3:=hid (z01 f3);have HY:=hid (hy.less (show B0≤_ from C1.out.d.bz));obtain⟨k0,k1,k2,k3,k4⟩:=five C3.out.b;have k5:=(C3.out.d).three.2.2;clear f3 hy d0 d1 d2 d3 d4 d5 h0 h1 h2 h3 h4 h5)|(refine(OP.out _ _ _ _ C2.out.drew.i.item (SLT.out _ C2.out.drew.f)).mono ?_;rintro e3 w3 ⟨yv,rfl,hy,f3⟩;obtain⟨A1,c1,A2,c2,A3,c3,rfl⟩:=hy.form;have C3:=hid (C2.out.go (z01 f3));have F3:=hid (z2b (z01 f3));have V3:=hid (V2.out.f0 (z01 f3));have y7:=five V3.out;have z7:=z12 V3.out;have HY:=hid (hy.less (show B0≤_ from C2.out.d.bz));obtain⟨k0,k1,k2,k3,k4⟩:=five C3.out.b;have k5:=(C3.out.d).three.2.2;clear f3 hy d0 d1 d2 d3 d4 d5 h0 h1 h2 h3 h4 h5))))
  all_goals
   go_wp2;go_meet
   case rel=>first|with_reducible exact⟨rfl,rfl,z8u.new HY.out F3.out⟩|exact⟨rfl,rfl,z8u.put HY.out F3.out (by simp) V3.out⟩
 clear d0 d1 d2 d3 d4 d5 h0 h1 h2 h3 h4 h5;obtain⟨rfl,rfl,gb,A1,c1,A2,c2,A3,c3,rfl,hgb,hw,hy,hf⟩:=hcut;have HY:=hid hy;have VB:=hid hw;have C4:=hid (C1.out.go hf);have hgz:w.heap.size < gb:=by have:=C1.out.f.size;simp at hgb;have:=C1.out.gx;omega
 clear hw hy hf hgb;obtain⟨m0,m1,m2,m3,m4⟩:=five VB.out;go_upto_region 13 with fail;go_region_held3 (fun wx=>wx.cell? ⟨gb,0,none⟩=some (.int .i64 y.kind)∧wx.cell? ⟨gb,1,none⟩=some (.string y.text)∧wx.cell? ⟨gb,2,none⟩=some (.slice A1 y.list.length c1)∧wx.cell? ⟨gb,3,none⟩=some (.slice A2 y.pairs.length c2)∧wx.cell? ⟨gb,4,none⟩=some (.slice A3 y.scores.length c3)) (go_keep) ((first|(go_at_call 237;refine(z0m _ _).mono ?_;rintro e5 w5 ⟨rfl,f5⟩;have C5:=hid (C4.out.go (z01 f5));have VB5:=hid (VB.out.f0 (z01 f5));have HY5:=hid (HY.out.go (z01 f5));clear f5 m0 m1 m2 m3 m4;obtain⟨m0,m1,m2,m3,m4⟩:=five VB5.out)|(go_at_call 236;refine(CH.out _ _ _ C5.out.d HY5.out (z19.bare _ _ _ _ _)).mono ?_;rintro e6 w6 ⟨u,rfl,hu,f6,hd⟩;obtain⟨R,rc,rfl⟩:=hu.form;have VB6:=hid (VB5.out.fr f6 (fun hm=>by have:=(H.out.low _ hm).2;omega));have Q6:=hid (C5.out.q.fr f6 (fun hm=>by have:=(H.out.low _ hm).2;omega));have HU:=hid hu;have HD:=hid hd;have F6:=hid (C5.out.f.up.trans f6);clear f6 hu hd m0 m1 m2 m3 m4;obtain⟨m0,m1,m2,m3,m4⟩:=five VB6.out;obtain⟨y0,y1,y2,y3⟩:=four Q6.out;obtain⟨z0,z1,z2,z3⟩:=z0h Q6.out;have hgz1:¬gb=w.heap.size:=(by omega);have hgz2:¬w.heap.size=gb:=(by omega))))
 obtain⟨sp,pr⟩:=pp;go_wp2;refine bodyPost_ret (v:=.agg #[.int .i64 pr.kind,.string pr.text,.int .i64 pr.n,.slice R pr.list.length rc]) (by simp[results,Tryz.results187,go_sem,y0,y1,y2,y3]) rfl ?_;exact ChD.fin4 HU.out F6.out Q6.out hbz HD.out
end
end Go.Proofs.YtmalkppcahogjaaGreatDoor
