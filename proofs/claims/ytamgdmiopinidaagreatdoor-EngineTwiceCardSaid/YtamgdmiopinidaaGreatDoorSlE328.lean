/- Contracts that the proof of E3 uses. No condition beyond those in each theorem. -/
import Derived.Test.YtamgdmiopinidaaGreatDoorSlE327
set_option linter.unusedVariables false
set_option linter.unusedSimpArgs false
set_option maxHeartbeats 8000000
set_option maxRecDepth 100000
namespace Go.Proofs.YtamgdmiopinidaaGreatDoor
open Lib (hid)
open Go.Proofs.Tryz (prog)
open Go.RowKit
def zbt(m:Nat)(ys:List Value)(base:Nat)(v:Value)(w:World)(e:Ending)(w':World):Prop:=
 ∃v',e=.returned v'∧w'.ownsRow base 91 2 v' m ys∧w.grownBy w' v.ownBlock∧(v'.ownBlock=v.ownBlock∨v'.ownBlock=some w.heap.size)
theorem zsc(n:Nat)(xs vs:List Value)(base gv:Nat)(v:Value)(w:World)(hn:(n+1) * 24≤140737488355328)(h:w.ownsRow base 91 2 v n xs)(hv1:∀u∈vs,u.oneCell'=true)(hvl:vs.length=2)(hgv:Whole w gv 91 vs)(hb:base≤w.heap.size) :
  Calls prog 253 #[v,.int .i64 n,.slice (some ⟨gv,0,none⟩) 1 1] w (zbt (n+1) (xs++vs) base v w):=by
 obtain⟨i0,hi,hz0,hz1,hz2⟩:=info_parts z66
 have hs:Sl w w.heap.size 2 (.slice (some ⟨gv,0,none⟩) 1 1) 1 vs:=⟨_,_,rfl,by omega,by omega,by unfold maxLen;omega,fun _=>⟨gv,0,rfl,hgv.lt,fun j u hu=>by rw[Nat.zero_add,hgv.cell];exact hu⟩⟩
 have HS:=hid hs
 have HO:=hid h
 have H1:=hid hv1
 obtain⟨A,c,rfl,hA,hc,hm⟩:=z06 h
 unfold maxLen at hm
 clear hs h hv1 hvl hgv
 rcases hA with rfl|⟨g,rfl⟩
 ·have hn0:n=0:=by
   rcases HO.out.2 with⟨_,h0⟩|⟨g',cap',cur,h',_⟩
   ·exact h0
   ·cases h'
  subst hn0
  go_enter Tryz.func253,Tryz.ntmps253
  go_wp2_with (at_builtin;refine z0i _ rfl _ _ 41 rfl base 91 i0 _ 2 24 Tryz.underlying41 hi hz0 hz1 hz2 rfl (by decide) _ _ _ rfl HO.out _ _ 1 vs rfl HS.out H1.out ?c1 ?c2 hb ?_)
  case c1=>unfold maxLen;omega
  case c2=>omega
  intro v' w2 hown' hgrow hat
  go_wp2
  go_ret
  exact⟨_,rfl,hown',hgrow,hat⟩
 ·by_cases hcn:c=n
  all_goals
   go_enter Tryz.func253,Tryz.ntmps253
   go_wp2_with (at_builtin;refine z0i _ rfl _ _ 41 rfl base 91 i0 _ 2 24 Tryz.underlying41 hi hz0 hz1 hz2 rfl (by decide) _ _ _ rfl HO.out _ _ 1 vs rfl HS.out H1.out (by unfold maxLen;omega) (by omega) hb (fun v' w2 hown' hgrow hat=>?_))
   go_ret
   exact⟨_,rfl,hown',hgrow,hat⟩
theorem zum(n i c g:Nat)(xs vs:List Value)(base gv:Nat)(w:World)(hin:i < n)(hr:n+1≤c)(h:w.ownsRow base 91 2 (.slice (some ⟨g,0,none⟩) n c) n xs)(h1:∀u∈xs,u.oneCell'=true)(hv1:∀u∈vs,u.oneCell'=true)(hvl:vs.length=2)(hgv:Whole w gv 91 vs)(hne:gv≠g) :
  Calls prog 253 #[.slice (some ⟨g,0,none⟩) n c,.int .i64 i,.slice (some ⟨gv,0,none⟩) 1 1] w (zbt (n+1) (z12 xs vs (i * 2)) base (.slice (some ⟨g,0,none⟩) n c) w):=by
 obtain⟨i0,hi,hz0,hz1,hz2⟩:=info_parts z66
 obtain⟨cur0,cur,w0,l0,w1,l1,o2⟩:=zin (w:=w.drew) h (Nat.le_of_lt hin) hr hvl
 obtain⟨_,_,_,_,_,_,hm,hxl⟩:=z28 h
 have hdl:(xs.drop (i * 2)).length=(n - i) * 2:=by rw[List.length_drop,hxl];omega
 have hov:∀lb cb,(callFunc 283 #[.slice (some ⟨gv,0,none⟩) 1 1,.slice (some ⟨g,(i+1) * 2,none⟩) lb cb]).run prog w=.ok (.value (.bool false)) w:=fun lb cb=>by
  rw[run_callFunc_extern Tryz.func283 (by kernel_rfl) (by kernel_rfl) (by kernel_rfl) (e:=Extern.SlicesOverlaps.overlaps #[41,41] #[4]) (by kernel_rfl),
   Lib.run_overlaps_apart w 41 4 91 Tryz.underlying41 2 (fun w=>by kernel_rfl) ⟨gv,0,none⟩ ⟨g,(i+1) * 2,none⟩ 1 1 lb cb hne 91 91 vs.length cur0.length (by unfold Whole at hgv;simp[World.shape?,hgv]) (by have:=w0;unfold Whole at this;have:w.heap[g]? = _:=this;simp[World.shape?,this]) (by rw[l0];omega) (hgv.frozen _) (hgv.frozen _)]
  rfl
 have hc1:∀ty dc sc,(Builtin.copy_ #[41,41] ty #[.slice (some ⟨g,(i+1) * 2,none⟩) (n - i) dc,.slice (some ⟨g,i * 2,none⟩) (n+1 - i) sc]).run prog w.drew=.ok (goInt ((n - i:Nat))) (w.drew.setCells g ((i+1) * 2) (xs.drop (i * 2))):=fun ty dc sc=>
  z2d w.drew _ _ ty 91 i0 2 g ((i+1) * 2) (n - i) dc ⟨g,i * 2,none⟩ (n+1 - i) sc (n - i) _ Tryz.underlying41 hi hz1 (by simp only[Nat.min_def];split <;> omega) hdl
   (fun t u hu=>by
    rw[List.getElem?_drop] at hu
    have hlt:=(List.getElem?_eq_some_iff.1 hu).1
    have:=(h.cellAt (i * 2+t) (by omega)).trans hu
    rw[Addr.add_lit,show i * 2=i * 2 by omega]
    exact this)
   (fun t ht=>by
    rw[show(i+1) * 2=(i+1) * 2 by omega]
    exact z0k w0 (o:=(i+1) * 2) (m:=(n - i) * 2) (by rw[l0];omega) t (by omega))
   (fun u hu=>h1 u (List.mem_of_mem_drop hu))
 rw[show(i+1) * 2=(i+1) * 2 by omega] at w1 o2
 obtain⟨W1,hW1⟩:∃W1,W1=w.drew.setCells g ((i+1) * 2) (xs.drop (i * 2)):=⟨_,rfl⟩
 rw[←hW1] at hc1 w1 o2
 have hgv1:Whole W1 gv 91 vs:=by
  rw[hW1]
  exact hgv.drew.grown (z09 _ _ _) (by simpa using hne)
 rw[show i * 2=i * 2 by omega] at o2
 have hc2:∀ty dc,(Builtin.copy_ #[41,41] ty #[.slice (some ⟨g,i * 2,none⟩) (n+1 - i) dc,.slice (some ⟨gv,0,none⟩) 1 1]).run prog W1=.ok (goInt ((1:Nat))) (W1.setCells g (i * 2) vs):=fun ty dc=>
  z2d W1 _ _ ty 91 i0 2 g (i * 2) (n+1 - i) dc ⟨gv,0,none⟩ 1 1 1 vs Tryz.underlying41 hi hz1 (by simp only[Nat.min_def];split <;> omega) (by omega)
   (fun t u hu=>by
    rw[Addr.add_lit,Nat.zero_add,hgv1.cell]
    exact hu)
   (fun t ht=>by
    rw[show i * 2=i * 2 by omega]
    exact z0k w1 (o:=i * 2) (m:=2) (by rw[l1];omega) t (by omega))
   hv1
 have HW:=hid hW1
 have O2:=hid o2
 unfold maxLen at hm
 have hz1':¬((i:Int)=(n:Int)):=by omega
 have hw1:IntKind.i64.wrap ((i:Int)+1)=(i:Int)+1:=by rw[IntKind.wrap_i64];omega
 have hw2:IntKind.i64.wrap ((n:Int)+1)=(n:Int)+1:=by rw[IntKind.wrap_i64];omega
 have ht1:((i:Int)+1).toNat=i+1:=by omega
 have ht2:((n:Int)+1).toNat=n+1:=by omega
 have hb0:i≤n:=by omega
 have hb1:(0:Int)≤(i:Int)+1:=by omega
 have hb2:(0:Int)≤(n:Int)+1:=by omega
 have hb3:(n:Int)+1≤(c:Int):=by omega
 have hb4:(i:Int)≤(n:Int)+1:=by omega
 have hb5:(i:Int)≤(n:Int):=by omega
 have hb6:¬(c=i):=by omega
 have hb7:¬(c=i+1):=by omega
 have hb8:¬((c:Int) < (n:Int)+1):=by omega
 clear h h1 hv1 hvl hgv hgv1 cur0 cur w0 l0 w1 l1 o2 hxl hdl hW1 hi hz0 hz1 hz2
 go_enter Tryz.func253,Tryz.ntmps253
 go_wp2_with (simp only[hov])
 go_region_law (refine z3t rfl _ _ 41 41 rfl _ _ (by simp[Act.eval,Act.put]) (by simp[Act.eval,Act.put]) (hc1 _ _ _) ?_)
 go_wp2_with (at_builtin;refine z2t _ rfl _ _ 41 41 rfl _ _ rfl rfl (hc2 _ _) ?_)
 go_ret
 refine⟨_,rfl,O2.out,?_,.inl rfl⟩
 rw[HW.out]
 exact z24 ((z09 _ _ _).trans (z09 _ _ _))
theorem zrx(n i c g:Nat)(xs vs:List Value)(base gv:Nat)(w:World)(hn:(n+1) * 24≤140737488355328)(hin:i < n)(hnc:n≤c)(hr:c < n+1)(h:w.ownsRow base 91 2 (.slice (some ⟨g,0,none⟩) n c) n xs)(h1:∀u∈xs,u.oneCell'=true)(hv1:∀u∈vs,u.oneCell'=true)(hvl:vs.length=2)(hgv:Whole w gv 91 vs)(hb:base≤w.heap.size) :
  Calls prog 253 #[.slice (some ⟨g,0,none⟩) n c,.int .i64 i,.slice (some ⟨gv,0,none⟩) 1 1] w (zbt (n+1) (z12 xs vs (i * 2)) base (.slice (some ⟨g,0,none⟩) n c) w):=by
 obtain⟨i0,hi,hz0,hz1,hz2⟩:=info_parts z66
 obtain⟨cur0,w0,l0,hx0,_,_,hm,hxl⟩:=z28 h
 clear hx0
 have hdl:(xs.drop (i * 2)).length=(n - i) * 2:=by rw[List.length_drop,hxl];omega
 have htl:(xs.take (i * 2)).length=i * 2:=by rw[List.length_take,hxl];omega
 have hcell:∀t u,xs[t]? = some u→w.cell? ⟨g,t,none⟩=some u:=fun t u hu=>by
  have hlt:=(List.getElem?_eq_some_iff.1 hu).1
  exact(h.cellAt t (by omega)).trans hu
 have hold:(Builtin.firstCells i0.size i (.slice (some ⟨g,0,none⟩) i c)).run prog w.drew=.ok (xs.take (i * 2)).toArray w.drew:=by
  rw[hz1]
  exact run_firstCells_some w.drew 2 i ⟨g,0,none⟩ i c (xs.take (i * 2)) htl (fun t u hu=>by
   rw[Addr.add_lit,Nat.zero_add]
   rw[List.getElem?_take] at hu
   split at hu
   ·exact hcell t u hu
   ·cases hu)
 have hG:grownCap w (n+1) c 91≤maxLen:=grownCap_le_maxLen w _ _ _ (by unfold maxLen;omega)
 have hGe:n+1≤grownCap w (n+1) c 91:=grownCap_ge w _ _ _
 have hrz:∀ty,(Builtin.append_ #[41,3] ty #[.slice (some ⟨g,0,none⟩) i c,.int .i64 ((n:Int)+1 - (i:Int))]).run prog w =
   .ok (.slice (some ⟨w.heap.size,0,none⟩) (n+1) (grownCap w (n+1) c 91)) (w.drew.alloc (.cells ((xs.take (i * 2)).toArray++Builtin.zeroCells (Value.cells (.agg #[.int .i64 0,.string ⟨#[]⟩])) (n+1 - i)++Builtin.zeroCells (Value.cells (.agg #[.int .i64 0,.string ⟨#[]⟩])) (grownCap w (n+1) c 91 - (n+1))) 91)):=fun ty=>by
  have hik:i+(n+1 - i)=n+1:=by omega
  have h:=Lib.run_append_grow_zeros w 41 3 ty 91 i0 _ .i64 .i64 Tryz.underlying41 Tryz.underlying3 hi hz0 (some ⟨g,0,none⟩) i c _ hold (n+1 - i) (by omega) (by omega) (by omega) (by omega) (by rw[hz2];omega) (by rw[hz2,hik];exact growslice_fits hr hn)
  rw[hik] at h
  rw[show(n:Int)+1 - (i:Int)=((n+1 - i:Nat):Int) by omega]
  exact h
 generalize grownCap w (n+1) c 91=G at *
 obtain⟨zs,hzs⟩:∃zs,zs=(Builtin.zeroCells (Value.cells (.agg #[.int .i64 0,.string ⟨#[]⟩])) (n+1 - i)++Builtin.zeroCells (Value.cells (.agg #[.int .i64 0,.string ⟨#[]⟩])) (G - (n+1))).toList:=⟨_,rfl⟩
 have hzl:zs.length=(n+1 - i) * 2+(G - (n+1)) * 2:=by rw[hzs];simp[Builtin.zeroCells,Value.cells];try omega
 have hra:(xs.take (i * 2)).toArray++Builtin.zeroCells (Value.cells (.agg #[.int .i64 0,.string ⟨#[]⟩])) (n+1 - i)++Builtin.zeroCells (Value.cells (.agg #[.int .i64 0,.string ⟨#[]⟩])) (G - (n+1))=(xs.take (i * 2)++zs).toArray:=by
  rw[hzs];simp
 rw[hra] at hrz
 obtain⟨W0,hW0⟩:∃W0,W0=w.drew.alloc (.cells (xs.take (i * 2)++zs).toArray 91):=⟨_,rfl⟩
 rw[←hW0] at hrz
 have wn:Whole W0 w.heap.size 91 (xs.take (i * 2)++zs):=by rw[hW0];exact Whole.new w.drew 91 _
 have hgr:w.grownBy W0 (some g):=by rw[hW0];exact z24 (z8y _ _ _)
 have hgv0:Whole W0 gv 91 vs:=by rw[hW0];exact hgv.drew.alloc _
 have wg0:Whole W0 g 91 cur0:=by rw[hW0];exact w0.drew.alloc _
 have hgl:g≠w.heap.size:=Nat.ne_of_lt w0.lt
 obtain⟨cur,w1,l1,o2⟩:=zix (i:=i) (n:=n) (base:=base) hxl (Nat.le_of_lt hin) hvl hGe hG hb wn (by rw[List.length_append,htl,hzl];omega)
 rw[show(i+1) * 2=(i+1) * 2 by omega,show i * 2=i * 2 by omega] at o2
 rw[show i * 2=i * 2 by omega] at w1
 have hc1:∀ty dc,(Builtin.copy_ #[41,41] ty #[.slice (some ⟨w.heap.size,i * 2,none⟩) (n+1 - i) dc,.slice (some ⟨gv,0,none⟩) 1 1]).run prog W0=.ok (goInt ((1:Nat))) (W0.setCells w.heap.size (i * 2) vs):=fun ty dc=>
  z2d W0 _ _ ty 91 i0 2 w.heap.size (i * 2) (n+1 - i) dc ⟨gv,0,none⟩ 1 1 1 vs Tryz.underlying41 hi hz1 (by simp only[Nat.min_def];split <;> omega) (by omega)
   (fun t u hu=>by
    rw[Addr.add_lit,Nat.zero_add,hgv0.cell]
    exact hu)
   (fun t ht=>by
    rw[show i * 2=i * 2 by omega]
    exact z0k wn (o:=i * 2) (m:=2) (by rw[List.length_append,htl,hzl];omega) t (by omega))
   hv1
 obtain⟨W1,hW1⟩:∃W1,W1=W0.setCells w.heap.size (i * 2) vs:=⟨_,rfl⟩
 rw[←hW1] at hc1 o2 w1
 have hgr1:w.grownBy W1 (some g):=by rw[hW1];exact z42 hgr (z09 _ _ _) (Nat.le_refl _)
 have wg1:Whole W1 g 91 cur0:=by rw[hW1];exact wg0.grown (z09 _ _ _) (by simpa using hgl)
 have hc2:∀ty dc sc,(Builtin.copy_ #[41,41] ty #[.slice (some ⟨w.heap.size,(i+1) * 2,none⟩) (n - i) dc,.slice (some ⟨g,i * 2,none⟩) (n - i) sc]).run prog W1.drew=.ok (goInt ((n - i:Nat))) (W1.drew.setCells w.heap.size ((i+1) * 2) (xs.drop (i * 2))):=fun ty dc sc=>
  z2d W1.drew _ _ ty 91 i0 2 w.heap.size ((i+1) * 2) (n - i) dc ⟨g,i * 2,none⟩ (n - i) sc (n - i) _ Tryz.underlying41 hi hz1 (by simp only[Nat.min_def];split <;> omega) hdl
   (fun t u hu=>by
    rw[List.getElem?_drop] at hu
    have h2:=hcell _ u hu
    have e1:=wg0.cell (i * 2+t)
    have e2:=w0.cell (i * 2+t)
    have e3:=wg1.drew.cell (i * 2+t)
    rw[Addr.add_lit,show i * 2=i * 2 by omega,e3,←e2]
    exact h2)
   (fun t ht=>by
    rw[show(i+1) * 2=(i+1) * 2 by omega]
    exact z0k w1.drew (o:=(i+1) * 2) (m:=(n - i) * 2) (by rw[l1];omega) t (by omega))
   (fun u hu=>h1 u (List.mem_of_mem_drop hu))
 have O2:=hid (show(W1.drew.setCells w.heap.size ((i+1) * 2) (xs.drop (i * 2))).ownsRow base 91 2 (.slice (some ⟨w.heap.size,0,none⟩) (n+1) G) (n+1) (z12 xs vs (i * 2)) by rw[z4x];exact o2)
 have G2:=hid (show w.grownBy (W1.drew.setCells w.heap.size ((i+1) * 2) (xs.drop (i * 2))) (some g) from z42 (z84 hgr1) (z09 _ _ _) (Nat.le_refl _))
 obtain⟨W2,hW2⟩:∃W2,W2=W1.drew.setCells w.heap.size ((i+1) * 2) (xs.drop (i * 2)):=⟨_,rfl⟩
 rw[←hW2] at hc2 O2 G2
 unfold maxLen at hm hG
 have hz1':¬((i:Int)=(n:Int)):=by omega
 have hw1:IntKind.i64.wrap ((i:Int)+1)=(i:Int)+1:=by rw[IntKind.wrap_i64];omega
 have hw2:IntKind.i64.wrap ((n:Int)+1)=(n:Int)+1:=by rw[IntKind.wrap_i64];omega
 have hw3:IntKind.i64.wrap ((n:Int)+1 - (i:Int))=(n:Int)+1 - (i:Int):=by rw[IntKind.wrap_i64];omega
 have ht1:((i:Int)+1).toNat=i+1:=by omega
 have hb0:i≤n:=by omega
 have hb1:(0:Int)≤(i:Int)+1:=by omega
 have hb4:(i:Int)≤(n:Int)+1:=by omega
 have hb5:(i:Int)≤(n:Int):=by omega
 have hb6:¬(c=i):=by omega
 have hb7:¬(G=i+1):=by omega
 have hb9:¬(G=i):=by omega
 have hb10:(i:Int)≤(c:Int):=by omega
 have hb8:(c:Int) < (n:Int)+1:=by omega
 clear h h1 hv1 hvl hgv hgv0 cur0 cur w0 l0 w1 l1 o2 hxl hdl hW1 hi hz0 hz1 hz2 htl hcell hold hzs hzl hra hW0 wn hgr wg0 wg1 hgr1 hW2
 go_enter Tryz.func253,Tryz.ntmps253
 go_wp2_with (first
  | (at_builtin;refine Lib.wpList_append_run _ rfl _ _ _ _ rfl _ _ rfl rfl _ _ (hrz _) ?_)
  | (at_builtin;refine z2t _ rfl _ _ 41 41 rfl _ _ rfl rfl (hc1 _ _) ?_))
 go_region_law (refine z3t rfl _ _ 41 41 rfl _ _ (by simp[Act.eval,Act.put]) (by simp[Act.eval,Act.put]) (hc2 _ _ _) ?_)
 go_wp2
 go_ret
 exact⟨_,rfl,O2.out,G2.out,.inr rfl⟩
theorem zl0(n i:Nat)(xs vs:List Value)(base gv:Nat)(v:Value)(w:World)(hn:(n+1) * 24≤140737488355328)(hin:i≤n)(h:w.ownsRow base 91 2 v n xs)(h1:∀u∈xs,u.oneCell'=true)(hv1:∀u∈vs,u.oneCell'=true)(hvl:vs.length=2)(hgv:Whole w gv 91 vs)(hne:v.ownBlock≠some gv)(hb:base≤w.heap.size) :
  Calls prog 253 #[v,.int .i64 i,.slice (some ⟨gv,0,none⟩) 1 1] w (zbt (n+1) (z12 xs vs (i * 2)) base v w):=by
 rcases Nat.lt_or_ge i n with hlt|hge
 ·obtain⟨A,c,rfl,hA,hc,hm⟩:=z06 h
  rcases hA with rfl|⟨g,rfl⟩
  ·exfalso
   rcases h.2 with⟨_,h0⟩|⟨g',cap',cur,h',_⟩
   ·omega
   ·cases h'
  ·by_cases hr:n+1≤c
   ·exact zum n i c g xs vs base gv w hlt hr h h1 hv1 hvl hgv (by
     rintro rfl
     exact hne rfl)
   ·exact zrx n i c g xs vs base gv w hn hlt hc (by omega) h h1 hv1 hvl hgv hb
 ·obtain rfl:i=n:=by omega
  have e:z12 xs vs (i * 2)=xs++vs:=by
   have hl:xs.length=i * 2:=h.1
   unfold z12
   rw[List.take_of_length_le (by omega),List.drop_of_length_le (by omega),List.append_nil]
  rw[e]
  exact zsc i xs vs base gv v w hn h hv1 hvl hgv hb
def zvt(l:List (Int×ByteArray))(s:Int×ByteArray):Bool:=match l[z7b l s]? with|some q=>decide (z8h q s=0)|none=>false
theorem zku(l:List (Int×ByteArray))(f:Int)(v:ByteArray)(A:Option Addr)(c B:Nat)(w:World)(hr:rises ltC l=true)(hI:∀q∈l,z0m q.1=true)(hV:z0m f=true)(hl:l.length≤281474976710656)(hB:B≤w.heap.size)(h:Sl w B 2 (.slice A l.length c) l.length (z08 l)) :
  Calls prog 252 #[.slice A l.length c,.agg #[.int .i64 f,.string v],.func (Fn.func 162) #[] #[]] w (z4g (z7b l (f,v)) (zvt l (f,v)) w):=by
 have HS:=hid h
 have HI:=hid hI
 have HV:=hid hV
 have hlow:=zfb l (f,v)
 have HR:=hid hr
 have F0:=hid ((Fr.refl [] w).alloc (.cells #[.int .i64 f,.string v] 91))
 have B0:=hid (Whole.new w 91 [.int .i64 f,.string v])
 clear h hr hI hV
 go_enter Tryz.func252,Tryz.ntmps252
 go_wp2
 go_loopg [9,10] l.length (fun g s9 s10 wr=>∃(lo hi:Nat),g=hi - lo∧s9=.int .i64 lo∧s10=.int .i64 hi∧lo≤z7b l (f,v)∧z7b l (f,v)≤hi∧hi≤l.length∧Fr [] w wr∧Whole wr w.heap.size 91 [.int .i64 f,.string v])
 case atStart=>exact⟨0,l.length,rfl,rfl,rfl,Nat.zero_le _,hlow,Nat.le_refl _,F0.out,B0.out⟩
 case round=>
  obtain⟨lo,hi,rfl,rfl,rfl,h1,h2,h3,hf,hb⟩:=hrel
  have HF:=hid hf
  have HB:=hid hb
  clear hf hb
  by_cases hlt:lo < hi
  ·obtain⟨m,hm⟩:∃m,m=(lo+hi) / 2:=⟨_,rfl⟩
   have hml:m < l.length:=by omega
   obtain⟨b,off,rfl,hb,hc,hmx,hcell⟩:=HS.out.at_ (by omega)
   obtain⟨q,hq⟩:∃q,l[m]? = some q:=⟨_,List.getElem?_eq_getElem hml⟩
   have x1:w.cell? ⟨b,off+m * 2,none⟩=some (.int .i64 q.1):=by rw[Nat.mul_comm];exact hcell _ _ (z0b l m q hq).1
   have x2:w.cell? ⟨b,off+m * 2+1,none⟩=some (.string q.2):=by rw[Nat.mul_comm];exact hcell _ _ (z0b l m q hq).2
   have X1:=hid x1
   have X2:=hid x2
   have c1:=HF.out.cell x1 (by simp)
   have c2:=HF.out.cell x2 (by simp)
   have d1:wr.cell? ⟨w.heap.size,0,none⟩=some (.int .i64 f):=HB.out.cell 0
   have d2:wr.cell? ⟨w.heap.size,1,none⟩=some (.string v):=HB.out.cell 1
   have FL:=hid (fun W=>(show Calls prog 162 #[.agg #[.int .i64 q.1,.string q.2],.agg #[.int .i64 f,.string v]] W (fun e w'=>e=.returned (.int .i64 (z8h q (f,v)))∧Fr [] W w') from zaj q (f,v) W (HI.out q (List.mem_of_getElem? hq)) HV.out))
   have hmi:((lo:Int)+(hi:Int)) / 2=(m:Int):=by omega
   have hM:=hid hm
   have hnew:(z8h q (f,v) < 0→m < z7b l (f,v))∧(¬z8h q (f,v) < 0→z7b l (f,v)≤m):=⟨fun h=>by
    rcases Nat.lt_or_ge m (z7b l (f,v)) with h'|h'
    ·exact h'
    ·exact absurd h (zo7 HR.out h' hq),fun h=>by
    rcases Nat.lt_or_ge m (z7b l (f,v)) with h'|h'
    ·exact absurd (zis h' hq) h
    ·exact h'⟩
   have HN:=hid hnew
   clear x1 x2 hcell hq hnew hm
   generalize z8h q (f,v)=o at *
   by_cases ho:o < 0
   ·have hn:=HN.out.1 ho
    go_wp2
    clear hmi
    go_region_held3 (fun wx=>wx.cell? ⟨b,off+m * 2,none⟩=some (.int .i64 q.1)∧wx.cell? ⟨b,off+m * 2+1,none⟩=some (.string q.2)∧wx.cell? ⟨w.heap.size,0,none⟩=some (.int .i64 f)∧wx.cell? ⟨w.heap.size,1,none⟩=some (.string v)) (go_keep) (first|(go_at_call 162;(refine(FL.out _).mono ?_);rintro e w2 ⟨rfl,f2⟩;have G2:=hid (z01 f2);have c1:=G2.out.cell c1 (by simp);have c2:=G2.out.cell c2 (by simp);have d1:=G2.out.cell d1 (by simp);have d2:=G2.out.cell d2 (by simp);clear f2))
    go_wp2
    go_roundg (hi - (m+1))
    case measure=>have:=hM.out;omega
    case rel=>exact⟨m+1,hi,rfl,by go_num,rfl,by omega,h2,h3,HF.out.trans G2.out,HB.out.fr G2.out (by simp)⟩
   ·have hn:=HN.out.2 ho
    go_wp2
    clear hmi
    go_region_held3 (fun wx=>wx.cell? ⟨b,off+m * 2,none⟩=some (.int .i64 q.1)∧wx.cell? ⟨b,off+m * 2+1,none⟩=some (.string q.2)∧wx.cell? ⟨w.heap.size,0,none⟩=some (.int .i64 f)∧wx.cell? ⟨w.heap.size,1,none⟩=some (.string v)) (go_keep) (first|(go_at_call 162;(refine(FL.out _).mono ?_);rintro e w2 ⟨rfl,f2⟩;have G2:=hid (z01 f2);have c1:=G2.out.cell c1 (by simp);have c2:=G2.out.cell c2 (by simp);have d1:=G2.out.cell d1 (by simp);have d2:=G2.out.cell d2 (by simp);clear f2))
    go_wp2
    go_roundg (m - lo)
    case measure=>have:=hM.out;omega
    case rel=>exact⟨lo,m,rfl,rfl,rfl,h1,hn,by omega,HF.out.trans G2.out,HB.out.fr G2.out (by simp)⟩
  ·obtain rfl:hi=lo:=by omega
   obtain⟨lw,hlw⟩:∃lw,lw=z7b l (f,v):=⟨_,rfl⟩
   obtain rfl:hi=lw:=by omega
   have HL:=hid hlw
   have d1:wr.cell? ⟨w.heap.size,0,none⟩=some (.int .i64 f):=HB.out.cell 0
   have d2:wr.cell? ⟨w.heap.size,1,none⟩=some (.string v):=HB.out.cell 1
   by_cases hn:hi < l.length
   ·obtain⟨b,off,rfl,hb,hc,hmx,hcell⟩:=HS.out.at_ (by omega)
    obtain⟨q,hq⟩:∃q,l[hi]? = some q:=⟨_,List.getElem?_eq_getElem hn⟩
    have c1:=HF.out.cell (show w.cell? ⟨b,off+hi * 2,none⟩=some (.int .i64 q.1) by rw[Nat.mul_comm];exact hcell _ _ (z0b l hi q hq).1) (by simp)
    have c2:=HF.out.cell (show w.cell? ⟨b,off+hi * 2+1,none⟩=some (.string q.2) by rw[Nat.mul_comm];exact hcell _ _ (z0b l hi q hq).2) (by simp)
    have FL:=hid (fun W=>(show Calls prog 162 #[.agg #[.int .i64 q.1,.string q.2],.agg #[.int .i64 f,.string v]] W (fun e w'=>e=.returned (.int .i64 (z8h q (f,v)))∧Fr [] W w') from zaj q (f,v) W (HI.out q (List.mem_of_getElem? hq)) HV.out))
    have HH:=hid (show zvt l (f,v)=decide (z8h q (f,v)=0) from by unfold zvt;rw[←hlw,hq])
    clear hcell hq hlw h1 h2
    generalize z8h q (f,v)=o at *
    by_cases ho:o=0
    ·subst ho
     have HH2:=hid (HH.out.trans (decide_eq_true rfl))
     clear HH
     go_wp2
     go_region_held3 (fun wx=>wx.cell? ⟨b,off+hi * 2,none⟩=some (.int .i64 q.1)∧wx.cell? ⟨b,off+hi * 2+1,none⟩=some (.string q.2)∧wx.cell? ⟨w.heap.size,0,none⟩=some (.int .i64 f)∧wx.cell? ⟨w.heap.size,1,none⟩=some (.string v)) (go_keep) (first|(go_at_call 162;(refine(FL.out _).mono ?_);rintro e w2 ⟨rfl,f2⟩;have G2:=hid (z01 f2);have c1:=G2.out.cell c1 (by simp);have c2:=G2.out.cell c2 (by simp);have d1:=G2.out.cell d1 (by simp);have d2:=G2.out.cell d2 (by simp);clear f2))
     go_wp2
     go_ret2
     refine⟨?_,HF.out.trans G2.out⟩
     rw[←HL.out,HH2.out]
     rfl
    ·have q1:(o==0)=false:=by simpa using ho
     have HH2:=hid (HH.out.trans (decide_eq_false ho))
     clear ho HH
     go_wp2
     go_region_held3 (fun wx=>wx.cell? ⟨b,off+hi * 2,none⟩=some (.int .i64 q.1)∧wx.cell? ⟨b,off+hi * 2+1,none⟩=some (.string q.2)∧wx.cell? ⟨w.heap.size,0,none⟩=some (.int .i64 f)∧wx.cell? ⟨w.heap.size,1,none⟩=some (.string v)) (go_keep) (first|(go_at_call 162;(refine(FL.out _).mono ?_);rintro e w2 ⟨rfl,f2⟩;have G2:=hid (z01 f2);have c1:=G2.out.cell c1 (by simp);have c2:=G2.out.cell c2 (by simp);have d1:=G2.out.cell d1 (by simp);have d2:=G2.out.cell d2 (by simp);clear f2))
     go_wp2
     go_ret2
     refine⟨?_,HF.out.trans G2.out⟩
     rw[←HL.out,HH2.out]
     rfl
   ·have HH:=hid (show zvt l (f,v)=false from by unfold zvt;rw[←hlw,List.getElem?_eq_none (by omega)])
    have hn':decide ((hi:Int) < (l.length:Int))=false:=by simpa using hn
    clear hlw h1 h2
    go_wp2
    go_quiet (fail)
    go_wp2
    go_ret2
    refine⟨?_,HF.out.drewN _⟩
    rw[←HL.out,HH.out]
    rfl
theorem z6a(x:Itm)(v:Value)(w:World)(B:Nat)(hs:x.Small)(hB:B≤w.heap.size)(h:z0q w B v x) :
  Calls prog 248 #[v] w fun e w'=>e=.returned (.int .i64 (z02 5 x))∧Fr [] w w':=by
 have M:=hid (fun W (hf:Fr [] w W)=>zhs x 5 v W B hs (Nat.le_trans hB hf.size) (h.fr hf hB (by simp)))
 obtain⟨A1,c1,A2,c2,A3,c3,rfl,h1,h2,h3⟩:=h
 have F1:Fr [] w (w.alloc (.cells #[.int .i64 x.kind,.string x.text,.slice A1 x.list.length c1,.slice A2 x.pairs.length c2,.slice A3 x.scores.length c3] 43)):=(Fr.refl [] w).alloc _
 go_enter Tryz.func248,Tryz.ntmps248
 go_wp2_with fail
 refine(M.out _ F1).mono ?_
 rintro e w1 ⟨rfl,f1⟩
 go_wp2
 go_ret
 exact⟨rfl,F1.trans f1⟩
theorem ziu(l:List (Int×ByteArray))(A:Option Addr)(c:Nat)(w:World)(B:Nat)(hs:(zb1 l).Small)(hB:B≤w.heap.size)(h:Sl w B 2 (.slice A l.length c) l.length (z08 l)) :
  Calls prog 254 #[.slice A l.length c] w fun e w'=>e=.returned (if l.length=0 then .agg #[.int .i64 0,.string ⟨#[]⟩,.slice none 0 0,.slice none 0 0,.slice none 0 0] else .agg #[.int .i64 5,.string ⟨#[]⟩,.slice none 0 0,.slice none 0 0,.slice A l.length c])∧Fr [] w w':=by
 have hv:z0q w B (.agg #[.int .i64 5,.string ⟨#[]⟩,.slice none 0 0,.slice none 0 0,.slice A l.length c]) (zb1 l):=⟨none,0,none,0,A,c,rfl,Sl.nil _ _ _,Sl.nil _ _ _,h⟩
 have O:=hid (fun W (hf:Fr [] w W)=>(show Calls prog 274 #[.agg #[.int .i64 5,.string ⟨#[]⟩,.slice none 0 0,.slice none 0 0,.slice A l.length c]] W fun e w'=>e=.returned (if l.length=0 then .agg #[.int .i64 0,.string ⟨#[]⟩,.slice none 0 0,.slice none 0 0,.slice none 0 0] else .agg #[.int .i64 5,.string ⟨#[]⟩,.slice none 0 0,.slice none 0 0,.slice A l.length c])∧Fr [] W w' from by have:=zkq (zb1 l) (.agg #[.int .i64 5,.string ⟨#[]⟩,.slice none 0 0,.slice none 0 0,.slice A l.length c]) W B hs (Nat.le_trans hB hf.size) (hv.fr hf hB (by simp)) (show(5:Int)≠1 by decide);unfold ofV at this;rw[show many (zb1 l)=l.length from by show 0+0+l.length=l.length;omega] at this;exact this))
 have F1:Fr [] w (w.alloc (.cells #[.int .i64 0,.string ⟨#[]⟩,.slice none 0 0,.slice none 0 0,.slice none 0 0] 43)):=(Fr.refl [] w).alloc _
 have R1:=hid (show Whole (w.alloc (.cells #[.int .i64 0,.string ⟨#[]⟩,.slice none 0 0,.slice none 0 0,.slice none 0 0] 43)) w.heap.size 43 [.int .i64 0,.string ⟨#[]⟩,.slice none 0 0,.slice none 0 0,.slice none 0 0] from Whole.new w _ _)
 clear hv h hs
 by_cases hm:l.length=0
 ·rw[if_pos hm] at O ⊢
  clear hm
  go_enter Tryz.func254,Tryz.ntmps254
  go_wp2_with fail
  refine(O.out _ F1).mono ?_
  rintro e w1 ⟨rfl,f1⟩
  have F2:=F1.trans f1
  have R2:=hid (R1.out.fr f1 (by simp))
  obtain⟨a0,a1,a2,a3,a4⟩:=five R2.out
  obtain⟨b0,b2,b3,b4,b5⟩:=z10 R2.out
  go_wp2
  refine bodyPost_ret (v:=.agg #[.int .i64 0,.string ⟨#[]⟩,.slice none 0 0,.slice none 0 0,.slice none 0 0]) (by simp[results,Tryz.results254,go_sem,a0,a1,a2,a3,a4]) rfl ?_
  refine⟨rfl,z49 F2 (Nat.le_refl _) _ _ _ _ _⟩
 ·rw[if_neg hm] at O ⊢
  clear hm
  go_enter Tryz.func254,Tryz.ntmps254
  go_wp2_with fail
  refine(O.out _ F1).mono ?_
  rintro e w1 ⟨rfl,f1⟩
  have F2:=F1.trans f1
  have R2:=hid (R1.out.fr f1 (by simp))
  obtain⟨a0,a1,a2,a3,a4⟩:=five R2.out
  obtain⟨b0,b2,b3,b4,b5⟩:=z10 R2.out
  go_wp2
  refine bodyPost_ret (v:=.agg #[.int .i64 5,.string ⟨#[]⟩,.slice none 0 0,.slice none 0 0,.slice A l.length c]) (by simp[results,Tryz.results254,go_sem,a0,a1,a2,a3,a4]) rfl ?_
  refine⟨rfl,z49 F2 (Nat.le_refl _) _ _ _ _ _⟩
def OwnI5(base:Nat)(x:Itm)(w:World)(e:Ending)(w':World):Prop:=∃u,e=.returned u∧z0l w' base u x∧Fr [] w w'
theorem zcb(l:List (Int×ByteArray))(base:Nat)(v:Value)(w:World)(hl:l.length≤1000000)(ht:∀s∈l,(-9223372036854775808≤s.1∧s.1≤9223372036854775807)∧s.2.size≤281474976710656)(h:w.ownsRow base 91 2 v l.length (z08 l)) :
  Calls prog 254 #[v] w (OwnI5 base (ofC l) w):=by
 obtain⟨A,c,rfl,-⟩:=z06 h
 refine(ziu l A c w w.heap.size (zaz hl ht) (Nat.le_refl _) (z0t h)).mono ?_
 rintro e w' ⟨rfl,hf⟩
 unfold ofC
 by_cases h0:l.length=0
 ·rw[if_pos h0,if_pos h0]
  exact⟨_,rfl,z0l.nothing _ _,hf⟩
 ·rw[if_neg h0,if_neg h0]
  exact⟨_,rfl,⟨_,_,_,rfl,⟨rfl,.inl ⟨rfl,rfl⟩⟩,⟨rfl,.inl ⟨rfl,rfl⟩⟩,z0n h hf (by simp)⟩,hf⟩
theorem zm1(x:Int×ByteArray)(m:ByteArray)(g:Nat)(w:World)(hg:w.cell? ⟨g,0,none⟩=some (.string m)) :
  Calls prog 282 (#[.agg #[.int .i64 x.1,.string x.2]]++#[.pointer (some ⟨g,0,none⟩)]) w fun e w'=>e=.returned (.bool (decide (x.2=m)))∧Fr [] w w':=by
 have E:=hid (eqB x.2 m)
 have F1:Fr [] w (w.alloc (.cells #[.int .i64 x.1,.string x.2] 91)):=(Fr.refl [] w).alloc _
 have hg1:(w.alloc (.cells #[.int .i64 x.1,.string x.2] 91)).cell? ⟨g,0,none⟩=some (.string m):=F1.cell hg (by simp)
 have V1:=hid (Whole.new w 91 [.int .i64 x.1,.string x.2])
 have c1:(w.alloc (.cells #[.int .i64 x.1,.string x.2] 91)).cell? ⟨w.heap.size,1,none⟩=some (.string x.2):=V1.out.cell 1
 clear hg
 go_enter Tryz.func282,Tryz.ntmps282
 go_wp2
 go_ret
 exact⟨by rw[←E.out];rfl,F1⟩
theorem ziy(m:ByteArray)(g D:Nat)(w:World)(h:w.cell? ⟨g,0,none⟩=some (.string m))(hg:g < D):zln 282 #[.pointer (some ⟨g,0,none⟩)] (fun q=>decide (q.2=m)) D w:=
 fun W x hW=>zm1 x m g W (z4t hW h hg (by simp))
theorem zg2(l:List (Int×ByteArray))(m:ByteArray)(A:Option Addr)(c B:Nat)(w:World)(hl:l.length≤281474976710656)(hB:B≤w.heap.size)(h:Sl w B 2 (.slice A l.length c) l.length (z08 l)) :
  Calls prog 250 #[.slice A l.length c,.string m] w fun e w'=>e=.returned (.int .i64 (z3c (fun q:Int×ByteArray=>decide (q.2=m)) l))∧Fr [] w w':=by
 have F1:=hid ((Fr.refl [] w).alloc (.cells #[.string m] 9))
 have hsz:(w.alloc (.cells #[.string m] 9)).heap.size=w.heap.size+1:=by simp
 have hp:zln 282 #[.pointer (some ⟨w.heap.size,0,none⟩)] (fun q=>decide (q.2=m)) (w.heap.size+1) (w.alloc (.cells #[.string m] 9)):=ziy m w.heap.size _ _ ((Whole.new w 9 [.string m]).cell 0) (by omega)
 have I:=hid (zk1 282 #[.pointer (some ⟨w.heap.size,0,none⟩)] (z1x Tryz.func282 (by kernel_rfl) rfl) _ _ l A c B _ hp hl (by omega) (h.fr F1.out hB (by simp)))
 clear hp h hsz
 go_enter Tryz.func250,Tryz.ntmps250
 go_wp2_with fail
 refine I.out.mono ?_
 rintro e w1 ⟨rfl,h1⟩
 go_wp2
 go_ret
 exact⟨rfl,F1.out.trans h1⟩
theorem zer(l:List (Int×ByteArray))(A:Option Addr)(c:Nat)(w:World)(B:Nat)(hl:l.length≤281474976710656)(hB:B≤w.heap.size)(h:Sl w B 2 (.slice A l.length c) l.length (z08 l)) :
  Calls prog 249 #[.slice A l.length c] w fun e w'=>e=.returned (.int .i64 (z45 l))∧Fr [] w w':=by
 have HS:=hid h
 have E:=hid (show z45 l=if l.length=0 then 1 else zbf l from rfl)
 clear h
 by_cases h0:l.length=0
 ·have E1:=hid (E.out.trans (if_pos h0))
  have q0:((l.length:Int)==0)=true:=by simp[h0]
  clear E h0
  go_enter Tryz.func249,Tryz.ntmps249
  go_wp2
  go_ret
  rw[E1.out]
  exact⟨rfl,Fr.refl _ _⟩
 ·have E1:=hid (E.out.trans (if_neg h0))
  have q0:((l.length:Int)==0)=false:=beq_eq_false_iff_ne.2 (by omega)
  clear E
  go_enter Tryz.func249,Tryz.ntmps249
  go_wp2
  go_loopg [10] l.length (fun g i wr=>∃(k:Nat),g=l.length - k∧k≤l.length∧i=.int .i64 k∧Hid (zbf l=zbf (l.drop k))∧Fr [] w wr)
  case atStart=>exact⟨0,rfl,Nat.zero_le _,rfl,hid rfl,Fr.refl _ _⟩
  case round=>
   obtain⟨k,rfl,hk,rfl,HE,hf⟩:=hrel
   have HF:=hid hf
   clear hf
   by_cases hlt:k < l.length
   ·obtain⟨b,off,rfl,hb,hc,hm,hcell⟩:=HS.out.at_ (by omega)
    obtain⟨s,hs⟩:∃s,l[k]? = some s:=⟨_,List.getElem?_eq_getElem hlt⟩
    have hc1:wr.cell? ⟨b,off+2 * k,none⟩=some (.int .i64 s.1):=HF.out.cell (hcell _ _ (z0b l k s hs).1) (by simp)
    have hc2:wr.cell? ⟨b,off+2 * k+1,none⟩=some (.string s.2):=HF.out.cell (hcell _ _ (z0b l k s hs).2) (by simp)
    rw[Nat.mul_comm 2 k] at hc1 hc2
    have ST:=hid (HE.out.trans (zm7 hs))
    have II:=hid (fun W=>z6h s.1 W)
    have LO:=hid (fun W=>z2w s.2 W)
    clear hcell hs
    by_cases h1:z0m s.1=true
    ·have ST2:=hid (ST.out.trans (if_neg (by rw[h1];decide)))
     rw[h1] at II
     by_cases h2:60 < s.2.size
     ·have E2:=hid (E1.out.trans (ST2.out.trans (if_pos h2)))
      rw[decide_eq_true h2] at LO
      clear h1 h2 ST ST2
      go_wp2_with fail
      refine(II.out _).mono ?_
      rintro e w1 ⟨rfl,rfl⟩
      go_wp2_with fail
      refine(LO.out _).mono ?_
      rintro e w1 ⟨rfl,rfl⟩
      go_wp2
      go_ret
      rw[E2.out]
      exact⟨rfl,HF.out.alloc _⟩
     ·have ST3:=hid (ST2.out.trans (if_neg h2))
      rw[decide_eq_false h2] at LO
      clear h1 h2 ST ST2
      go_wp2_with fail
      refine(II.out _).mono ?_
      rintro e w1 ⟨rfl,rfl⟩
      go_wp2_with fail
      refine(LO.out _).mono ?_
      rintro e w1 ⟨rfl,rfl⟩
      go_wp2
      go_roundg (l.length - (k+1))
      case measure=>omega
      case rel=>exact⟨k+1,rfl,by omega,by go_num,ST3,HF.out.alloc _⟩
    ·have h1':z0m s.1=false:=by simpa using h1
     have E2:=hid (E1.out.trans (ST.out.trans (if_pos h1')))
     rw[h1'] at II
     clear h1 h1' ST
     go_wp2_with fail
     refine(II.out _).mono ?_
     rintro e w1 ⟨rfl,rfl⟩
     go_wp2
     go_ret
     rw[E2.out]
     exact⟨rfl,HF.out.alloc _⟩
   ·have E2:=hid (E1.out.trans (HE.out.trans (zpg (by omega))))
    go_wp2
    go_ret
    rw[E2.out]
    exact⟨rfl,HF.out⟩
theorem zq4(x:Int×ByteArray)(l:List ByteArray)(A:Option Addr)(c g B:Nat)(w:World)(hl:l.length≤281474976710656)(hB:B≤w.heap.size)(h:Sl w B 1 (.slice A l.length c) l.length (z03 l))(hg:w.cell? ⟨g,0,none⟩=some (.slice A l.length c)) :
  Calls prog 256 (#[.agg #[.int .i64 x.1,.string x.2]]++#[.pointer (some ⟨g,0,none⟩)]) w fun e w'=>e=.returned (.bool (l.any fun y=>decide (y=x.2)))∧Fr [] w w':=by
 have F1:Fr [] w (w.alloc (.cells #[.int .i64 x.1,.string x.2] 91)):=(Fr.refl [] w).alloc _
 have V1:=hid (show Whole (w.alloc (.cells #[.int .i64 x.1,.string x.2] 91)) w.heap.size 91 [.int .i64 x.1,.string x.2] from Whole.new w _ _)
 have CT:=hid (fun W (hf:Fr [] w W)=>z6x l x.2 A c B W hl (Nat.le_trans hB hf.size) (h.fr hf hB (by simp)))
 have hgl:g < w.heap.size:=World.block_lt_of_cell? w _ hg
 have hg1:(w.alloc (.cells #[.int .i64 x.1,.string x.2] 91)).cell? ⟨g,0,none⟩=some (.slice A l.length c):=F1.cell hg (by simp)
 have c1:(w.alloc (.cells #[.int .i64 x.1,.string x.2] 91)).cell? ⟨w.heap.size,1,none⟩=some (.string x.2):=V1.out.cell 1
 generalize (l.any fun y=>decide (y=x.2))=b at *
 clear h hg
 go_enter Tryz.func256,Tryz.ntmps256
 go_wp2_with fail
 refine(CT.out _ F1).mono ?_
 rintro e w1 ⟨rfl,rfl⟩
 go_wp2
 go_ret
 exact⟨rfl,F1⟩
theorem zli(l:List ByteArray)(A:Option Addr)(c g D:Nat)(w:World)(hl:l.length≤281474976710656)(hD:D≤w.heap.size)(h:Sl w D 1 (.slice A l.length c) l.length (z03 l))(hc:w.cell? ⟨g,0,none⟩=some (.slice A l.length c))(hg:g < D) :
  zln 256 #[.pointer (some ⟨g,0,none⟩)] (fun x=>l.any fun y=>decide (y=x.2)) D w:=
 fun W x hW=>zq4 x l A c g D W hl (Nat.le_trans hD hW.size) (zq0 h hW (Nat.le_refl _)) (z4t hW hc hg (by simp))
end Go.Proofs.YtamgdmiopinidaaGreatDoor
