/- Contracts; no condition but each theorem's own. -/
import Derived.Test.YtmkhmejempcimaaGreatDoorSlU6
import Derived.Test.YtmkhmejempcimaaGreatDoorSlU7
import Derived.Laws.NewBlocks
import Derived.Lib.Overlaps
set_option linter.unusedVariables false
set_option linter.unusedSimpArgs false
set_option maxHeartbeats 8000000
set_option maxRecDepth 100000
namespace Go.Proofs.YtmkhmejempcimaaGreatDoor
open Lib (hid)
open Go.Proofs.Tryz (prog)
open Go.RowKit
def zl0(m:Nat)(ys:List Value)(base:Nat)(v:Value)(w:World)(e:Ending)(w':World):Prop:=
 ∃v',e=.returned v'∧w'.ownsRow base 74 7 v' m ys∧w.grownBy w' v.ownBlock∧v'.ownBlock=v.ownBlock
theorem zeroE:∀w,(zeroValue 74).run prog w=.ok (.agg #[.string ⟨#[]⟩,.int .i64 0,.string ⟨#[]⟩,.slice none 0 0,.slice none 0 0,.slice none 0 0,.int .i64 0]) w:=fun w=>by kernel_rfl
theorem zm2(n i j:Nat)(xs:List Value)(base:Nat)(v:Value)(w:World)(hn:n≤281474976710656)(hij:i < j)(hj:j≤n)(h:w.ownsRow base 74 7 v n xs)(h1:∀u∈xs,u.oneCell'=true):
  Calls prog 231 #[v,.int .i64 i,.int .i64 j] w (zl0 (i+(n - j)) (xs.take (i * 7)++xs.drop (j * 7)) base v w):=by
 obtain⟨i0,hi,hz0,hz1,hz2⟩:=info_parts z6m;obtain⟨A,c,rfl,hA,hc,hm⟩:=z02 h;rcases hA with rfl|⟨g,rfl⟩
 ·exfalso;rcases h.2 with⟨_,h0⟩|⟨g',cap',cur,h',_⟩
  ·omega
  ·cases h'
 obtain⟨cur0,w0,l0,t0,hb0,_,_,hxl⟩:=z1i h;have hdl:(xs.drop (j * 7)).length=(n - j) * 7:=by rw[List.length_drop,hxl];omega
 obtain⟨zs,hzs⟩:∃zs,zs=(Builtin.zeroCells (Value.cells (.agg #[.string ⟨#[]⟩,.int .i64 0,.string ⟨#[]⟩,.slice none 0 0,.slice none 0 0,.slice none 0 0,.int .i64 0])) (n - (i+(n - j)))).toList:=⟨_,rfl⟩;have hzl:zs.length=(j - i) * 7:=by rw[hzs];simp[Builtin.zeroCells,Value.cells];omega
 obtain⟨cur1,w1,l1,o2⟩:=zct (w:=w.drew) h hij hj hzl
 obtain⟨A,hA,hsrc⟩:∃A:Addr,(if c=j then (some ⟨g,0,none⟩:Option Addr) else some ⟨g,j * 7,none⟩)=some A∧Hid (∀t u,(xs.drop (j * 7))[t]? = some u→w.drew.cell? (A.add t)=some u):=by
  by_cases hcj:c=j
  ·refine⟨⟨g,0,none⟩,by simp[hcj],fun t u hu=>?_⟩;have h0:(xs.drop (j * 7)).length=0:=by rw[hdl];omega
   rw[List.length_eq_zero_iff.1 h0] at hu;simp at hu
  ·refine⟨⟨g,j * 7,none⟩,by simp[hcj],fun t u hu=>?_⟩;rw[List.getElem?_drop] at hu;have hlt:=(List.getElem?_eq_some_iff.1 hu).1;have:=(h.cellAt (j * 7+t) (by omega)).trans hu;unfold Addr.add;split
   ·have e:t=0:=by assumption
    subst e;exact this
   ·exact this
 have s1:=hid hdl;have s2:=hid (show ∀u∈xs.drop (j * 7),u.oneCell'=true from fun u hu=>h1 u (List.mem_of_mem_drop hu));have hcn:(i+(n - j)) * 7≤c * 7:=Nat.mul_le_mul_right _ (by omega)
 have s3:=hid (show ∀t,t < (xs.drop (j * 7)).length→(w.drew.cell? ⟨g,0+i * 7+t,none⟩).isSome=true∧w.drew.frozen? ⟨g,0+i * 7+t,none⟩=false from fun t ht=>by
  rw[Nat.zero_add];exact z12 w0 (o:=i * 7) (m:=(n - j) * 7) (by rw[l0];omega) t (by omega))
 obtain⟨W1,hW1⟩:∃W1,W1=w.drew.setCells g (0+i * 7) (xs.drop (j * 7)):=⟨_,rfl⟩
 have hcl:∀ty,(Builtin.clear_ #[28] ty #[.slice (some ⟨g,(i+(n - j)) * 7,none⟩) (n - (i+(n - j))) (c - (i+(n - j)))]).run prog W1=.ok (.tuple #[]) (W1.setCells g ((i+(n - j)) * 7) zs):=fun ty=>by
  have:=z4d (P:=prog) W1 28 74 ty (.agg #[.string ⟨#[]⟩,.int .i64 0,.string ⟨#[]⟩,.slice none 0 0,.slice none 0 0,.slice none 0 0,.int .i64 0]) Tryz.underlying28 zeroE (by intro u hu;simp[Value.cells] at hu;rcases hu with rfl|rfl|rfl|rfl|rfl|rfl|rfl <;> rfl) g ((i+(n - j)) * 7) (n - (i+(n - j))) (c - (i+(n - j))) (by omega) (fun t ht=>by
   rw[hW1,Nat.zero_add];exact z12 (w:=(w.drew.setCells g (i * 7) (xs.drop (j * 7)))) w1 (o:=(i+(n - j)) * 7) (m:=(n - (i+(n - j))) * 7) (by rw[l1];omega) t (by simpa[Value.cells] using ht))
  rw[←hzs,show(i+(n - j)) * 7=(i+(n - j)) * 7 by omega] at this;exact this
 rw[show(i+(n - j)) * 7=(i+(n - j)) * 7 by omega] at o2;have O2:=hid o2;have HW:=hid hW1;have hic:i≤c:=by omega
 have hjc:j≤c:=by omega
 have hlt:i < j:=hij;unfold maxLen at hm;clear h h1 cur0 w0 l0 t0 hb0 hxl hdl hzs hzl w1 l1 o2 cur1 hW1 hcn;go_enter Tryz.func231,Tryz.ntmps231;go_wp2_with fail
 go_region_law (refine step_append_room rfl (.tmp 22) (.tmp 25) 28 rfl 74 i0 7 Tryz.underlying28 hi hz1 g 0 i c (by simp[Act.eval,Act.put]) A (n - j) (c - j) (xs.drop (j * 7)) (by simp[Act.eval,Act.put]) s1.out hsrc.out s2.out (by omega) s3.out ?_;rw[←HW.out])
 go_wp2;go_ret;have e1:=HW.out;rw[Nat.zero_add] at e1;subst e1;exact⟨_,rfl,O2.out,z2b ((z0e _ _ _).trans (z0e _ _ _)),rfl⟩
def z7s(m:Nat)(ys:List Value)(base:Nat)(v:Value)(w:World)(e:Ending)(w':World):Prop:=
 ∃v',e=.returned v'∧w'.ownsRow base 74 7 v' m ys∧w.grownBy w' v.ownBlock∧(v'.ownBlock=v.ownBlock∨v'.ownBlock=some w.heap.size)
theorem zly(n:Nat)(xs vs:List Value)(base gv:Nat)(v:Value)(w:World)(hn:(n+1) * 120≤140737488355328)(h:w.ownsRow base 74 7 v n xs)(hv1:∀u∈vs,u.oneCell'=true)(hvl:vs.length=7)(hgv:Whole w gv 74 vs)(hb:base≤w.heap.size):
  Calls prog 232 #[v,.int .i64 n,.slice (some ⟨gv,0,none⟩) 1 1] w (z7s (n+1) (xs++vs) base v w):=by
 obtain⟨i0,hi,hz0,hz1,hz2⟩:=info_parts z6m;have hs:Sl w w.heap.size 7 (.slice (some ⟨gv,0,none⟩) 1 1) 1 vs:=⟨_,_,rfl,by omega,by omega,by unfold maxLen;omega,fun _=>⟨gv,0,rfl,hgv.lt,fun j u hu=>by rw[Nat.zero_add,hgv.cell];exact hu⟩⟩;have HS:=hid hs;have HO:=hid h;have H1:=hid hv1;obtain⟨A,c,rfl,hA,hc,hm⟩:=z02 h;unfold maxLen at hm;clear hs h hv1 hvl hgv;rcases hA with rfl|⟨g,rfl⟩
 ·have hn0:n=0:=by
   rcases HO.out.2 with⟨_,h0⟩|⟨g',cap',cur,h',_⟩
   ·exact h0
   ·cases h'
  subst hn0;go_enter Tryz.func232,Tryz.ntmps232;go_wp2_with (at_builtin;refine z42 _ rfl _ _ 28 27 rfl base 74 i0 _ 7 120 Tryz.underlying28 Tryz.underlying27 hi hz0 hz1 hz2 rfl (by decide) _ _ _ rfl HO.out _ _ 1 vs rfl HS.out H1.out ?c1 ?c2 hb ?_)
  case c1=>unfold maxLen;omega
  case c2=>omega
  intro v' w2 hown' hgrow hat;go_wp2;go_ret;exact⟨_,rfl,hown',hgrow,hat⟩
 ·by_cases hcn:c=n
  all_goals
   go_enter Tryz.func232,Tryz.ntmps232;go_wp2_with (at_builtin;refine z42 _ rfl _ _ 28 27 rfl base 74 i0 _ 7 120 Tryz.underlying28 Tryz.underlying27 hi hz0 hz1 hz2 rfl (by decide) _ _ _ rfl HO.out _ _ 1 vs rfl HS.out H1.out (by unfold maxLen;omega) (by omega) hb (fun v' w2 hown' hgrow hat=>?_));go_ret;exact⟨_,rfl,hown',hgrow,hat⟩
theorem zo8(n i c g:Nat)(xs vs:List Value)(base gv:Nat)(w:World)(hin:i < n)(hr:n+1≤c)(h:w.ownsRow base 74 7 (.slice (some ⟨g,0,none⟩) n c) n xs)(h1:∀u∈xs,u.oneCell'=true)(hv1:∀u∈vs,u.oneCell'=true)(hvl:vs.length=7)(hgv:Whole w gv 74 vs)(hne:gv≠g):
  Calls prog 232 #[.slice (some ⟨g,0,none⟩) n c,.int .i64 i,.slice (some ⟨gv,0,none⟩) 1 1] w (z7s (n+1) (z2d xs vs (i * 7)) base (.slice (some ⟨g,0,none⟩) n c) w):=by
 obtain⟨i0,hi,hz0,hz1,hz2⟩:=info_parts z6m;obtain⟨cur0,cur,w0,l0,w1,l1,o2⟩:=znp (w:=w.drew) h (Nat.le_of_lt hin) hr hvl;obtain⟨_,_,_,_,_,_,hm,hxl⟩:=z1i h;have hdl:(xs.drop (i * 7)).length=(n - i) * 7:=by rw[List.length_drop,hxl];omega
 have hov:∀lb cb,(callFunc 256 #[.slice (some ⟨gv,0,none⟩) 1 1,.slice (some ⟨g,(i+1) * 7,none⟩) lb cb]).run prog w=.ok (.value (.bool false)) w:=fun lb cb=>by
  rw[run_callFunc_extern Tryz.func256 (by kernel_rfl) (by kernel_rfl) (by kernel_rfl) (e:=Extern.SlicesOverlaps.overlaps #[27,27] #[4]) (by kernel_rfl),
   Lib.run_overlaps_apart w 27 4 74 Tryz.underlying27 7 (fun w=>by kernel_rfl) ⟨gv,0,none⟩ ⟨g,(i+1) * 7,none⟩ 1 1 lb cb hne 74 74 vs.length cur0.length (by unfold Whole at hgv;simp[World.shape?,hgv]) (by have:=w0;unfold Whole at this;have:w.heap[g]? = _:=this;simp[World.shape?,this]) (by rw[l0];omega) (hgv.frozen _) (hgv.frozen _)]
  rfl
 have hc1:∀ty dc sc,(Builtin.copy_ #[28,28] ty #[.slice (some ⟨g,(i+1) * 7,none⟩) (n - i) dc,.slice (some ⟨g,i * 7,none⟩) (n+1 - i) sc]).run prog w.drew=.ok (goInt ((n - i:Nat))) (w.drew.setCells g ((i+1) * 7) (xs.drop (i * 7))):=fun ty dc sc=>
  z54 w.drew _ _ ty 74 i0 7 g ((i+1) * 7) (n - i) dc ⟨g,i * 7,none⟩ (n+1 - i) sc (n - i) _ Tryz.underlying28 hi hz1 (by simp only[Nat.min_def];split <;> omega) hdl
   (fun t u hu=>by
     rw[List.getElem?_drop] at hu;have hlt:=(List.getElem?_eq_some_iff.1 hu).1;have:=(h.cellAt (i * 7+t) (by omega)).trans hu;rw[Addr.add_lit,show i * 7=i * 7 by omega];exact this)
   (fun t ht=>by
     rw[show(i+1) * 7=(i+1) * 7 by omega];exact z12 w0 (o:=(i+1) * 7) (m:=(n - i) * 7) (by rw[l0];omega) t (by omega))
   (fun u hu=>h1 u (List.mem_of_mem_drop hu))
 rw[show(i+1) * 7=(i+1) * 7 by omega] at w1 o2;obtain⟨W1,hW1⟩:∃W1,W1=w.drew.setCells g ((i+1) * 7) (xs.drop (i * 7)):=⟨_,rfl⟩;rw[←hW1] at hc1 w1 o2
 have hgv1:Whole W1 gv 74 vs:=by
  rw[hW1];exact hgv.drew.grown (z0e _ _ _) (by simpa using hne)
 rw[show i * 7=i * 7 by omega] at o2
 have hc2:∀ty dc,(Builtin.copy_ #[28,27] ty #[.slice (some ⟨g,i * 7,none⟩) (n+1 - i) dc,.slice (some ⟨gv,0,none⟩) 1 1]).run prog W1=.ok (goInt ((1:Nat))) (W1.setCells g (i * 7) vs):=fun ty dc=>
  z54 W1 _ _ ty 74 i0 7 g (i * 7) (n+1 - i) dc ⟨gv,0,none⟩ 1 1 1 vs Tryz.underlying28 hi hz1 (by simp only[Nat.min_def];split <;> omega) (by omega)
   (fun t u hu=>by
     rw[Addr.add_lit,Nat.zero_add,hgv1.cell];exact hu)
   (fun t ht=>by
     rw[show i * 7=i * 7 by omega];exact z12 w1 (o:=i * 7) (m:=7) (by rw[l1];omega) t (by omega))
   hv1
 have HW:=hid hW1;have O2:=hid o2;unfold maxLen at hm;have hz1':¬((i:Int)=(n:Int)):=by omega
 have hw1:IntKind.i64.wrap ((i:Int)+1)=(i:Int)+1:=by rw[IntKind.wrap_i64];omega
 have hw2:IntKind.i64.wrap ((n:Int)+1)=(n:Int)+1:=by rw[IntKind.wrap_i64];omega
 have ht1:((i:Int)+1).toNat=i+1:=by omega
 have ht2:((n:Int)+1).toNat=n+1:=by omega
 have hb0:i≤n:=by omega
 have hb1:(0:Int)≤(i:Int)+1:=by omega
 have hb2:(0:Int)≤(n:Int)+1:=by omega
 have hb3:(n:Int)+1≤(c:Int):=by omega
 have hb4:(i:Int)≤(n:Int)+1:=by omega
 have hb5:(i:Int)≤(n:Int):=by omega
 have hb6:¬(c=i):=by omega
 have hb7:¬(c=i+1):=by omega
 have hb8:¬((c:Int) < (n:Int)+1):=by omega
 clear h h1 hv1 hvl hgv hgv1 cur0 cur w0 l0 w1 l1 o2 hxl hdl hW1 hi hz0 hz1 hz2;go_enter Tryz.func232,Tryz.ntmps232;go_wp2_with (simp only[hov])
 go_region_law (refine z72 rfl _ _ 28 28 rfl _ _ (by simp[Act.eval,Act.put]) (by simp[Act.eval,Act.put]) (hc1 _ _ _) ?_)
 go_wp2_with (at_builtin;refine z5i _ rfl _ _ 28 27 rfl _ _ rfl rfl (hc2 _ _) ?_);go_ret;refine⟨_,rfl,O2.out,?_,.inl rfl⟩;rw[HW.out];exact z2b ((z0e _ _ _).trans (z0e _ _ _))
theorem zl3(n i c g:Nat)(xs vs:List Value)(base gv:Nat)(w:World)(hn:(n+1) * 120≤140737488355328)(hin:i < n)(hnc:n≤c)(hr:c < n+1)(h:w.ownsRow base 74 7 (.slice (some ⟨g,0,none⟩) n c) n xs)(h1:∀u∈xs,u.oneCell'=true)(hv1:∀u∈vs,u.oneCell'=true)(hvl:vs.length=7)(hgv:Whole w gv 74 vs)(hb:base≤w.heap.size):
  Calls prog 232 #[.slice (some ⟨g,0,none⟩) n c,.int .i64 i,.slice (some ⟨gv,0,none⟩) 1 1] w (z7s (n+1) (z2d xs vs (i * 7)) base (.slice (some ⟨g,0,none⟩) n c) w):=by
 obtain⟨i0,hi,hz0,hz1,hz2⟩:=info_parts z6m;obtain⟨cur0,w0,l0,hx0,_,_,hm,hxl⟩:=z1i h;clear hx0;have hdl:(xs.drop (i * 7)).length=(n - i) * 7:=by rw[List.length_drop,hxl];omega
 have htl:(xs.take (i * 7)).length=i * 7:=by rw[List.length_take,hxl];omega
 have hcell:∀t u,xs[t]? = some u→w.cell? ⟨g,t,none⟩=some u:=fun t u hu=>by
  have hlt:=(List.getElem?_eq_some_iff.1 hu).1;exact(h.cellAt t (by omega)).trans hu
 have hold:(Builtin.firstCells i0.size i (.slice (some ⟨g,0,none⟩) i c)).run prog w.drew=.ok (xs.take (i * 7)).toArray w.drew:=by
  rw[hz1]
  exact run_firstCells_some w.drew 7 i ⟨g,0,none⟩ i c (xs.take (i * 7)) htl (fun t u hu=>by
   rw[Addr.add_lit,Nat.zero_add];rw[List.getElem?_take] at hu;split at hu
   ·exact hcell t u hu
   ·cases hu)
 have hG:grownCap w (n+1) c 74≤maxLen:=grownCap_le_maxLen w _ _ _ (by unfold maxLen;omega);have hGe:n+1≤grownCap w (n+1) c 74:=grownCap_ge w _ _ _
 have hrz:∀ty,(Builtin.append_ #[28,3] ty #[.slice (some ⟨g,0,none⟩) i c,.int .i64 ((n:Int)+1 - (i:Int))]).run prog w =
   .ok (.slice (some ⟨w.heap.size,0,none⟩) (n+1) (grownCap w (n+1) c 74)) (w.drew.alloc (.cells ((xs.take (i * 7)).toArray++Builtin.zeroCells (Value.cells (.agg #[.string ⟨#[]⟩,.int .i64 0,.string ⟨#[]⟩,.slice none 0 0,.slice none 0 0,.slice none 0 0,.int .i64 0])) (n+1 - i)++Builtin.zeroCells (Value.cells (.agg #[.string ⟨#[]⟩,.int .i64 0,.string ⟨#[]⟩,.slice none 0 0,.slice none 0 0,.slice none 0 0,.int .i64 0])) (grownCap w (n+1) c 74 - (n+1))) 74)):=fun ty=>by
  have hik:i+(n+1 - i)=n+1:=by omega
  have h:=Lib.run_append_grow_zeros w 28 3 ty 74 i0 _ .i64 .i64 Tryz.underlying28 Tryz.underlying3 hi hz0 (some ⟨g,0,none⟩) i c _ hold (n+1 - i) (by omega) (by omega) (by omega) (by omega) (by rw[hz2];omega) (by rw[hz2,hik];exact growslice_fits hr hn);rw[hik] at h;rw[show(n:Int)+1 - (i:Int)=((n+1 - i:Nat):Int) by omega];exact h
 generalize grownCap w (n+1) c 74=G at *;obtain⟨zs,hzs⟩:∃zs,zs=(Builtin.zeroCells (Value.cells (.agg #[.string ⟨#[]⟩,.int .i64 0,.string ⟨#[]⟩,.slice none 0 0,.slice none 0 0,.slice none 0 0,.int .i64 0])) (n+1 - i)++Builtin.zeroCells (Value.cells (.agg #[.string ⟨#[]⟩,.int .i64 0,.string ⟨#[]⟩,.slice none 0 0,.slice none 0 0,.slice none 0 0,.int .i64 0])) (G - (n+1))).toList:=⟨_,rfl⟩;have hzl:zs.length=(n+1 - i) * 7+(G - (n+1)) * 7:=by rw[hzs];simp[Builtin.zeroCells,Value.cells];try omega
 have hra:(xs.take (i * 7)).toArray++Builtin.zeroCells (Value.cells (.agg #[.string ⟨#[]⟩,.int .i64 0,.string ⟨#[]⟩,.slice none 0 0,.slice none 0 0,.slice none 0 0,.int .i64 0])) (n+1 - i)++Builtin.zeroCells (Value.cells (.agg #[.string ⟨#[]⟩,.int .i64 0,.string ⟨#[]⟩,.slice none 0 0,.slice none 0 0,.slice none 0 0,.int .i64 0])) (G - (n+1))=(xs.take (i * 7)++zs).toArray:=by
  rw[hzs];simp
 rw[hra] at hrz;obtain⟨W0,hW0⟩:∃W0,W0=w.drew.alloc (.cells (xs.take (i * 7)++zs).toArray 74):=⟨_,rfl⟩;rw[←hW0] at hrz;have wn:Whole W0 w.heap.size 74 (xs.take (i * 7)++zs):=by rw[hW0];exact Whole.new w.drew 74 _
 have hgr:w.grownBy W0 (some g):=by rw[hW0];exact z2b (ze1 _ _ _)
 have hgv0:Whole W0 gv 74 vs:=by rw[hW0];exact hgv.drew.alloc _
 have wg0:Whole W0 g 74 cur0:=by rw[hW0];exact w0.drew.alloc _
 have hgl:g≠w.heap.size:=Nat.ne_of_lt w0.lt;obtain⟨cur,w1,l1,o2⟩:=znh (i:=i) (n:=n) (base:=base) hxl (Nat.le_of_lt hin) hvl hGe hG hb wn (by rw[List.length_append,htl,hzl];omega);rw[show(i+1) * 7=(i+1) * 7 by omega,show i * 7=i * 7 by omega] at o2;rw[show i * 7=i * 7 by omega] at w1
 have hc1:∀ty dc,(Builtin.copy_ #[28,27] ty #[.slice (some ⟨w.heap.size,i * 7,none⟩) (n+1 - i) dc,.slice (some ⟨gv,0,none⟩) 1 1]).run prog W0=.ok (goInt ((1:Nat))) (W0.setCells w.heap.size (i * 7) vs):=fun ty dc=>
  z54 W0 _ _ ty 74 i0 7 w.heap.size (i * 7) (n+1 - i) dc ⟨gv,0,none⟩ 1 1 1 vs Tryz.underlying28 hi hz1 (by simp only[Nat.min_def];split <;> omega) (by omega)
   (fun t u hu=>by
     rw[Addr.add_lit,Nat.zero_add,hgv0.cell];exact hu)
   (fun t ht=>by
     rw[show i * 7=i * 7 by omega];exact z12 wn (o:=i * 7) (m:=7) (by rw[List.length_append,htl,hzl];omega) t (by omega))
   hv1
 obtain⟨W1,hW1⟩:∃W1,W1=W0.setCells w.heap.size (i * 7) vs:=⟨_,rfl⟩;rw[←hW1] at hc1 o2 w1;have hgr1:w.grownBy W1 (some g):=by rw[hW1];exact z8g hgr (z0e _ _ _) (Nat.le_refl _)
 have wg1:Whole W1 g 74 cur0:=by rw[hW1];exact wg0.grown (z0e _ _ _) (by simpa using hgl)
 have hc2:∀ty dc sc,(Builtin.copy_ #[28,28] ty #[.slice (some ⟨w.heap.size,(i+1) * 7,none⟩) (n - i) dc,.slice (some ⟨g,i * 7,none⟩) (n - i) sc]).run prog W1.drew=.ok (goInt ((n - i:Nat))) (W1.drew.setCells w.heap.size ((i+1) * 7) (xs.drop (i * 7))):=fun ty dc sc=>
  z54 W1.drew _ _ ty 74 i0 7 w.heap.size ((i+1) * 7) (n - i) dc ⟨g,i * 7,none⟩ (n - i) sc (n - i) _ Tryz.underlying28 hi hz1 (by simp only[Nat.min_def];split <;> omega) hdl
   (fun t u hu=>by
     rw[List.getElem?_drop] at hu;have h2:=hcell _ u hu;have e1:=wg0.cell (i * 7+t);have e2:=w0.cell (i * 7+t);have e3:=wg1.drew.cell (i * 7+t);rw[Addr.add_lit,show i * 7=i * 7 by omega,e3,←e2];exact h2)
   (fun t ht=>by
     rw[show(i+1) * 7=(i+1) * 7 by omega];exact z12 w1.drew (o:=(i+1) * 7) (m:=(n - i) * 7) (by rw[l1];omega) t (by omega))
   (fun u hu=>h1 u (List.mem_of_mem_drop hu))
 have O2:=hid (show(W1.drew.setCells w.heap.size ((i+1) * 7) (xs.drop (i * 7))).ownsRow base 74 7 (.slice (some ⟨w.heap.size,0,none⟩) (n+1) G) (n+1) (z2d xs vs (i * 7)) by rw[z6d];exact o2);have G2:=hid (show w.grownBy (W1.drew.setCells w.heap.size ((i+1) * 7) (xs.drop (i * 7))) (some g) from z8g (z9a hgr1) (z0e _ _ _) (Nat.le_refl _));obtain⟨W2,hW2⟩:∃W2,W2=W1.drew.setCells w.heap.size ((i+1) * 7) (xs.drop (i * 7)):=⟨_,rfl⟩;rw[←hW2] at hc2 O2 G2;unfold maxLen at hm hG;have hz1':¬((i:Int)=(n:Int)):=by omega
 have hw1:IntKind.i64.wrap ((i:Int)+1)=(i:Int)+1:=by rw[IntKind.wrap_i64];omega
 have hw2:IntKind.i64.wrap ((n:Int)+1)=(n:Int)+1:=by rw[IntKind.wrap_i64];omega
 have hw3:IntKind.i64.wrap ((n:Int)+1 - (i:Int))=(n:Int)+1 - (i:Int):=by rw[IntKind.wrap_i64];omega
 have ht1:((i:Int)+1).toNat=i+1:=by omega
 have hb0:i≤n:=by omega
 have hb1:(0:Int)≤(i:Int)+1:=by omega
 have hb4:(i:Int)≤(n:Int)+1:=by omega
 have hb5:(i:Int)≤(n:Int):=by omega
 have hb6:¬(c=i):=by omega
 have hb7:¬(G=i+1):=by omega
 have hb9:¬(G=i):=by omega
 have hb10:(i:Int)≤(c:Int):=by omega
 have hb8:(c:Int) < (n:Int)+1:=by omega
 clear h h1 hv1 hvl hgv hgv0 cur0 cur w0 l0 w1 l1 o2 hxl hdl hW1 hi hz0 hz1 hz2 htl hcell hold hzs hzl hra hW0 wn hgr wg0 wg1 hgr1 hW2;go_enter Tryz.func232,Tryz.ntmps232
 go_wp2_with (first
  | (at_builtin;refine Lib.wpList_append_run _ rfl _ _ _ _ rfl _ _ rfl rfl _ _ (hrz _) ?_)
  | (at_builtin;refine z5i _ rfl _ _ 28 27 rfl _ _ rfl rfl (hc1 _ _) ?_))
 go_region_law (refine z72 rfl _ _ 28 28 rfl _ _ (by simp[Act.eval,Act.put]) (by simp[Act.eval,Act.put]) (hc2 _ _ _) ?_)
 go_wp2;go_ret;exact⟨_,rfl,O2.out,G2.out,.inr rfl⟩
theorem zlf(n i:Nat)(xs vs:List Value)(base gv:Nat)(v:Value)(w:World)(hn:(n+1) * 120≤140737488355328)(hin:i≤n)(h:w.ownsRow base 74 7 v n xs)(h1:∀u∈xs,u.oneCell'=true)(hv1:∀u∈vs,u.oneCell'=true)(hvl:vs.length=7)(hgv:Whole w gv 74 vs)(hne:v.ownBlock≠some gv)(hb:base≤w.heap.size):
  Calls prog 232 #[v,.int .i64 i,.slice (some ⟨gv,0,none⟩) 1 1] w (z7s (n+1) (z2d xs vs (i * 7)) base v w):=by
 rcases Nat.lt_or_ge i n with hlt|hge
 ·obtain⟨A,c,rfl,hA,hc,hm⟩:=z02 h;rcases hA with rfl|⟨g,rfl⟩
  ·exfalso;rcases h.2 with⟨_,h0⟩|⟨g',cap',cur,h',_⟩
   ·omega
   ·cases h'
  ·by_cases hr:n+1≤c
   ·exact zo8 n i c g xs vs base gv w hlt hr h h1 hv1 hvl hgv (by
     rintro rfl;exact hne rfl)
   ·exact zl3 n i c g xs vs base gv w hn hlt hc (by omega) h h1 hv1 hvl hgv hb
 ·obtain rfl:i=n:=by omega
  have e:z2d xs vs (i * 7)=xs++vs:=by
   have hl:xs.length=i * 7:=h.1;unfold z2d;rw[List.take_of_length_le (by omega),List.drop_of_length_le (by omega),List.append_nil]
  rw[e];exact zly i xs vs base gv v w hn h hv1 hvl hgv hb
end Go.Proofs.YtmkhmejempcimaaGreatDoor
namespace Go.Proofs.YtmkhmejempcimaaGreatDoor
open Lib (hid)
open Go.Proofs.Tryz (prog)
structure AsOk(k:Int)(x:Itm):Prop where
 kind:x.kind=0∨x.kind=k
 le24:many x≤24
 text:x.text.size≤60
 texts:∀s∈x.list,s.size≤60
 fields:∀p∈x.pairs,p.1.size≤60∧p.2.size≤60
 members:∀p∈x.scores,z17 p.1=true∧p.2.size≤60
 bare:z4o x=true
 none:x.kind=0→many x=0
 some:x.kind≠0→z08 x=0
theorem zjq{k:Int}{x:Itm}(h:z0a k x=0):AsOk k x:=by
 unfold z0a at h;by_cases hn:z0m x=true
 ·unfold z0m at hn;rw[Bool.and_eq_true] at hn;obtain⟨h1,h2⟩:=hn;have hk:x.kind=0:=by simpa using h1
  have hb:=h2;unfold z4o at hb;rw[hk] at hb;simp at hb;obtain⟨⟨⟨e1,e2⟩,e3⟩,e4⟩:=hb;have e2:x.list=[]:=by simpa using e2
  have e3:x.pairs=[]:=by simpa using e3
  have e4:x.scores=[]:=by simpa using e4
  have e1:x.text.size=0:=by
   first|exact e1|(rw[e1];rfl)
  exact⟨.inl hk,by unfold many;rw[e2,e3,e4];simp,by omega,by rw[e2];simp,by rw[e3];simp,by rw[e4];simp,h2,fun _=>by unfold many;rw[e2,e3,e4];simp,fun hn=>absurd hk hn⟩
 ·rw[if_neg hn] at h;by_cases hc:z08 x=0
  ·rw[if_pos hc] at h;have r:=z2c hc;by_cases hk:x.kind=k
   ·exact⟨.inr hk,r.many,r.text,r.texts,r.fields,r.members,r.bare,fun h0=>by have:=r.kind;omega,fun _=>hc⟩
   ·rw[if_neg hk] at h;cases h
  ·rw[if_neg hc] at h;exact absurd h hc
def zpu(n:Nat)(f t:Int):Nat:=
 let f':=if f < 0 then max 0 (f+n) else f
 let t':=min (if t < 0 then t+n else t) ((n:Int) - 1)
 if f' > t' then 0 else f'.toNat
def zp0(n:Nat)(f t:Int):Nat:=
 let f':=if f < 0 then max 0 (f+n) else f
 let t':=min (if t < 0 then t+n else t) ((n:Int) - 1)
 if f' > t' then 0 else (t'+1).toNat
def zd7{α:Type}(l:List α)(f t:Int):List α:=(l.take (zp0 l.length f t)).drop (zpu l.length f t)
def z0r(x:Itm)(l:List ByteArray):Int:=if z0a 2 x≠0 then z0a 2 x else if z19 l≠0 then z19 l else if 24 < x.list.length+l.length then 2 else 0
def z4t(x:Itm)(left:Bool)(l:List ByteArray):List ByteArray:=if left then l.reverse++x.list else x.list++l
def z9u(x:Itm):Int:=if z0a 2 x≠0 then z0a 2 x else if x.kind=0 then 5 else 0
def popL(x:Itm)(left:Bool):List ByteArray:=if left then x.list.drop 1 else x.list.take (x.list.length - 1)
def popS(x:Itm)(left:Bool):ByteArray:=x.list.getD (if left then 0 else x.list.length - 1) ⟨#[]⟩
def remL(x:Itm)(s:ByteArray):List ByteArray:=x.list.filter fun y=>!decide (y=s)
def ofL(l:List ByteArray):Itm:=if l.length=0 then z2l 0 else zd8 l
def z6t(x:Itm)(left:Bool)(l:List ByteArray):Itm:=if z0r x l=0 then ofL (z4t x left l) else z2l 0
def z99(x:Itm)(left:Bool)(l:List ByteArray):Int:=if z0r x l=0 then (z4t x left l).length else 0
def popY(x:Itm)(left:Bool):Itm:=if z9u x=0 then ofL (popL x left) else z2l 0
def popT(x:Itm)(left:Bool):ByteArray:=if z9u x=0 then popS x left else ⟨#[]⟩
def remY(x:Itm)(s:ByteArray):Itm:=if z0a 2 x=0 then ofL (remL x s) else z2l 0
def remK(x:Itm)(s:ByteArray):Int:=if z0a 2 x=0 then (x.list.length:Int) - (remL x s).length else 0
theorem z9n{l:List ByteArray}(h:z19 l=0):∀s∈l,s.size≤60:=by
 unfold z19 at h;by_cases h0:l.length=0
 ·rw[if_pos h0] at h;cases h
 ·rw[if_neg h0] at h;by_cases h1:l.any z2r=true
  ·rw[if_pos h1] at h;cases h
  ·intro s hs;rw[Bool.not_eq_true,List.any_eq_false] at h1;have:=h1 s hs;unfold z2r at this;simpa using this
theorem zfk{x:Itm}{left:Bool}{l:List ByteArray}{s:ByteArray}(h:s∈z4t x left l):s∈x.list∨s∈l:=by
 unfold z4t at h;cases left
 ·simpa using h
 ·simpa[or_comm] using h
theorem z49(x:Itm)(left:Bool)(l:List ByteArray):(z4t x left l).length=x.list.length+l.length:=by
 unfold z4t;cases left
 ·simp
 ·simp;omega
end Go.Proofs.YtmkhmejempcimaaGreatDoor
namespace Go.Proofs.YtmkhmejempcimaaGreatDoor
open Lib (hid)
open Go.Proofs.Tryz (prog)
open Go.RowKit
attribute [local go_sem] z0p
theorem z8d{l:List ByteArray}(hl:l.length≤1000000)(ht:∀s∈l,s.size≤281474976710656):(zd8 l).Small:=
 ⟨by show -9223372036854775808≤(2:Int)∧(2:Int)≤9223372036854775807;omega,by show(⟨#[]⟩:ByteArray).size≤_;decide,by show l.length≤_;omega,by show 0≤_;omega,by show 0≤_;omega,ht,(fun p hp=>by cases hp),(fun p hp=>by cases hp)⟩
def tA:ByteArray:=⟨#[97]⟩
def tB:ByteArray:=⟨#[98]⟩
def zgr:Itm:=zd8 [tA,tB,tA]
theorem zmu(w:World):Calls prog 38 #[] w (zk4 zgr w):=by
 go_enter Tryz.func38,Tryz.ntmps38;go_wp2;refine bodyPost_ret (v:=.agg #[.int .i64 2,.string ⟨#[]⟩,.slice (some ⟨w.heap.size+1,0,none⟩) 3 3,.slice none 0 0,.slice none 0 0]) (by simp[results,Tryz.results38,go_sem]) rfl ?_;have hb:=heap_alloc_new (w.alloc (.cells #[.int .i64 2,.string ⟨#[]⟩,.slice (some ⟨w.heap.size+1,0,none⟩) 3 3,.slice none 0 0,.slice none 0 0] 46)) (.cells #[.string ⟨#[97]⟩,.string ⟨#[98]⟩,.string ⟨#[97]⟩] 9);have hz:(w.alloc (.cells #[.int .i64 2,.string ⟨#[]⟩,.slice (some ⟨w.heap.size+1,0,none⟩) 3 3,.slice none 0 0,.slice none 0 0] 46)).heap.size=w.heap.size+1:=by simp
 rw[hz] at hb;exact⟨_,rfl,⟨_,_,_,rfl,⟨rfl,.inr ⟨w.heap.size+1,3,_,rfl,by omega,hb,Nat.le_refl _,by decide,rfl,rfl⟩⟩,⟨rfl,.inl ⟨rfl,rfl⟩⟩,⟨rfl,.inl ⟨rfl,rfl⟩⟩⟩,((Fr.refl [] w).alloc _).alloc _⟩
end Go.Proofs.YtmkhmejempcimaaGreatDoor
