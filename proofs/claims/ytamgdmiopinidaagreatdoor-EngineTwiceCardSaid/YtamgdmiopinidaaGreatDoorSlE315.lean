/- Contracts that the proof of E3 uses. No condition beyond those in each theorem. -/
import Derived.Test.YtamgdmiopinidaaGreatDoorSlE314
import Derived.Laws.NewBlocks
import Derived.Lib.Overlaps
set_option linter.unusedVariables false
set_option linter.unusedSimpArgs false
set_option maxHeartbeats 8000000
set_option maxRecDepth 100000
namespace Go.Proofs.YtamgdmiopinidaaGreatDoor
open Lib (hid)
open Tryz (prog)
open Go.RowKit
def zsj(m:Nat)(ys:List Value)(base:Nat)(v:Value)(w:World)(e:Ending)(w':World):Prop:=
 ∃v',e=.returned v'∧w'.ownsRow base 45 7 v' m ys∧w.grownBy w' v.ownBlock∧v'.ownBlock=v.ownBlock
theorem zeroE:∀w,(zeroValue 45).run prog w=.ok (.agg #[.string ⟨#[]⟩,.int .i64 0,.string ⟨#[]⟩,.slice none 0 0,.slice none 0 0,.slice none 0 0,.int .i64 0]) w:=fun w=>by kernel_rfl
theorem ztf(n i j:Nat)(xs:List Value)(base:Nat)(v:Value)(w:World)(hn:n≤281474976710656)(hij:i < j)(hj:j≤n)(h:w.ownsRow base 45 7 v n xs)(h1:∀u∈xs,u.oneCell'=true) :
  Calls prog 145 #[v,.int .i64 i,.int .i64 j] w (zsj (i+(n - j)) (xs.take (i * 7)++xs.drop (j * 7)) base v w):=by
 obtain⟨i0,hi,hz0,hz1,hz2⟩:=info_parts zc8
 obtain⟨A,c,rfl,hA,hc,hm⟩:=z06 h
 rcases hA with rfl|⟨g,rfl⟩
 ·exfalso
  rcases h.2 with⟨_,h0⟩|⟨g',cap',cur,h',_⟩
  ·omega
  ·cases h'
 obtain⟨cur0,w0,l0,t0,hb0,_,_,hxl⟩:=z28 h
 have hdl:(xs.drop (j * 7)).length=(n - j) * 7:=by rw[List.length_drop,hxl];omega
 obtain⟨zs,hzs⟩:∃zs,zs=(Builtin.zeroCells (Value.cells (.agg #[.string ⟨#[]⟩,.int .i64 0,.string ⟨#[]⟩,.slice none 0 0,.slice none 0 0,.slice none 0 0,.int .i64 0])) (n - (i+(n - j)))).toList:=⟨_,rfl⟩
 have hzl:zs.length=(j - i) * 7:=by rw[hzs];simp[Builtin.zeroCells,Value.cells];omega
 obtain⟨cur1,w1,l1,o2⟩:=zig (w:=w.drew) h hij hj hzl
 obtain⟨A,hA,hsrc⟩:∃A:Addr,(if c=j then (some ⟨g,0,none⟩:Option Addr) else some ⟨g,j * 7,none⟩)=some A∧Hid (∀t u,(xs.drop (j * 7))[t]? = some u→w.drew.cell? (A.add t)=some u):=by
  by_cases hcj:c=j
  ·refine⟨⟨g,0,none⟩,by simp[hcj],fun t u hu=>?_⟩
   have h0:(xs.drop (j * 7)).length=0:=by rw[hdl];omega
   rw[List.length_eq_zero_iff.1 h0] at hu
   simp at hu
  ·refine⟨⟨g,j * 7,none⟩,by simp[hcj],fun t u hu=>?_⟩
   rw[List.getElem?_drop] at hu
   have hlt:=(List.getElem?_eq_some_iff.1 hu).1
   have:=(h.cellAt (j * 7+t) (by omega)).trans hu
   unfold Addr.add
   split
   ·have e:t=0:=by assumption
    subst e
    exact this
   ·exact this
 have s1:=hid hdl
 have s2:=hid (show ∀u∈xs.drop (j * 7),u.oneCell'=true from fun u hu=>h1 u (List.mem_of_mem_drop hu))
 have hcn:(i+(n - j)) * 7≤c * 7:=Nat.mul_le_mul_right _ (by omega)
 have s3:=hid (show ∀t,t < (xs.drop (j * 7)).length→(w.drew.cell? ⟨g,0+i * 7+t,none⟩).isSome=true∧w.drew.frozen? ⟨g,0+i * 7+t,none⟩=false from fun t ht=>by
  rw[Nat.zero_add]
  exact z0k w0 (o:=i * 7) (m:=(n - j) * 7) (by rw[l0];omega) t (by omega))
 obtain⟨W1,hW1⟩:∃W1,W1=w.drew.setCells g (0+i * 7) (xs.drop (j * 7)):=⟨_,rfl⟩
 have hcl:∀ty,(Builtin.clear_ #[23] ty #[.slice (some ⟨g,(i+(n - j)) * 7,none⟩) (n - (i+(n - j))) (c - (i+(n - j)))]).run prog W1=.ok (.tuple #[]) (W1.setCells g ((i+(n - j)) * 7) zs):=fun ty=>by
  have:=z3j (P:=prog) W1 23 45 ty (.agg #[.string ⟨#[]⟩,.int .i64 0,.string ⟨#[]⟩,.slice none 0 0,.slice none 0 0,.slice none 0 0,.int .i64 0]) Tryz.underlying23 zeroE (by intro u hu;simp[Value.cells] at hu;rcases hu with rfl|rfl|rfl|rfl|rfl|rfl|rfl <;> rfl) g ((i+(n - j)) * 7) (n - (i+(n - j))) (c - (i+(n - j))) (by omega) (fun t ht=>by
   rw[hW1,Nat.zero_add]
   exact z0k (w:=(w.drew.setCells g (i * 7) (xs.drop (j * 7)))) w1 (o:=(i+(n - j)) * 7) (m:=(n - (i+(n - j))) * 7) (by rw[l1];omega) t (by simpa[Value.cells] using ht))
  rw[←hzs,show(i+(n - j)) * 7=(i+(n - j)) * 7 by omega] at this
  exact this
 rw[show(i+(n - j)) * 7=(i+(n - j)) * 7 by omega] at o2
 have O2:=hid o2
 have HW:=hid hW1
 have hic:i≤c:=by omega
 have hjc:j≤c:=by omega
 have hlt:i < j:=hij
 unfold maxLen at hm
 clear h h1 cur0 w0 l0 t0 hb0 hxl hdl hzs hzl w1 l1 o2 cur1 hW1 hcn
 go_enter Tryz.func145,Tryz.ntmps145
 go_wp2_with fail
 go_region_law (refine step_append_room rfl (.tmp 22) (.tmp 25) 23 rfl 45 i0 7 Tryz.underlying23 hi hz1 g 0 i c (by simp[Act.eval,Act.put]) A (n - j) (c - j) (xs.drop (j * 7)) (by simp[Act.eval,Act.put]) s1.out hsrc.out s2.out (by omega) s3.out ?_;rw[←HW.out])
 go_wp2
 go_ret
 have e1:=HW.out
 rw[Nat.zero_add] at e1
 subst e1
 exact⟨_,rfl,O2.out,z24 ((z09 _ _ _).trans (z09 _ _ _)),rfl⟩
def zbs(m:Nat)(ys:List Value)(base:Nat)(v:Value)(w:World)(e:Ending)(w':World):Prop:=
 ∃v',e=.returned v'∧w'.ownsRow base 45 7 v' m ys∧w.grownBy w' v.ownBlock∧(v'.ownBlock=v.ownBlock∨v'.ownBlock=some w.heap.size)
theorem zrk(n:Nat)(xs vs:List Value)(base gv:Nat)(v:Value)(w:World)(hn:(n+1) * 120≤140737488355328)(h:w.ownsRow base 45 7 v n xs)(hv1:∀u∈vs,u.oneCell'=true)(hvl:vs.length=7)(hgv:Whole w gv 45 vs)(hb:base≤w.heap.size) :
  Calls prog 146 #[v,.int .i64 n,.slice (some ⟨gv,0,none⟩) 1 1] w (zbs (n+1) (xs++vs) base v w):=by
 obtain⟨i0,hi,hz0,hz1,hz2⟩:=info_parts zc8
 have hs:Sl w w.heap.size 7 (.slice (some ⟨gv,0,none⟩) 1 1) 1 vs:=⟨_,_,rfl,by omega,by omega,by unfold maxLen;omega,fun _=>⟨gv,0,rfl,hgv.lt,fun j u hu=>by rw[Nat.zero_add,hgv.cell];exact hu⟩⟩
 have HS:=hid hs
 have HO:=hid h
 have H1:=hid hv1
 obtain⟨A,c,rfl,hA,hc,hm⟩:=z06 h
 unfold maxLen at hm
 clear hs h hv1 hvl hgv
 rcases hA with rfl|⟨g,rfl⟩
 ·have hn0:n=0:=by
   rcases HO.out.2 with⟨_,h0⟩|⟨g',cap',cur,h',_⟩
   ·exact h0
   ·cases h'
  subst hn0
  go_enter Tryz.func146,Tryz.ntmps146
  go_wp2_with (at_builtin;refine z63 _ rfl _ _ 23 22 rfl base 45 i0 _ 7 120 Tryz.underlying23 Tryz.underlying22 hi hz0 hz1 hz2 rfl (by decide) _ _ _ rfl HO.out _ _ 1 vs rfl HS.out H1.out ?c1 ?c2 hb ?_)
  case c1=>unfold maxLen;omega
  case c2=>omega
  intro v' w2 hown' hgrow hat
  go_wp2
  go_ret
  exact⟨_,rfl,hown',hgrow,hat⟩
 ·by_cases hcn:c=n
  all_goals
   go_enter Tryz.func146,Tryz.ntmps146
   go_wp2_with (at_builtin;refine z63 _ rfl _ _ 23 22 rfl base 45 i0 _ 7 120 Tryz.underlying23 Tryz.underlying22 hi hz0 hz1 hz2 rfl (by decide) _ _ _ rfl HO.out _ _ 1 vs rfl HS.out H1.out (by unfold maxLen;omega) (by omega) hb (fun v' w2 hown' hgrow hat=>?_))
   go_ret
   exact⟨_,rfl,hown',hgrow,hat⟩
theorem zv4(n i c g:Nat)(xs vs:List Value)(base gv:Nat)(w:World)(hin:i < n)(hr:n+1≤c)(h:w.ownsRow base 45 7 (.slice (some ⟨g,0,none⟩) n c) n xs)(h1:∀u∈xs,u.oneCell'=true)(hv1:∀u∈vs,u.oneCell'=true)(hvl:vs.length=7)(hgv:Whole w gv 45 vs)(hne:gv≠g) :
  Calls prog 146 #[.slice (some ⟨g,0,none⟩) n c,.int .i64 i,.slice (some ⟨gv,0,none⟩) 1 1] w (zbs (n+1) (z12 xs vs (i * 7)) base (.slice (some ⟨g,0,none⟩) n c) w):=by
 obtain⟨i0,hi,hz0,hz1,hz2⟩:=info_parts zc8
 obtain⟨cur0,cur,w0,l0,w1,l1,o2⟩:=zin (w:=w.drew) h (Nat.le_of_lt hin) hr hvl
 obtain⟨_,_,_,_,_,_,hm,hxl⟩:=z28 h
 have hdl:(xs.drop (i * 7)).length=(n - i) * 7:=by rw[List.length_drop,hxl];omega
 have hov:∀lb cb,(callFunc 213 #[.slice (some ⟨gv,0,none⟩) 1 1,.slice (some ⟨g,(i+1) * 7,none⟩) lb cb]).run prog w=.ok (.value (.bool false)) w:=fun lb cb=>by
  rw[run_callFunc_extern Tryz.func213 (by kernel_rfl) (by kernel_rfl) (by kernel_rfl) (e:=Extern.SlicesOverlaps.overlaps #[22,22] #[4]) (by kernel_rfl),
   Lib.run_overlaps_apart w 22 4 45 Tryz.underlying22 7 (fun w=>by kernel_rfl) ⟨gv,0,none⟩ ⟨g,(i+1) * 7,none⟩ 1 1 lb cb hne 45 45 vs.length cur0.length (by unfold Whole at hgv;simp[World.shape?,hgv]) (by have:=w0;unfold Whole at this;have:w.heap[g]? = _:=this;simp[World.shape?,this]) (by rw[l0];omega) (hgv.frozen _) (hgv.frozen _)]
  rfl
 have hc1:∀ty dc sc,(Builtin.copy_ #[23,23] ty #[.slice (some ⟨g,(i+1) * 7,none⟩) (n - i) dc,.slice (some ⟨g,i * 7,none⟩) (n+1 - i) sc]).run prog w.drew=.ok (goInt ((n - i:Nat))) (w.drew.setCells g ((i+1) * 7) (xs.drop (i * 7))):=fun ty dc sc=>
  z2d w.drew _ _ ty 45 i0 7 g ((i+1) * 7) (n - i) dc ⟨g,i * 7,none⟩ (n+1 - i) sc (n - i) _ Tryz.underlying23 hi hz1 (by simp only[Nat.min_def];split <;> omega) hdl
   (fun t u hu=>by
    rw[List.getElem?_drop] at hu
    have hlt:=(List.getElem?_eq_some_iff.1 hu).1
    have:=(h.cellAt (i * 7+t) (by omega)).trans hu
    rw[Addr.add_lit,show i * 7=i * 7 by omega]
    exact this)
   (fun t ht=>by
    rw[show(i+1) * 7=(i+1) * 7 by omega]
    exact z0k w0 (o:=(i+1) * 7) (m:=(n - i) * 7) (by rw[l0];omega) t (by omega))
   (fun u hu=>h1 u (List.mem_of_mem_drop hu))
 rw[show(i+1) * 7=(i+1) * 7 by omega] at w1 o2
 obtain⟨W1,hW1⟩:∃W1,W1=w.drew.setCells g ((i+1) * 7) (xs.drop (i * 7)):=⟨_,rfl⟩
 rw[←hW1] at hc1 w1 o2
 have hgv1:Whole W1 gv 45 vs:=by
  rw[hW1]
  exact hgv.drew.grown (z09 _ _ _) (by simpa using hne)
 rw[show i * 7=i * 7 by omega] at o2
 have hc2:∀ty dc,(Builtin.copy_ #[23,22] ty #[.slice (some ⟨g,i * 7,none⟩) (n+1 - i) dc,.slice (some ⟨gv,0,none⟩) 1 1]).run prog W1=.ok (goInt ((1:Nat))) (W1.setCells g (i * 7) vs):=fun ty dc=>
  z2d W1 _ _ ty 45 i0 7 g (i * 7) (n+1 - i) dc ⟨gv,0,none⟩ 1 1 1 vs Tryz.underlying23 hi hz1 (by simp only[Nat.min_def];split <;> omega) (by omega)
   (fun t u hu=>by
    rw[Addr.add_lit,Nat.zero_add,hgv1.cell]
    exact hu)
   (fun t ht=>by
    rw[show i * 7=i * 7 by omega]
    exact z0k w1 (o:=i * 7) (m:=7) (by rw[l1];omega) t (by omega))
   hv1
 have HW:=hid hW1
 have O2:=hid o2
 unfold maxLen at hm
 have hz1':¬((i:Int)=(n:Int)):=by omega
 have hw1:IntKind.i64.wrap ((i:Int)+1)=(i:Int)+1:=by rw[IntKind.wrap_i64];omega
 have hw2:IntKind.i64.wrap ((n:Int)+1)=(n:Int)+1:=by rw[IntKind.wrap_i64];omega
 have ht1:((i:Int)+1).toNat=i+1:=by omega
 have ht2:((n:Int)+1).toNat=n+1:=by omega
 have hb0:i≤n:=by omega
 have hb1:(0:Int)≤(i:Int)+1:=by omega
 have hb2:(0:Int)≤(n:Int)+1:=by omega
 have hb3:(n:Int)+1≤(c:Int):=by omega
 have hb4:(i:Int)≤(n:Int)+1:=by omega
 have hb5:(i:Int)≤(n:Int):=by omega
 have hb6:¬(c=i):=by omega
 have hb7:¬(c=i+1):=by omega
 have hb8:¬((c:Int) < (n:Int)+1):=by omega
 clear h h1 hv1 hvl hgv hgv1 cur0 cur w0 l0 w1 l1 o2 hxl hdl hW1 hi hz0 hz1 hz2
 go_enter Tryz.func146,Tryz.ntmps146
 go_wp2_with (simp only[hov])
 go_region_law (refine z3t rfl _ _ 23 23 rfl _ _ (by simp[Act.eval,Act.put]) (by simp[Act.eval,Act.put]) (hc1 _ _ _) ?_)
 go_wp2_with (at_builtin;refine z2t _ rfl _ _ 23 22 rfl _ _ rfl rfl (hc2 _ _) ?_)
 go_ret
 refine⟨_,rfl,O2.out,?_,.inl rfl⟩
 rw[HW.out]
 exact z24 ((z09 _ _ _).trans (z09 _ _ _))
theorem zsk(n i c g:Nat)(xs vs:List Value)(base gv:Nat)(w:World)(hn:(n+1) * 120≤140737488355328)(hin:i < n)(hnc:n≤c)(hr:c < n+1)(h:w.ownsRow base 45 7 (.slice (some ⟨g,0,none⟩) n c) n xs)(h1:∀u∈xs,u.oneCell'=true)(hv1:∀u∈vs,u.oneCell'=true)(hvl:vs.length=7)(hgv:Whole w gv 45 vs)(hb:base≤w.heap.size) :
  Calls prog 146 #[.slice (some ⟨g,0,none⟩) n c,.int .i64 i,.slice (some ⟨gv,0,none⟩) 1 1] w (zbs (n+1) (z12 xs vs (i * 7)) base (.slice (some ⟨g,0,none⟩) n c) w):=by
 obtain⟨i0,hi,hz0,hz1,hz2⟩:=info_parts zc8
 obtain⟨cur0,w0,l0,hx0,_,_,hm,hxl⟩:=z28 h
 clear hx0
 have hdl:(xs.drop (i * 7)).length=(n - i) * 7:=by rw[List.length_drop,hxl];omega
 have htl:(xs.take (i * 7)).length=i * 7:=by rw[List.length_take,hxl];omega
 have hcell:∀t u,xs[t]? = some u→w.cell? ⟨g,t,none⟩=some u:=fun t u hu=>by
  have hlt:=(List.getElem?_eq_some_iff.1 hu).1
  exact(h.cellAt t (by omega)).trans hu
 have hold:(Builtin.firstCells i0.size i (.slice (some ⟨g,0,none⟩) i c)).run prog w.drew=.ok (xs.take (i * 7)).toArray w.drew:=by
  rw[hz1]
  exact run_firstCells_some w.drew 7 i ⟨g,0,none⟩ i c (xs.take (i * 7)) htl (fun t u hu=>by
   rw[Addr.add_lit,Nat.zero_add]
   rw[List.getElem?_take] at hu
   split at hu
   ·exact hcell t u hu
   ·cases hu)
 have hG:grownCap w (n+1) c 45≤maxLen:=grownCap_le_maxLen w _ _ _ (by unfold maxLen;omega)
 have hGe:n+1≤grownCap w (n+1) c 45:=grownCap_ge w _ _ _
 have hrz:∀ty,(Builtin.append_ #[23,3] ty #[.slice (some ⟨g,0,none⟩) i c,.int .i64 ((n:Int)+1 - (i:Int))]).run prog w =
   .ok (.slice (some ⟨w.heap.size,0,none⟩) (n+1) (grownCap w (n+1) c 45)) (w.drew.alloc (.cells ((xs.take (i * 7)).toArray++Builtin.zeroCells (Value.cells (.agg #[.string ⟨#[]⟩,.int .i64 0,.string ⟨#[]⟩,.slice none 0 0,.slice none 0 0,.slice none 0 0,.int .i64 0])) (n+1 - i)++Builtin.zeroCells (Value.cells (.agg #[.string ⟨#[]⟩,.int .i64 0,.string ⟨#[]⟩,.slice none 0 0,.slice none 0 0,.slice none 0 0,.int .i64 0])) (grownCap w (n+1) c 45 - (n+1))) 45)):=fun ty=>by
  have hik:i+(n+1 - i)=n+1:=by omega
  have h:=Lib.run_append_grow_zeros w 23 3 ty 45 i0 _ .i64 .i64 Tryz.underlying23 Tryz.underlying3 hi hz0 (some ⟨g,0,none⟩) i c _ hold (n+1 - i) (by omega) (by omega) (by omega) (by omega) (by rw[hz2];omega) (by rw[hz2,hik];exact growslice_fits hr hn)
  rw[hik] at h
  rw[show(n:Int)+1 - (i:Int)=((n+1 - i:Nat):Int) by omega]
  exact h
 generalize grownCap w (n+1) c 45=G at *
 obtain⟨zs,hzs⟩:∃zs,zs=(Builtin.zeroCells (Value.cells (.agg #[.string ⟨#[]⟩,.int .i64 0,.string ⟨#[]⟩,.slice none 0 0,.slice none 0 0,.slice none 0 0,.int .i64 0])) (n+1 - i)++Builtin.zeroCells (Value.cells (.agg #[.string ⟨#[]⟩,.int .i64 0,.string ⟨#[]⟩,.slice none 0 0,.slice none 0 0,.slice none 0 0,.int .i64 0])) (G - (n+1))).toList:=⟨_,rfl⟩
 have hzl:zs.length=(n+1 - i) * 7+(G - (n+1)) * 7:=by rw[hzs];simp[Builtin.zeroCells,Value.cells];try omega
 have hra:(xs.take (i * 7)).toArray++Builtin.zeroCells (Value.cells (.agg #[.string ⟨#[]⟩,.int .i64 0,.string ⟨#[]⟩,.slice none 0 0,.slice none 0 0,.slice none 0 0,.int .i64 0])) (n+1 - i)++Builtin.zeroCells (Value.cells (.agg #[.string ⟨#[]⟩,.int .i64 0,.string ⟨#[]⟩,.slice none 0 0,.slice none 0 0,.slice none 0 0,.int .i64 0])) (G - (n+1))=(xs.take (i * 7)++zs).toArray:=by
  rw[hzs];simp
 rw[hra] at hrz
 obtain⟨W0,hW0⟩:∃W0,W0=w.drew.alloc (.cells (xs.take (i * 7)++zs).toArray 45):=⟨_,rfl⟩
 rw[←hW0] at hrz
 have wn:Whole W0 w.heap.size 45 (xs.take (i * 7)++zs):=by rw[hW0];exact Whole.new w.drew 45 _
 have hgr:w.grownBy W0 (some g):=by rw[hW0];exact z24 (z8y _ _ _)
 have hgv0:Whole W0 gv 45 vs:=by rw[hW0];exact hgv.drew.alloc _
 have wg0:Whole W0 g 45 cur0:=by rw[hW0];exact w0.drew.alloc _
 have hgl:g≠w.heap.size:=Nat.ne_of_lt w0.lt
 obtain⟨cur,w1,l1,o2⟩:=zix (i:=i) (n:=n) (base:=base) hxl (Nat.le_of_lt hin) hvl hGe hG hb wn (by rw[List.length_append,htl,hzl];omega)
 rw[show(i+1) * 7=(i+1) * 7 by omega,show i * 7=i * 7 by omega] at o2
 rw[show i * 7=i * 7 by omega] at w1
 have hc1:∀ty dc,(Builtin.copy_ #[23,22] ty #[.slice (some ⟨w.heap.size,i * 7,none⟩) (n+1 - i) dc,.slice (some ⟨gv,0,none⟩) 1 1]).run prog W0=.ok (goInt ((1:Nat))) (W0.setCells w.heap.size (i * 7) vs):=fun ty dc=>
  z2d W0 _ _ ty 45 i0 7 w.heap.size (i * 7) (n+1 - i) dc ⟨gv,0,none⟩ 1 1 1 vs Tryz.underlying23 hi hz1 (by simp only[Nat.min_def];split <;> omega) (by omega)
   (fun t u hu=>by
    rw[Addr.add_lit,Nat.zero_add,hgv0.cell]
    exact hu)
   (fun t ht=>by
    rw[show i * 7=i * 7 by omega]
    exact z0k wn (o:=i * 7) (m:=7) (by rw[List.length_append,htl,hzl];omega) t (by omega))
   hv1
 obtain⟨W1,hW1⟩:∃W1,W1=W0.setCells w.heap.size (i * 7) vs:=⟨_,rfl⟩
 rw[←hW1] at hc1 o2 w1
 have hgr1:w.grownBy W1 (some g):=by rw[hW1];exact z42 hgr (z09 _ _ _) (Nat.le_refl _)
 have wg1:Whole W1 g 45 cur0:=by rw[hW1];exact wg0.grown (z09 _ _ _) (by simpa using hgl)
 have hc2:∀ty dc sc,(Builtin.copy_ #[23,23] ty #[.slice (some ⟨w.heap.size,(i+1) * 7,none⟩) (n - i) dc,.slice (some ⟨g,i * 7,none⟩) (n - i) sc]).run prog W1.drew=.ok (goInt ((n - i:Nat))) (W1.drew.setCells w.heap.size ((i+1) * 7) (xs.drop (i * 7))):=fun ty dc sc=>
  z2d W1.drew _ _ ty 45 i0 7 w.heap.size ((i+1) * 7) (n - i) dc ⟨g,i * 7,none⟩ (n - i) sc (n - i) _ Tryz.underlying23 hi hz1 (by simp only[Nat.min_def];split <;> omega) hdl
   (fun t u hu=>by
    rw[List.getElem?_drop] at hu
    have h2:=hcell _ u hu
    have e1:=wg0.cell (i * 7+t)
    have e2:=w0.cell (i * 7+t)
    have e3:=wg1.drew.cell (i * 7+t)
    rw[Addr.add_lit,show i * 7=i * 7 by omega,e3,←e2]
    exact h2)
   (fun t ht=>by
    rw[show(i+1) * 7=(i+1) * 7 by omega]
    exact z0k w1.drew (o:=(i+1) * 7) (m:=(n - i) * 7) (by rw[l1];omega) t (by omega))
   (fun u hu=>h1 u (List.mem_of_mem_drop hu))
 have O2:=hid (show(W1.drew.setCells w.heap.size ((i+1) * 7) (xs.drop (i * 7))).ownsRow base 45 7 (.slice (some ⟨w.heap.size,0,none⟩) (n+1) G) (n+1) (z12 xs vs (i * 7)) by rw[z4x];exact o2)
 have G2:=hid (show w.grownBy (W1.drew.setCells w.heap.size ((i+1) * 7) (xs.drop (i * 7))) (some g) from z42 (z84 hgr1) (z09 _ _ _) (Nat.le_refl _))
 obtain⟨W2,hW2⟩:∃W2,W2=W1.drew.setCells w.heap.size ((i+1) * 7) (xs.drop (i * 7)):=⟨_,rfl⟩
 rw[←hW2] at hc2 O2 G2
 unfold maxLen at hm hG
 have hz1':¬((i:Int)=(n:Int)):=by omega
 have hw1:IntKind.i64.wrap ((i:Int)+1)=(i:Int)+1:=by rw[IntKind.wrap_i64];omega
 have hw2:IntKind.i64.wrap ((n:Int)+1)=(n:Int)+1:=by rw[IntKind.wrap_i64];omega
 have hw3:IntKind.i64.wrap ((n:Int)+1 - (i:Int))=(n:Int)+1 - (i:Int):=by rw[IntKind.wrap_i64];omega
 have ht1:((i:Int)+1).toNat=i+1:=by omega
 have hb0:i≤n:=by omega
 have hb1:(0:Int)≤(i:Int)+1:=by omega
 have hb4:(i:Int)≤(n:Int)+1:=by omega
 have hb5:(i:Int)≤(n:Int):=by omega
 have hb6:¬(c=i):=by omega
 have hb7:¬(G=i+1):=by omega
 have hb9:¬(G=i):=by omega
 have hb10:(i:Int)≤(c:Int):=by omega
 have hb8:(c:Int) < (n:Int)+1:=by omega
 clear h h1 hv1 hvl hgv hgv0 cur0 cur w0 l0 w1 l1 o2 hxl hdl hW1 hi hz0 hz1 hz2 htl hcell hold hzs hzl hra hW0 wn hgr wg0 wg1 hgr1 hW2
 go_enter Tryz.func146,Tryz.ntmps146
 go_wp2_with (first
  | (at_builtin;refine Lib.wpList_append_run _ rfl _ _ _ _ rfl _ _ rfl rfl _ _ (hrz _) ?_)
  | (at_builtin;refine z2t _ rfl _ _ 23 22 rfl _ _ rfl rfl (hc1 _ _) ?_))
 go_region_law (refine z3t rfl _ _ 23 23 rfl _ _ (by simp[Act.eval,Act.put]) (by simp[Act.eval,Act.put]) (hc2 _ _ _) ?_)
 go_wp2
 go_ret
 exact⟨_,rfl,O2.out,G2.out,.inr rfl⟩
theorem zsf(n i:Nat)(xs vs:List Value)(base gv:Nat)(v:Value)(w:World)(hn:(n+1) * 120≤140737488355328)(hin:i≤n)(h:w.ownsRow base 45 7 v n xs)(h1:∀u∈xs,u.oneCell'=true)(hv1:∀u∈vs,u.oneCell'=true)(hvl:vs.length=7)(hgv:Whole w gv 45 vs)(hne:v.ownBlock≠some gv)(hb:base≤w.heap.size) :
  Calls prog 146 #[v,.int .i64 i,.slice (some ⟨gv,0,none⟩) 1 1] w (zbs (n+1) (z12 xs vs (i * 7)) base v w):=by
 rcases Nat.lt_or_ge i n with hlt|hge
 ·obtain⟨A,c,rfl,hA,hc,hm⟩:=z06 h
  rcases hA with rfl|⟨g,rfl⟩
  ·exfalso
   rcases h.2 with⟨_,h0⟩|⟨g',cap',cur,h',_⟩
   ·omega
   ·cases h'
  ·by_cases hr:n+1≤c
   ·exact zv4 n i c g xs vs base gv w hlt hr h h1 hv1 hvl hgv (by
     rintro rfl
     exact hne rfl)
   ·exact zsk n i c g xs vs base gv w hn hlt hc (by omega) h h1 hv1 hvl hgv hb
 ·obtain rfl:i=n:=by omega
  have e:z12 xs vs (i * 7)=xs++vs:=by
   have hl:xs.length=i * 7:=h.1
   unfold z12
   rw[List.take_of_length_le (by omega),List.drop_of_length_le (by omega),List.append_nil]
  rw[e]
  exact zrk i xs vs base gv v w hn h hv1 hvl hgv hb
structure Rel(P:List Value→Ent→Prop)(rs:List (List Value))(l:List Ent):Prop where
 len:rs.length=l.length
 at_:∀(i:Nat) (e:Ent),l[i]? = some e→∃cs:List Value,rs[i]? = some cs∧P cs e
theorem Rel.nil{P:List Value→Ent→Prop}:Rel P [] []:=⟨rfl,fun i e h=>by simp at h⟩
theorem Rel.cons{P:List Value→Ent→Prop}{c:List Value}{e:Ent}{rs:List (List Value)}{l:List Ent}(h:P c e)(hr:Rel P rs l):Rel P (c :: rs) (e :: l):=
 ⟨by simp[hr.len],fun i x hx=>by
  cases i with
  | zero=>simp at hx;subst hx;exact⟨c,rfl,h⟩
  | succ i=>exact hr.at_ i x (by simpa using hx)⟩
theorem Rel.inv{P:List Value→Ent→Prop}{c:List Value}{e:Ent}{rs:List (List Value)}{l:List Ent}(h:Rel P (c :: rs) (e :: l)):P c e∧Rel P rs l:=by
 obtain⟨d,h1,h2⟩:=h.at_ 0 e rfl
 simp at h1
 subst h1
 exact⟨h2,⟨by simpa using h.len,fun i x hx=>h.at_ (i+1) x (by simpa using hx)⟩⟩
theorem Rel.filter{P:List Value→Ent→Prop}(q:List Value→Bool)(r:Ent→Bool)(hq:∀cs e,P cs e→q cs=r e):∀ {rs:List (List Value)} {l:List Ent},Rel P rs l→Rel P (rs.filter q) (l.filter r)
 | [],[],_=>Rel.nil
 | [],e :: l,h=>absurd h.len (by simp)
 | c :: rs,[],h=>absurd h.len (by simp)
 | c :: rs,e :: l,h=>by
  obtain⟨h1,h2⟩:=h.inv
  have ih:=Rel.filter q r hq h2
  rw[List.filter_cons,List.filter_cons,hq c e h1]
  split
  ·exact Rel.cons h1 ih
  ·exact ih
theorem Rel.append{P:List Value→Ent→Prop}:∀ {rs:List (List Value)} {l:List Ent} {rs':List (List Value)} {l':List Ent},Rel P rs l→Rel P rs' l'→Rel P (rs++rs') (l++l')
 | [],[],_,_,_,h=>h
 | [],e :: l,_,_,h,_=>absurd h.len (by simp)
 | c :: rs,[],_,_,h,_=>absurd h.len (by simp)
 | c :: rs,e :: l,_,_,h,h'=>Rel.cons h.inv.1 (Rel.append h.inv.2 h')
theorem Rel.take{P:List Value→Ent→Prop}(n:Nat){rs:List (List Value)}{l:List Ent}(h:Rel P rs l):Rel P (rs.take n) (l.take n):=
 ⟨by simp[h.len],fun i e he=>by
  rw[List.getElem?_take] at he
  split at he
  ·rename_i hi
   obtain⟨cs,h1,h2⟩:=h.at_ i e he
   exact⟨cs,by rw[List.getElem?_take_of_lt hi];exact h1,h2⟩
  ·cases he⟩
theorem Rel.drop{P:List Value→Ent→Prop}(n:Nat){rs:List (List Value)}{l:List Ent}(h:Rel P rs l):Rel P (rs.drop n) (l.drop n):=
 ⟨by simp[h.len],fun i e he=>by
  rw[List.getElem?_drop] at he
  obtain⟨cs,h1,h2⟩:=h.at_ _ e he
  exact⟨cs,by rw[List.getElem?_drop];exact h1,h2⟩⟩
theorem Rel.imp{P Q:List Value→Ent→Prop}{rs:List (List Value)}{l:List Ent}(h:Rel P rs l)(hi:∀cs e,P cs e→Q cs e):Rel Q rs l:=
 ⟨h.len,fun i e he=>by
  obtain⟨cs,h1,h2⟩:=h.at_ i e he
  exact⟨cs,h1,hi _ _ h2⟩⟩
theorem Rel.mem{P:List Value→Ent→Prop}{rs:List (List Value)}{l:List Ent}(h:Rel P rs l){c:List Value}(hc:c∈rs):∃e,e∈l∧P c e:=by
 obtain⟨i,hi⟩:=List.getElem?_of_mem hc
 have hlt:=(List.getElem?_eq_some_iff.1 hi).1
 obtain⟨d,h1,h2⟩:=h.at_ i _ (List.getElem?_eq_getElem (show i < l.length by rw[←h.len];exact hlt))
 rw[hi] at h1
 cases h1
 exact⟨_,List.getElem_mem _,h2⟩
theorem zey{w:World}{base e size n:Nat}{v:Value}{xs:List Value}(h:w.ownsRow base e size v n xs):∀k,k∈z2l v→k < w.heap.size:=fun k hk=>by
 unfold z2l at hk
 split at hk
 ·simp at hk;subst hk;exact(h.lt _ rfl).2
 ·cases hk
def zxw(cs:List Value):Int:=match cs[6]? with|some (Value.int _ n)=>n|_=>0
theorem zvh{w:World}{base:Nat}{cs:List Value}{e:Ent}(h:z2v w base cs e):zxw cs=e.til:=by obtain⟨_,_,_,_,_,_,rfl,_⟩:=h;rfl
theorem zi1{w:World}{base:Nat}{cs:List Value}{e:Ent}(h:z2v w base cs e):ze7 cs:=by obtain⟨_,_,_,_,_,_,rfl,_⟩:=h;exact⟨_,_,_,_,_,_,_,_,_,_,_,_,_,rfl⟩
def z17(l:List Ent)(now:Int):List Ent:=l.filter fun e=>!z1r e.til now
def zom(l:List Ent)(base:Nat)(v:Value)(w:World)(r:Ending)(w':World):Prop:=∃v',r=.returned v'∧z1w w' base v' l∧Fr (z2l v) w w'
theorem zmg(x:List Value)(hx:ze7 x)(now:Int)(g:Nat)(w:World)(hg:w.cell? ⟨g,0,none⟩=some (.int .i64 now)) :
  Calls prog 113 (#[.agg x.toArray]++#[.pointer (some ⟨g,0,none⟩)]) w fun e w'=>e=.returned (.bool (z1r (zxw x) now))∧Fr [] w w':=by
 obtain⟨sk,sn,st,A1,n1,d1,A2,n2,d2,A3,n3,d3,su,rfl⟩:=hx
 have hgl:=World.block_lt_of_cell? w _ hg
 have F1:=hid ((Fr.refl [] w).alloc (.cells #[.string sk,.int .i64 sn,.string st,.slice A1 n1 d1,.slice A2 n2 d2,.slice A3 n3 d3,.int .i64 su] 45))
 have c1:=F1.out.cell hg (by simp)
 have GO:=hid (fun W=>zbr su now W)
 rw[show zxw [.string sk,.int .i64 sn,.string st,.slice A1 n1 d1,.slice A2 n2 d2,.slice A3 n3 d3,.int .i64 su]=su from rfl]
 generalize z1r su now=b at *
 go_enter Tryz.func113,Tryz.ntmps113
 go_wp2_with fail
 refine(GO.out _).mono ?_
 rintro e w1 ⟨rfl,rfl⟩
 go_wp2
 go_ret
 exact⟨rfl,F1.out⟩
theorem zhv(l:List Ent)(v:Value)(now:Int)(base:Nat)(w:World)(hl:l.length≤1000000)(h:z1w w base v l) :
  Calls prog 77 #[v,.int .i64 now] w (zom (z17 l now) base v w):=by
 have F1:=hid ((Fr.refl [] w).alloc (.cells #[.int .i64 now] 3))
 have W1:=hid (Whole.new w 3 [.int .i64 now])
 obtain⟨rs,h1,h2,h3⟩:=h.fr F1.out
 obtain⟨A,c,rfl,-⟩:=z06 h3
 have R:=hid (show Rel (z2v (w.alloc (.cells #[.int .i64 now] 3)) base) rs l from⟨h1,h2⟩)
 have hgl:∀k,k∈z2l (.slice A l.length c)→k < w.heap.size:=fun k hk=>by
  obtain⟨rs0,_,_,h30⟩:=h
  exact zey h30 k hk
 have DF:=hid (zn6 113 #[.pointer (some ⟨w.heap.size,0,none⟩)] (z1x Tryz.func113 (by kernel_rfl) rfl) (fun x=>z1r (zxw x) now) rs base (.slice A l.length c) (w.alloc (.cells #[.int .i64 now] 3)) (fun c hc=>by
   obtain⟨e,_,he⟩:=R.out.mem hc
   exact zi1 he) (fun W x hx hW=>by
   obtain⟨e,_,he⟩:=R.out.mem hx
   exact zmg x (zi1 he) now w.heap.size W (hW.cell (W1.out.cell 0) (fun hm=>by have:=hgl _ hm;simp at this))) (by omega) (by rw[h1];exact h3))
 have H3:=hid h3
 clear h h1 h2 h3
 go_enter Tryz.func77,Tryz.ntmps77
 go_wp2_with fail
 refine DF.out.mono ?_
 rintro e w1 ⟨v',rfl,ho,f1,hb⟩
 have HO:=hid ho
 have F2:=hid f1
 clear ho f1 hb
 go_wp2
 go_ret
 have R2:=Rel.filter (fun x=>!z1r (zxw x) now) (fun e=>!z1r e.til now) (fun cs e h=>by rw[zvh h]) R.out
 have R3:=R2.imp (fun cs e h=>h.row H3.out z2y F2.out)
 refine⟨_,rfl,⟨_,R3.len,R3.at_,?_⟩,F1.out.up.trans F2.out⟩
 have:=HO.out
 rw[R3.len] at this
 exact this
end Go.Proofs.YtamgdmiopinidaaGreatDoor
namespace Go.Proofs.YtamgdmiopinidaaGreatDoor
open Lib (hid)
open Tryz (prog)
def zcv{α:Type}(l:List α)(p:α)(j:Nat):List α:=l.take j++p :: l.drop j
theorem zb9{α:Type}(l:List α)(p:α){j:Nat}(h:j≤l.length):(zcv l p j).length=l.length+1:=by
 unfold zcv
 rw[List.length_append,List.length_cons,List.length_take,List.length_drop]
 omega
end Go.Proofs.YtamgdmiopinidaaGreatDoor
namespace Go.Proofs.YtamgdmiopinidaaGreatDoor
open Lib (hid)
open Tryz (prog)
open Go.RowKit
def z2m(l:List Ent)(s:ByteArray):List Ent:=l.filter fun e=>decide (e.key≠s)
theorem zn7(l:List Ent)(s:ByteArray):(z2m l s).length≤l.length:=List.length_filter_le _ _
theorem z7s{l:List Ent}(h:rises (ltK Ent.key) l=true)(s:ByteArray):rises (ltK Ent.key) (z2m l s)=true:=z3i ((z2n (z33 Ent.key) h).filter _)
theorem zff{l:List Ent}(hr:rises (ltK Ent.key) l=true){s:ByteArray}(h:z5r Ent.key l s=false):z2m l s=l:=by
 unfold z2m
 rw[List.filter_eq_self]
 intro e he
 refine decide_eq_true fun hk=>?_
 obtain⟨j,hj⟩:=List.getElem?_of_mem he
 have:=zcm Ent.key hr hj
 rw[hk,h] at this
 cases this
theorem zic{l:List Ent}(hr:rises (ltK Ent.key) l=true){s:ByteArray}(h:z5r Ent.key l s=true):z2m l s=l.take (z1z Ent.key l s)++l.drop (z1z Ent.key l s+1):=by
 obtain⟨e,he,rfl⟩:=(z36 Ent.key).1 h
 have hk:=(List.getElem?_eq_some_iff.1 he).1
 have e1:l=l.take (z1z Ent.key l e.key)++e :: l.drop (z1z Ent.key l e.key+1):=by
  have h1:l.drop (z1z Ent.key l e.key)=e :: l.drop (z1z Ent.key l e.key+1):=by
   rw[List.drop_eq_getElem_cons hk]
   congr 1
   rw[List.getElem?_eq_getElem hk] at he
   exact Option.some.inj he
  rw[←h1,List.take_append_drop]
 have no:∀(i:Nat) (a:Ent),l[i]? = some a→i≠z1z Ent.key l e.key→a.key≠e.key:=fun i a ha hi hk=>by
  have h1:=zee Ent.key hr ha
  rw[hk] at h1
  exact hi h1.symm
 generalize z1z Ent.key l e.key=k at *
 unfold z2m
 conv=>lhs;rw[e1]
 rw[List.filter_append,List.filter_cons,if_neg (by simp)]
 congr 1
 ·rw[List.filter_eq_self]
  intro a ha
  obtain⟨i,hi⟩:=List.getElem?_of_mem ha
  rw[List.getElem?_take] at hi
  split at hi
  ·exact decide_eq_true (no i a hi (by omega))
  ·cases hi
 ·rw[List.filter_eq_self]
  intro a ha
  obtain⟨i,hi⟩:=List.getElem?_of_mem ha
  rw[List.getElem?_drop] at hi
  exact decide_eq_true (no _ a hi (by omega))
theorem zx8{l:List Ent}{s:ByteArray}{k:Nat}(h1:∀(i:Nat) (a:Ent),i < k→l[i]? = some a→z4m a.key s < 0)(h2:∀a,l[k]? = some a→¬z4m a.key s < 0)(hk:k≤l.length):z1z Ent.key l s=k:=by
 rcases Nat.lt_trichotomy (z1z Ent.key l s) k with h|h|h
 ·obtain⟨a,ha⟩:∃a,l[z1z Ent.key l s]? = some a:=⟨_,List.getElem?_eq_getElem (by omega)⟩
  exact absurd (h1 _ a h ha) (zc2 Ent.key ha)
 ·exact h
 ·have hl:=z5b Ent.key l s
  obtain⟨a,ha⟩:∃a,l[k]? = some a:=⟨_,List.getElem?_eq_getElem (by omega)⟩
  exact absurd (z7g Ent.key h ha) (h2 a ha)
theorem zr0{l:List Ent}(hr:rises (ltK Ent.key) l=true)(s:ByteArray):z1z Ent.key (z2m l s) s=z1z Ent.key l s:=by
 have hle:=z5b Ent.key l s
 rcases hh:z5r Ent.key l s with _|_
 ·rw[zff hr hh]
 ·rw[zic hr hh]
  obtain⟨e,he,hk⟩:=(z36 Ent.key).1 hh
  have hlt:=(List.getElem?_eq_some_iff.1 he).1
  refine zx8 (fun i a hi ha=>?_) (fun a ha=>?_) (by rw[List.length_append,List.length_take];omega)
  ·rw[List.getElem?_append_left (by rw[List.length_take];omega),List.getElem?_take,if_pos hi] at ha
   exact z7g Ent.key hi ha
  ·rw[List.getElem?_append_right (by rw[List.length_take];omega),List.length_take,Nat.min_eq_left hle,Nat.sub_self,List.getElem?_drop] at ha
   exact zev Ent.key hr (by omega) ha
def zb5(l:List Ent)(e:Ent):List Ent:=zcv l e (z1z Ent.key l e.key)
def z8z(l:List Ent)(now:Int)(s:ByteArray)(x:Itm)(u:Int):List Ent:=if 16 < (zb5 (z2m l s) ⟨s,x,u⟩).length then z17 (zb5 (z2m l s) ⟨s,x,u⟩) now else zb5 (z2m l s) ⟨s,x,u⟩
def z1e(l:List Ent)(now:Int)(s:ByteArray)(x:Itm)(u:Int):Int:=if z0o x=true then 0 else if 16 < (z8z l now s x u).length then 2 else 0
def z5l(l:List Ent)(now:Int)(s:ByteArray)(x:Itm)(u:Int):List Ent:=if z0o x=true then z2m l s else if 16 < (z8z l now s x u).length then [] else z8z l now s x u
theorem zgl{w:World}{base:Nat}{rs:List (List Value)}{l:List Ent}(h:Rel (z2v w base) rs l):∀c∈rs,c.length=7:=fun c hc=>by
 obtain⟨e,_,he⟩:=h.mem hc
 exact he.len
theorem zk6{w:World}{base:Nat}{rs:List (List Value)}{l:List Ent}(h:Rel (z2v w base) rs l):∀u∈rs.flatten,u.oneCell'=true:=fun u hu=>by
 obtain⟨c,hc,huc⟩:=List.mem_flatten.1 hu
 obtain⟨e,_,A1,c1,A2,c2,A3,c3,rfl,_⟩:=h.mem hc
 exact zft _ _ _ _ _ _ _ u huc
def zkp(l:List Ent)(base:Nat)(v:Value)(w:World)(r:Ending)(w':World):Prop:=∃v',r=.returned v'∧z1w w' base v' l∧Fr (z2l v) w w'∧∀k,k∈z2l v'→k∈z2l v∨w.heap.size≤k
theorem zcd{v v':Value}(h:v'.ownBlock=v.ownBlock):z2l v'=z2l v:=by
 unfold Value.ownBlock at h
 unfold z2l
 split at h <;> split at h <;> simp_all
theorem znx(l:List Ent)(k:Nat)(base:Nat)(v:Value)(w:World)(hl:l.length≤1000000)(hk:k < l.length)(h:z1w w base v l) :
  Calls prog 145 #[v,.int .i64 k,.int .i64 (k+1)] w (zkp (l.take k++l.drop (k+1)) base v w):=by
 obtain⟨rs,h1,h2,h3⟩:=h
 have R:Rel (z2v w base) rs l:=⟨h1,h2⟩
 have a7:=zgl R
 have D:=ztf l.length k (k+1) rs.flatten base v w (by omega) (by omega) (by omega) h3 (zk6 R)
 rw[show((k+1:Nat):Int)=(k:Int)+1 from by omega] at D
 refine D.mono ?_
 rintro e w1 ⟨v',rfl,ho,hg,hb⟩
 have hf:=z47 hg
 rw[z7z 7 rs k a7,za6 7 rs (k+1) a7,←List.flatten_append] at ho
 have R2:=((R.take k).append (R.drop (k+1))).imp (fun cs e he=>he.row h3 z2y hf)
 refine⟨v',rfl,⟨_,R2.len,R2.at_,?_⟩,hf,fun q hq=>.inl (by rw[zcd hb] at hq;exact hq)⟩
 have e:(l.take k++l.drop (k+1)).length=k+(l.length - (k+1)):=by rw[List.length_append,List.length_take,List.length_drop];omega
 rw[e]
 exact ho
theorem zvw(l:List Ent)(e:Ent)(cs:List Value)(k gv:Nat)(base:Nat)(v:Value)(w:World)(hl:l.length≤1000000)(hk:k≤l.length)(h:z1w w base v l)(he:z2v w base cs e)(hgv:Whole w gv 45 cs)(hne:v.ownBlock≠some gv)(hb:base≤w.heap.size) :
  Calls prog 146 #[v,.int .i64 k,.slice (some ⟨gv,0,none⟩) 1 1] w (zkp (zcv l e k) base v w):=by
 obtain⟨rs,h1,h2,h3⟩:=h
 have R:Rel (z2v w base) rs l:=⟨h1,h2⟩
 have a7:=zgl R
 have one:∀u∈cs,u.oneCell'=true:=by
  obtain⟨A1,c1,A2,c2,A3,c3,rfl,_⟩:=he
  exact zft _ _ _ _ _ _ _
 refine(zsf l.length k rs.flatten cs base gv v w (by omega) hk h3 (zk6 R) one he.len hgv hne hb).mono ?_
 rintro r w1 ⟨v',rfl,ho,hg,hbl⟩
 have hf:=z47 hg
 unfold z12 at ho
 rw[z7z 7 rs k a7,za6 7 rs k a7,show(rs.take k).flatten++cs++(rs.drop k).flatten=(rs.take k++cs :: rs.drop k).flatten from by simp] at ho
 have R2:=((R.take k).append (Rel.cons he (R.drop k))).imp (fun cs e he=>he.row h3 z2y hf)
 refine⟨v',rfl,⟨_,R2.len,R2.at_,?_⟩,hf,fun q hq=>?_⟩
 ·rw[zb9 l e hk]
  exact ho
 ·rcases hbl with h5|h5
  ·rw[zcd h5] at hq;exact .inl hq
  ·refine .inr ?_
   unfold z2l at hq
   split at hq
   ·simp at hq;subst hq
    simp[Value.ownBlock] at h5
    omega
   ·cases hq
def zuz(l:List Ent)(c:Int)(base:Nat)(v:Value)(w:World)(r:Ending)(w':World):Prop:=∃u,r=.returned (.tuple #[u,.int .i64 c])∧z1w w' base u l∧Fr (z2l v) w w'
theorem zcz{w w':World}{base base' T size n:Nat}{v xv:Value}{xs:List Value}{x:Itm}(h:z0l w base xv x)(ho:w.ownsRow base' T size v n xs)(hT:9≠T∧86≠T∧91≠T)(hf:Fr (z2l v) w w'):z0l w' base xv x:=by
 obtain⟨L1,L2,L3,he,h1,h2,h3⟩:=h
 exact⟨L1,L2,L3,he,z0n h1 hf (z4a h1 ho hT.1),z0n h2 hf (z4a h2 ho hT.2.1),z0n h3 hf (z4a h3 ho hT.2.2)⟩
def CutR(l':List Ent)(base:Nat)(v:Value)(xv:Value)(x:Itm)(cells:List Value)(w:World)(sv:Value)(wx:World):Prop:=
 ∃A c,sv=.slice A l'.length c∧z1w wx base (.slice A l'.length c) l'∧Fr (z2l v) w wx∧(∀k,k∈z2l (.slice A l'.length c)→k∈z2l v∨w.heap.size≤k)∧Whole wx w.heap.size 43 cells∧z0l wx base xv x
def zwq(l':List Ent)(base:Nat)(v:Value)(w:World)(sv:Value)(wx:World):Prop:=
 ∃A c,sv=.slice A l'.length c∧z1w wx base (.slice A l'.length c) l'∧Fr (z2l v) w wx
theorem zaw(l:List Ent)(v:Value)(now:Int)(s:ByteArray)(x:Itm)(xv:Value)(u:Int)(base:Nat)(w:World)(hr:rises (ltK Ent.key) l=true)(hl:l.length≤1000)(hsx:x.Small)(h:z1w w base v l)(hx:z0l w base xv x)(hb:base≤w.heap.size) :
  Calls prog 108 #[v,.int .i64 now,.string s,xv,.int .i64 u] w (zuz (z5l l now s x u) (z1e l now s x u) base v w):=by
 obtain⟨A,c,rfl⟩:=h.form
 obtain⟨X1,x1,X2,x2,X3,x3,rfl⟩:=hx.form
 have D0:=hid (BX.new w (.int .i64 x.kind) (.string x.text) (.slice X1 x.list.length x1) (.slice X2 x.pairs.length x2) (.slice X3 x.scores.length x3))
 have FD:=hid (fun W (hW:Fr [] w W)=>z9w l s A c w.heap.size W hr (by omega) hW.size ((h.v.fr hW (Nat.le_refl _) (by simp))))
 unfold z4g at FD
 have HO:=hid h
 have HX:=hid hx
 have HSX:=hid hsx
 have HKL:=hid (zr0 hr s)
 have HKE:=hid (z5b Ent.key (z2m l s) s)
 have LOFF:=zn7 l s
 have HLT:∀k,k∈z2l (.slice A l.length c)→k < w.heap.size:=fun k hk=>by
  obtain⟨rs0,_,_,h30⟩:=h
  exact zey h30 k hk
 have HLT2:=hid HLT
 have HR:=hid hr
 clear h hx hsx HLT hr
 go_enter Tryz.func108,Tryz.ntmps108
 go_wp2_with fail
 refine(FD.out _ D0.out.f).mono ?_
 rintro e1 w1 ⟨rfl,f1⟩
 have D1:=hid (D0.out.go f1)
 have HO1:=hid (HO.out.fr D1.out.f)
 have HX1:=hid (HX.out.go D1.out.f)
 clear f1
 go_upto_if 20 with fail
 go_cut [0,13] (fun sv _ wx=>CutR (z2m l s) base (.slice A l.length c) (.agg #[.int .i64 x.kind,.string x.text,.slice X1 x.list.length x1,.slice X2 x.pairs.length x2,.slice X3 x.scores.length x3]) x [.int .i64 x.kind,.string x.text,.slice X1 x.list.length x1,.slice X2 x.pairs.length x2,.slice X3 x.scores.length x3] w sv wx)
 case first=>
  rcases hh:z5r Ent.key l s with _|_
  ·have E:=hid (zff HR.out hh)
   go_wp2
   go_meet
   case rel=>
    rw[E.out]
    exact⟨A,c,rfl,HO1.out,D1.out.f.up,fun k hk=>.inl hk,D1.out.b,HX1.out⟩
  ·have E:=hid (zic HR.out hh)
   have hkl:z1z Ent.key l s < l.length:=by
    obtain⟨e,he,_⟩:=(z36 Ent.key).1 hh
    exact(List.getElem?_eq_some_iff.1 he).1
   have DE:=hid (znx l (z1z Ent.key l s) base (.slice A l.length c) w1 (by omega) hkl HO1.out)
   rw[←E.out] at DE
   generalize z1z Ent.key l s=k at *
   go_wp2_with fail
   refine DE.out.mono ?_
   rintro e2 w2 ⟨v2,rfl,ho,f2,hb2⟩
   obtain⟨A2,c2,hv2⟩:=ho.form
   have HH:=hid (show CutR (z2m l s) base (.slice A l.length c) (.agg #[.int .i64 x.kind,.string x.text,.slice X1 x.list.length x1,.slice X2 x.pairs.length x2,.slice X3 x.scores.length x3]) x [.int .i64 x.kind,.string x.text,.slice X1 x.list.length x1,.slice X2 x.pairs.length x2,.slice X3 x.scores.length x3] w v2 w2 from by
    subst hv2
    obtain⟨rs1,_,_,hr1⟩:=HO1.out
    exact⟨A2,c2,rfl,ho,D1.out.f.up.trans f2,fun q hq=>(hb2 q hq).imp id (fun h=>Nat.le_trans D1.out.f.size h),D1.out.b.fr f2 (fun hm=>by have:=HLT2.out _ hm;omega),zcz HX1.out hr1 z2y f2⟩)
   clear ho f2 hb2 hv2
   go_wp2
   go_meet
   case rel=>exact HH.out
 case rest=>
  obtain⟨A2,c2,rfl,ho,f2,hb2,hbx,hix⟩:=hcut
  have HO2:=hid ho
  have F2:=hid f2
  have HB2:=hid hb2
  have BX2:=hid hbx
  have HX2:=hid hix
  have hz2:=hbx.lt
  clear ho f2 hb2 hbx hix FD HO HO1 HX HX1 D0 D1
  obtain⟨d0,d1,d2,d3,d4⟩:=five BX2.out
  have NO:=hid (z6i x (.agg #[.int .i64 x.kind,.string x.text,.slice X1 x.list.length x1,.slice X2 x.pairs.length x2,.slice X3 x.scores.length x3]) _ _ HSX.out (Nat.le_refl _) HX2.out.item)
  by_cases hn:z0o x=true
  ·have E1:=hid (show z5l l now s x u=z2m l s from if_pos hn)
   have E2:=hid (show z1e l now s x u=0 from if_pos hn)
   rw[hn] at NO
   clear hn
   go_wp2_with fail
   refine NO.out.mono ?_
   rintro e3 w3 ⟨rfl,f3⟩
   have F3:=hid f3
   clear f3
   go_wp2
   go_ret2
   rw[E1.out,E2.out]
   exact⟨_,rfl,HO2.out.fr F3.out,F2.out.trans F3.out.up⟩
  ·have hn':z0o x=false:=by simpa using hn
   have E1:=hid (show z5l l now s x u=if 16 < (z8z l now s x u).length then [] else z8z l now s x u from if_neg hn)
   have E2:=hid (show z1e l now s x u=if 16 < (z8z l now s x u).length then 2 else 0 from if_neg hn)
   rw[hn'] at NO
   clear hn hn'
   go_wp2_with fail
   refine NO.out.mono ?_
   rintro e3 w3 ⟨rfl,f3⟩
   have F3:=hid (F2.out.trans f3.up)
   have HO3:=hid (HO2.out.fr f3)
   have BX3:=hid (BX2.out.fr f3 (by simp))
   have HX3:=hid (HX2.out.go f3)
   have hz3:=f3.size
   clear f3 d0 d1 d2 d3 d4
   obtain⟨d0,d1,d2,d3,d4⟩:=five BX3.out
   have G3:=hid ((Fr.refl [] w3).alloc (.cells #[.string s,.int .i64 x.kind,.string x.text,.slice X1 x.list.length x1,.slice X2 x.pairs.length x2,.slice X3 x.scores.length x3,.int .i64 u] 45))
   have W3:=hid (Whole.new w3 45 [.string s,.int .i64 x.kind,.string x.text,.slice X1 x.list.length x1,.slice X2 x.pairs.length x2,.slice X3 x.scores.length x3,.int .i64 u])
   have IN:=hid (zvw (z2m l s) ⟨s,x,u⟩ [.string s,.int .i64 x.kind,.string x.text,.slice X1 x.list.length x1,.slice X2 x.pairs.length x2,.slice X3 x.scores.length x3,.int .i64 u] (z1z Ent.key (z2m l s) s) w3.heap.size base (.slice A2 (z2m l s).length c2) (w3.alloc (.cells #[.string s,.int .i64 x.kind,.string x.text,.slice X1 x.list.length x1,.slice X2 x.pairs.length x2,.slice X3 x.scores.length x3,.int .i64 u] 45)) (by omega) HKE.out (HO3.out.fr G3.out) (by
    obtain⟨L1,L2,L3,hv,o1,o2,o3⟩:=HX3.out.go G3.out
    cases hv
    exact⟨_,_,_,_,_,_,rfl,o1,o2,o3⟩) W3.out (by
    intro hq
    obtain⟨rs1,_,_,hr1⟩:=HO3.out
    have:=(hr1.lt _ hq).2
    omega) (by simp;omega))
   rw[show zcv (z2m l s) ⟨s,x,u⟩ (z1z Ent.key (z2m l s) s)=zb5 (z2m l s) ⟨s,x,u⟩ from rfl,HKL.out] at IN
   have HL2:=hid (show(zb5 (z2m l s) ⟨s,x,u⟩).length=(z2m l s).length+1 from zb9 _ _ (z5b _ _ _))
   have EP:=hid (show z8z l now s x u=if 16 < (zb5 (z2m l s) ⟨s,x,u⟩).length then z17 (zb5 (z2m l s) ⟨s,x,u⟩) now else zb5 (z2m l s) ⟨s,x,u⟩ from rfl)
   generalize z1z Ent.key l s=k at *
   generalize z2m l s=lo at *
   generalize zb5 lo ⟨s,x,u⟩=L2 at *
   go_wp2_with fail
   refine IN.out.mono ?_
   rintro e4 w4 ⟨v4,rfl,ho4,f4,hb4⟩
   obtain⟨A4,c4,rfl⟩:=ho4.form
   have HO4:=hid ho4
   have F4:=hid ((F3.out.trans G3.out.up).step f4 (fun q hq=>HB2.out q hq))
   have HB4:=hid (fun q hq=>(hb4 q hq).elim (fun h=>HB2.out q h) (fun h=>Or.inr (Nat.le_trans (Nat.le_trans F3.out.size G3.out.size) h)))
   have hl2:L2.length≤1001:=by have:=HL2.out;omega
   clear ho4 f4 hb4 d0 d1 d2 d3 d4 HO3 HO2
   generalize z8z l now s x u=P2 at *
   go_upto_if 39 with fail
   go_cut [0,39] (fun sv _ wx=>zwq P2 base (.slice A l.length c) w sv wx)
   case first=>
    by_cases h16:16 < L2.length
    ·have E3:=hid (EP.out.trans (if_pos h16))
     have SW:=hid (zhv L2 (.slice A4 L2.length c4) now base w4 (by omega) HO4.out)
     rw[←E3.out] at SW
     have q16:(L2.length:Int) > 16:=by omega
     clear h16 E3
     go_wp2_with fail
     refine SW.out.mono ?_
     rintro e5 w5 ⟨v5,rfl,ho5,f5⟩
     obtain⟨A5,c5,rfl⟩:=ho5.form
     have HH:=hid (show zwq P2 base (.slice A l.length c) w (.slice A5 P2.length c5) w5 from⟨A5,c5,rfl,ho5,F4.out.step f5 (fun q hq=>HB4.out q hq)⟩)
     clear ho5 f5
     go_wp2
     go_meet
     case rel=>exact HH.out
    ·have E3:=hid (EP.out.trans (if_neg h16))
     have q16:¬(L2.length:Int) > 16:=by omega
     clear h16
     go_wp2
     go_meet
     case rel=>
      rw[E3.out]
      exact⟨A4,c4,rfl,HO4.out,F4.out⟩
   case rest=>
    obtain⟨A5,c5,rfl,ho5,f5⟩:=hcut
    have HO5:=hid ho5
    have F5:=hid f5
    clear ho5 f5 EP
    by_cases h17:16 < P2.length
    ·have E3:=hid (E1.out.trans (if_pos h17))
     have E4:=hid (E2.out.trans (if_pos h17))
     have q17:(P2.length:Int) > 16:=by omega
     clear h17
     go_wp2
     go_ret2
     rw[E3.out,E4.out]
     exact⟨_,rfl,z1w.nil _ _,F5.out⟩
    ·have E3:=hid (E1.out.trans (if_neg h17))
     have E4:=hid (E2.out.trans (if_neg h17))
     have q17:¬(P2.length:Int) > 16:=by omega
     clear h17
     go_wp2
     go_ret2
     rw[E3.out,E4.out]
     exact⟨_,rfl,HO5.out,F5.out⟩
end Go.Proofs.YtamgdmiopinidaaGreatDoor
