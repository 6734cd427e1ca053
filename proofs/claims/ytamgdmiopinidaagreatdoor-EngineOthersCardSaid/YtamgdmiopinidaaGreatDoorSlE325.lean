/- Contracts that the proof of E3 uses. No condition beyond those in each theorem. -/
import Derived.Test.YtamgdmiopinidaaGreatDoorSlE322
set_option linter.unusedVariables false
set_option linter.unusedSimpArgs false
set_option maxHeartbeats 8000000
set_option maxRecDepth 100000
namespace Go.Proofs.YtamgdmiopinidaaGreatDoor
open Lib (hid)
open Go.Proofs.Tryz (prog)
open Go.RowKit
theorem z9e(x:Itm)(v:Value)(w:World)(B:Nat)(hs:x.Small)(hB:B≤w.heap.size)(h:z0q w B v x) :
  Calls prog 224 #[v] w fun e w'=>e=.returned (.int .i64 (z02 2 x))∧Fr [] w w':=by
 have M:=hid (fun W (hf:Fr [] w W)=>zhs x 2 v W B hs (Nat.le_trans hB hf.size) (h.fr hf hB (by simp)))
 obtain⟨A1,c1,A2,c2,A3,c3,rfl,h1,h2,h3⟩:=h
 have F1:Fr [] w (w.alloc (.cells #[.int .i64 x.kind,.string x.text,.slice A1 x.list.length c1,.slice A2 x.pairs.length c2,.slice A3 x.scores.length c3] 43)):=(Fr.refl [] w).alloc _
 go_enter Tryz.func224,Tryz.ntmps224
 go_wp2_with fail
 refine(M.out _ F1).mono ?_
 rintro e w1 ⟨rfl,f1⟩
 go_wp2
 go_ret
 exact⟨rfl,F1.trans f1⟩
theorem zm8(l:List ByteArray)(A:Option Addr)(c:Nat)(w:World)(B:Nat)(hs:(zf5 l).Small)(hB:B≤w.heap.size)(h:Sl w B 1 (.slice A l.length c) l.length (z03 l)) :
  Calls prog 228 #[.slice A l.length c] w fun e w'=>e=.returned (if l.length=0 then .agg #[.int .i64 0,.string ⟨#[]⟩,.slice none 0 0,.slice none 0 0,.slice none 0 0] else .agg #[.int .i64 2,.string ⟨#[]⟩,.slice A l.length c,.slice none 0 0,.slice none 0 0])∧Fr [] w w':=by
 have hv:z0q w B (.agg #[.int .i64 2,.string ⟨#[]⟩,.slice A l.length c,.slice none 0 0,.slice none 0 0]) (zf5 l):=⟨A,c,none,0,none,0,rfl,h,Sl.nil _ _ _,Sl.nil _ _ _⟩
 have O:=hid (fun W (hf:Fr [] w W)=>(show Calls prog 274 #[.agg #[.int .i64 2,.string ⟨#[]⟩,.slice A l.length c,.slice none 0 0,.slice none 0 0]] W fun e w'=>e=.returned (if l.length=0 then .agg #[.int .i64 0,.string ⟨#[]⟩,.slice none 0 0,.slice none 0 0,.slice none 0 0] else .agg #[.int .i64 2,.string ⟨#[]⟩,.slice A l.length c,.slice none 0 0,.slice none 0 0])∧Fr [] W w' from by have:=zkq (zf5 l) (.agg #[.int .i64 2,.string ⟨#[]⟩,.slice A l.length c,.slice none 0 0,.slice none 0 0]) W B hs (Nat.le_trans hB hf.size) (hv.fr hf hB (by simp)) (show(2:Int)≠1 by decide);unfold ofV at this;rw[show many (zf5 l)=l.length from by show l.length+0+0=l.length;omega] at this;exact this))
 have F1:Fr [] w (w.alloc (.cells #[.int .i64 0,.string ⟨#[]⟩,.slice none 0 0,.slice none 0 0,.slice none 0 0] 43)):=(Fr.refl [] w).alloc _
 have R1:=hid (show Whole (w.alloc (.cells #[.int .i64 0,.string ⟨#[]⟩,.slice none 0 0,.slice none 0 0,.slice none 0 0] 43)) w.heap.size 43 [.int .i64 0,.string ⟨#[]⟩,.slice none 0 0,.slice none 0 0,.slice none 0 0] from Whole.new w _ _)
 clear hv h hs
 by_cases hm:l.length=0
 ·rw[if_pos hm] at O ⊢
  clear hm
  go_enter Tryz.func228,Tryz.ntmps228
  go_wp2_with fail
  refine(O.out _ F1).mono ?_
  rintro e w1 ⟨rfl,f1⟩
  have F2:=F1.trans f1
  have R2:=hid (R1.out.fr f1 (by simp))
  obtain⟨a0,a1,a2,a3,a4⟩:=five R2.out
  obtain⟨b0,b2,b3,b4,b5⟩:=z10 R2.out
  go_wp2
  refine bodyPost_ret (v:=.agg #[.int .i64 0,.string ⟨#[]⟩,.slice none 0 0,.slice none 0 0,.slice none 0 0]) (by simp[results,Tryz.results228,go_sem,a0,a1,a2,a3,a4]) rfl ?_
  refine⟨rfl,z49 F2 (Nat.le_refl _) _ _ _ _ _⟩
 ·rw[if_neg hm] at O ⊢
  clear hm
  go_enter Tryz.func228,Tryz.ntmps228
  go_wp2_with fail
  refine(O.out _ F1).mono ?_
  rintro e w1 ⟨rfl,f1⟩
  have F2:=F1.trans f1
  have R2:=hid (R1.out.fr f1 (by simp))
  obtain⟨a0,a1,a2,a3,a4⟩:=five R2.out
  obtain⟨b0,b2,b3,b4,b5⟩:=z10 R2.out
  go_wp2
  refine bodyPost_ret (v:=.agg #[.int .i64 2,.string ⟨#[]⟩,.slice A l.length c,.slice none 0 0,.slice none 0 0]) (by simp[results,Tryz.results228,go_sem,a0,a1,a2,a3,a4]) rfl ?_
  refine⟨rfl,z49 F2 (Nat.le_refl _) _ _ _ _ _⟩
theorem z7x(l:List ByteArray)(base:Nat)(v:Value)(w:World)(hl:l.length≤1000000)(ht:∀s∈l,s.size≤281474976710656)(h:w.ownsRow base 9 1 v l.length (z03 l)) :
  Calls prog 228 #[v] w (OwnI base (ofL l) w):=by
 obtain⟨A,c,rfl,-⟩:=z06 h
 refine(zm8 l A c w w.heap.size (z8q hl ht) (Nat.le_refl _) (z0t h)).mono ?_
 rintro e w' ⟨rfl,hf⟩
 unfold ofL
 by_cases h0:l.length=0
 ·rw[if_pos h0,if_pos h0]
  exact⟨_,rfl,z0l.nothing _ _,hf⟩
 ·rw[if_neg h0,if_neg h0]
  exact⟨_,rfl,⟨_,_,_,rfl,z0n h hf (by simp),⟨rfl,.inl ⟨rfl,rfl⟩⟩,⟨rfl,.inl ⟨rfl,rfl⟩⟩⟩,hf⟩
def z2i(x:Itm)(f t:Int):List ByteArray:=if z02 2 x=0 then z29 x.list f t else []
def zcj(x:Itm)(f t:Int)(w:World)(e:Ending)(w':World):Prop:=
 ∃u,e=.returned (.tuple #[u,.int .i64 (z02 2 x)])∧w'.ownsRow w.heap.size 9 1 u (z2i x f t).length (z03 (z2i x f t))∧Fr [] w w'
theorem z9u(l:List ByteArray)(f t:Int):(((z03 l).drop (z5s l.length f t * 1)).take ((z5t l.length f t - z5s l.length f t) * 1))=z03 (z29 l f t):=by
 unfold z29 z03
 rw[Nat.mul_one,Nat.mul_one,List.take_drop,←List.map_take,←List.map_drop]
 have:=z5y l.length f t
 rw[show z5s l.length f t+(z5t l.length f t - z5s l.length f t)=z5t l.length f t by omega]
theorem za4(x:Itm)(v:Value)(f t:Int)(w:World)(B:Nat)(hs:x.Small)(hB:B≤w.heap.size)(h:z0q w B v x)(hf:-9223372036854775808≤f∧f≤9223372036854775807)(ht:-9223372036854775808≤t∧t≤9223372036854775807) :
  Calls prog 184 #[v,.int .i64 f,.int .i64 t] w (zcj x f t w):=by
 have RD:=hid (fun W (hf:Fr [] w W)=>z9e x v W B hs (Nat.le_trans hB hf.size) (h.fr hf hB (by simp)))
 obtain⟨A1,c1,A2,c2,A3,c3,rfl,h1,h2,h3⟩:=h
 have D0:=hid (BX.new w (.int .i64 x.kind) (.string x.text) (.slice A1 x.list.length c1) (.slice A2 x.pairs.length c2) (.slice A3 x.scores.length c3))
 obtain⟨d0,d1,d2,d3,d4⟩:=five D0.out.b
 unfold zcj z2i
 have OK:=hid (fun(h:z02 2 x=0)=>z18 h)
 have H1:=hid h1
 clear h1 h2 h3 hs
 by_cases ha:z02 2 x=0
 ·rw[if_pos ha,ha]
  rw[ha] at RD
  have hok:=OK.out ha
  have hlen:x.list.length≤24:=by have:=hok.le24;unfold many at this;omega
  have hsp:=z5y x.list.length f t
  have SP:=hid (fun W=>zfa x.list.length f t W (by omega) hf ht)
  have HCL:=hid (fun W (hW:Fr [] w W)=>z56 (z5t x.list.length f t - z5s x.list.length f t) _ _ _ W B (by omega) (Nat.le_trans hB hW.size) ((H1.out.fr hW hB (by simp)).cut hsp.1 hsp.2) (by
   rw[z9u];exact z3f _))
  rw[z9u,←z2j x.list f t] at HCL
  have hlc:x.list.length≤c1∧c1≤9223372036854775807:=by
   obtain⟨A',c',e,_,hc,hm,_⟩:=H1.out
   cases e
   unfold maxLen at hm
   exact⟨hc,by omega⟩
  obtain⟨hlc1,hlc2⟩:=hlc
  obtain⟨hsp1,hsp2⟩:=hsp
  have EL:=hid (z2j x.list f t)
  clear hok OK ha
  rw[EL.out] at HCL
  rw[EL.out]
  generalize z29 x.list f t=r at *
  generalize z5s x.list.length f t=a at *
  generalize z5t x.list.length f t=b at *
  generalize x.list.length=n at *
  simp only[Nat.mul_one] at HCL
  obtain⟨A',hA⟩:∃A',(if c1=a then A1 else Option.map (fun x=>x.add a) A1)=A':=⟨_,rfl⟩
  rw[hA] at HCL
  go_enter Tryz.func184,Tryz.ntmps184
  go_wp2_with fail
  refine(RD.out _ D0.out.f).mono ?_
  rintro e w1 ⟨rfl,f1⟩
  have D1:=hid (D0.out.go f1)
  clear d0 d1 d2 d3 d4
  obtain⟨d0,d1,d2,d3,d4⟩:=five D1.out.b
  go_wp2_with fail
  refine(SP.out _).mono ?_
  rintro e w2 ⟨rfl,rfl⟩
  go_wp2_with fail
  refine(HCL.out _ D1.out.f).mono ?_
  rintro e w3 ⟨u,rfl,ho,f3⟩
  have hz:=D1.out.f.size
  go_wp2
  go_ret2
  exact⟨u,rfl,z1d ho hz,D1.out.f.trans f3⟩
 ·rw[if_neg ha]
  have q:(z02 2 x != 0)=true:=by simpa using ha
  clear OK ha
  generalize z02 2 x=r at *
  go_enter Tryz.func184,Tryz.ntmps184
  go_wp2_with fail
  refine(RD.out _ D0.out.f).mono ?_
  rintro e w1 ⟨rfl,f1⟩
  have D1:=hid (D0.out.go f1)
  go_wp2
  go_ret2
  exact⟨_,rfl,World.ownsRow_nil _ _ _ _,D1.out.f⟩
def zwo(code:Int)(y:Itm)(w:World)(e:Ending)(w':World):Prop:=∃u,e=.returned (.tuple #[u,.int .i64 code])∧z0l w' w.heap.size u y∧Fr [] w w'
def zy4(s:ByteArray)(code:Int)(y:Itm)(w:World)(e:Ending)(w':World):Prop:=∃u,e=.returned (.tuple #[u,.string s,.int .i64 code])∧z0l w' w.heap.size u y∧Fr [] w w'
theorem zg4(x:Itm)(v:Value)(f t:Int)(w:World)(B:Nat)(hs:x.Small)(hB:B≤w.heap.size)(h:z0q w B v x)(hf:-9223372036854775808≤f∧f≤9223372036854775807)(ht:-9223372036854775808≤t∧t≤9223372036854775807) :
  Calls prog 185 #[v,.int .i64 f,.int .i64 t] w (zwo (z02 2 x) (ofL (z2i x f t)) w):=by
 have RG:=hid (fun W (hW:Fr [] w W)=>za4 x v f t W B hs (Nat.le_trans hB hW.size) (h.fr hW hB (by simp)) hf ht)
 have hsm:(z2i x f t).length≤1000000∧∀s∈z2i x f t,s.size≤281474976710656:=by
  unfold z2i
  by_cases ha:z02 2 x=0
  ·rw[if_pos ha]
   have hok:=z18 ha
   refine⟨?_,fun s hs=>by have:=hok.texts s (z6y hs);omega⟩
   rw[z2j]
   have:=z5y x.list.length f t
   have:=hok.le24
   unfold many at this
   omega
  ·rw[if_neg ha]
   exact⟨by simp,by simp⟩
 have OF:=hid (fun W base u hu=>z7x (z2i x f t) base u W hsm.1 hsm.2 hu)
 have EZ:=hid (fun(ha:¬z02 2 x=0)=>(show ofL (z2i x f t)=z2r 0 from by unfold z2i;rw[if_neg ha];rfl))
 unfold zcj at RG
 obtain⟨A1,c1,A2,c2,A3,c3,rfl,h1,h2,h3⟩:=h
 have D0:=hid (BO.new w (.int .i64 x.kind) (.string x.text) (.slice A1 x.list.length c1) (.slice A2 x.pairs.length c2) (.slice A3 x.scores.length c3))
 obtain⟨d0,d1,d2,d3,d4⟩:=five D0.out.b
 clear h1 h2 h3 hs hf ht hsm
 generalize ofL (z2i x f t)=y at *
 generalize z2i x f t=r at *
 generalize z02 2 x=a at *
 by_cases ha:a=0
 ·subst ha
  clear EZ
  go_enter Tryz.func185,Tryz.ntmps185
  go_wp2_with fail
  refine(RG.out _ D0.out.f).mono ?_
  rintro e w1 ⟨u,rfl,ho,f1⟩
  have D1:=hid (D0.out.go f1)
  have hz:=D0.out.lt
  have HO:=hid ho
  obtain⟨U,cu,rfl,-⟩:=z06 ho
  clear d0 d1 d2 d3 d4 ho
  go_wp2_with fail
  refine(OF.out _ _ _ HO.out).mono ?_
  rintro e w2 ⟨u,rfl,hi,f2⟩
  have D2:=hid (D1.out.go f2)
  have HI:=hid hi
  obtain⟨P1,p1,P2,p2,P3,p3,rfl⟩:=hi.form
  clear hi
  obtain⟨a0,a1,a2,a3,a4⟩:=five D2.out.o
  obtain⟨b0,b2,b3,b4,b5⟩:=z10 D2.out.o
  go_wp2
  refine bodyPost_ret (v:=.tuple #[.agg #[.int .i64 y.kind,.string y.text,.slice P1 y.list.length p1,.slice P2 y.pairs.length p2,.slice P3 y.scores.length p3],.int .i64 0]) (by simp[results,Tryz.results185,go_sem,a0,a1,a2,a3,a4]) rfl ?_
  exact⟨_,rfl,(z1q HI.out (by omega) _ _ _ _ _).less (by omega),D2.out.end5 _ _ _ _ _⟩
 ·rw[EZ.out ha]
  have q:(a != 0)=true:=by simpa using ha
  clear EZ OF ha
  go_enter Tryz.func185,Tryz.ntmps185
  go_wp2_with fail
  refine(RG.out _ D0.out.f).mono ?_
  rintro e w1 ⟨u,rfl,ho,f1⟩
  have D1:=hid (D0.out.go f1)
  obtain⟨U,cu,rfl,-⟩:=z06 ho
  clear d0 d1 d2 d3 d4 ho
  obtain⟨a0,a1,a2,a3,a4⟩:=five D1.out.o
  obtain⟨b0,b2,b3,b4,b5⟩:=z10 D1.out.o
  go_wp2
  refine bodyPost_ret (v:=.tuple #[.agg #[.int .i64 0,.string ⟨#[]⟩,.slice none 0 0,.slice none 0 0,.slice none 0 0],.int .i64 a]) (by simp[results,Tryz.results185,go_sem,a0,a1,a2,a3,a4]) rfl ?_
  exact⟨_,rfl,z0l.nothing _ _,D1.out.end5 _ _ _ _ _⟩
theorem zih(x:Itm)(l:List ByteArray):(z9c x l).Small:=by
 unfold z9c
 split
 ·rename_i h
  obtain⟨h1,h2⟩:=zik h
  unfold ofK
  split
  ·exact z1c 0 (by decide)
  ·exact zcx (by decide) (by omega) (fun s hs=>by have:=z8u h1 s hs;omega)
 ·exact z1c 0 (by decide)
theorem zh4(x:Itm)(l:List ByteArray):(z60 3 x l).Small:=by
 unfold z60
 split
 ·rename_i h
  have h1:=(zfo h).2
  have h2:(z8m x.list l).length≤x.list.length:=List.length_filter_le _ _
  unfold ofK
  split
  ·exact z1c 0 (by decide)
  ·exact zcx (by decide) (by omega) (fun s hs=>by have:=(z18 h).texts s (List.mem_filter.1 hs).1;omega)
 ·exact z1c 0 (by decide)
def ztq(m:Nat)(ys:List Value)(base:Nat)(v:Value)(w:World)(e:Ending)(w':World):Prop:=
 ∃v',e=.returned v'∧w'.ownsRow base 9 1 v' m ys∧w.grownBy w' v.ownBlock∧v'.ownBlock=v.ownBlock
theorem zeroS:∀w,(zeroValue 9).run prog w=.ok (.string ⟨#[]⟩) w:=fun w=>by kernel_rfl
theorem zs8(n i j:Nat)(xs:List Value)(base:Nat)(v:Value)(w:World)(hn:n≤1000000)(hij:i < j)(hj:j≤n)(h:w.ownsRow base 9 1 v n xs)(h1:∀u∈xs,u.oneCell'=true) :
  Calls prog 229 #[v,.int .i64 i,.int .i64 j] w (ztq (i+(n - j)) (xs.take (i * 1)++xs.drop (j * 1)) base v w):=by
 obtain⟨i0,hi,hz0,hz1,hz2⟩:=info_parts z3o
 obtain⟨A,c,rfl,hA,hc,hm⟩:=z06 h
 rcases hA with rfl|⟨g,rfl⟩
 ·exfalso
  rcases h.2 with⟨_,h0⟩|⟨g',cap',cur,h',_⟩
  ·omega
  ·cases h'
 obtain⟨cur0,w0,l0,t0,hb0,_,_,hxl⟩:=z28 h
 have hdl:(xs.drop (j * 1)).length=(n - j) * 1:=by rw[List.length_drop,hxl];omega
 obtain⟨zs,hzs⟩:∃zs,zs=(Builtin.zeroCells (Value.cells (.string ⟨#[]⟩)) (n - (i+(n - j)))).toList:=⟨_,rfl⟩
 have hzl:zs.length=(j - i) * 1:=by rw[hzs];simp[Builtin.zeroCells,Value.cells];omega
 obtain⟨cur1,w1,l1,o2⟩:=zig (w:=w.drew) h hij hj hzl
 obtain⟨A,hA,hsrc⟩:∃A:Addr,(if c=j then (some ⟨g,0,none⟩:Option Addr) else some ⟨g,j,none⟩)=some A∧Hid (∀t u,(xs.drop (j * 1))[t]? = some u→w.drew.cell? (A.add t)=some u):=by
  by_cases hcj:c=j
  ·refine⟨⟨g,0,none⟩,by simp[hcj],fun t u hu=>?_⟩
   have h0:(xs.drop (j * 1)).length=0:=by rw[hdl];omega
   rw[List.length_eq_zero_iff.1 h0] at hu
   simp at hu
  ·refine⟨⟨g,j * 1,none⟩,by simp[hcj],fun t u hu=>?_⟩
   rw[List.getElem?_drop] at hu
   have hlt:=(List.getElem?_eq_some_iff.1 hu).1
   have:=(h.cellAt (j * 1+t) (by omega)).trans hu
   unfold Addr.add
   split
   ·have e:t=0:=by assumption
    subst e
    exact this
   ·exact this
 have s1:=hid hdl
 have s2:=hid (show ∀u∈xs.drop (j * 1),u.oneCell'=true from fun u hu=>h1 u (List.mem_of_mem_drop hu))
 have hcn:(i+(n - j)) * 1≤c * 1:=Nat.mul_le_mul_right _ (by omega)
 have s3:=hid (show ∀t,t < (xs.drop (j * 1)).length→(w.drew.cell? ⟨g,0+i * 1+t,none⟩).isSome=true∧w.drew.frozen? ⟨g,0+i * 1+t,none⟩=false from fun t ht=>by
  rw[Nat.zero_add]
  exact z0k w0 (o:=i * 1) (m:=(n - j) * 1) (by rw[l0];omega) t (by omega))
 obtain⟨W1,hW1⟩:∃W1,W1=w.drew.setCells g (0+i * 1) (xs.drop (j * 1)):=⟨_,rfl⟩
 have hcl:∀ty,(Builtin.clear_ #[24] ty #[.slice (some ⟨g,(i+(n - j)),none⟩) (n - (i+(n - j))) (c - (i+(n - j)))]).run prog W1=.ok (.tuple #[]) (W1.setCells g ((i+(n - j))) zs):=fun ty=>by
  have:=z3j (P:=prog) W1 24 9 ty (.string ⟨#[]⟩) Tryz.underlying24 zeroS (by intro u hu;simp[Value.cells] at hu;rcases hu with rfl|rfl <;> rfl) g ((i+(n - j)) * 1) (n - (i+(n - j))) (c - (i+(n - j))) (by omega) (fun t ht=>by
   rw[hW1,Nat.zero_add]
   exact z0k (w:=(w.drew.setCells g (i * 1) (xs.drop (j * 1)))) w1 (o:=(i+(n - j)) * 1) (m:=(n - (i+(n - j))) * 1) (by rw[l1];omega) t (by simpa[Value.cells] using ht))
  rw[←hzs,show(i+(n - j)) * 1=(i+(n - j)) by omega] at this
  exact this
 rw[show(i+(n - j)) * 1=(i+(n - j)) by omega] at o2
 have O2:=hid o2
 have HW:=hid hW1
 have hic:i≤c:=by omega
 have hjc:j≤c:=by omega
 have hlt:i < j:=hij
 unfold maxLen at hm
 clear h h1 cur0 w0 l0 t0 hb0 hxl hdl hzs hzl w1 l1 o2 cur1 hW1 hcn
 go_enter Tryz.func229,Tryz.ntmps229
 go_wp2_with fail
 go_region_law (refine step_append_room rfl (.tmp 22) (.tmp 25) 24 rfl 9 i0 1 Tryz.underlying24 hi hz1 g 0 i c (by simp[Act.eval,Act.put]) A (n - j) (c - j) (xs.drop (j * 1)) (by simp[Act.eval,Act.put]) s1.out hsrc.out s2.out (by omega) s3.out ?_;rw[←HW.out])
 go_wp2
 go_ret
 have e1:=HW.out
 rw[Nat.zero_add] at e1
 subst e1
 exact⟨_,rfl,O2.out,z24 ((z09 _ _ _).trans (z09 _ _ _)),rfl⟩
theorem zgj(l:List ByteArray)(i:Nat):(z03 l).take (i * 1)=z03 (l.take i):=by simp[z03,List.map_take]
theorem zgu(l:List ByteArray)(i:Nat):(z03 l).drop (i * 1)=z03 (l.drop i):=by simp[z03,List.map_drop]
def without{α:Type}(l:List α)(i:Nat):List α:=l.take i++l.drop (i+1)
theorem z8f{α:Type}(l:List α)(i:Nat)(h:i < l.length):(without l i).length=l.length - 1:=by
 unfold without
 rw[List.length_append,List.length_take,List.length_drop]
 omega
theorem zjv{α:Type}{l:List α}{i:Nat}{s:α}(h:s∈without l i):s∈l:=by
 unfold without at h
 rcases List.mem_append.1 h with h|h
 ·exact List.mem_of_mem_take h
 ·exact List.mem_of_mem_drop h
def zwv(T size m:Nat)(ys:List Value)(base:Nat)(v:Value)(w:World)(e:Ending)(w':World):Prop:=
 ∃v',e=.returned v'∧w'.ownsRow base T size v' m ys∧w.grownBy w' v.ownBlock∧v'.ownBlock=v.ownBlock
theorem zsn(l:List ByteArray)(i:Nat)(base:Nat)(v:Value)(w:World)(hl:l.length≤1000000)(hi:i < l.length)(h:w.ownsRow base 9 1 v l.length (z03 l)) :
  Calls prog 229 #[v,.int .i64 i,.int .i64 ((i:Int)+1)] w (zwv 9 1 (without l i).length (z03 (without l i)) base v w):=by
 have:=zs8 l.length i (i+1) (z03 l) base v w hl (by omega) (by omega) h (z3f l)
 rw[zgj,zgu,←z4y,show i+(l.length - (i+1))=(without l i).length by rw[z8f l i hi];omega] at this
 exact this
theorem zt4{x:Itm}(hok:AsOk 2 x)(hk:x.kind≠0):0 < x.list.length:=by
 have hc:=hok.some hk
 have hk2:x.kind=2:=by rcases hok.kind with h|h;exact absurd h hk;exact h
 have hb:=hok.bare
 unfold z0d at hc
 rw[if_neg (by omega),if_neg (by rw[hb];decide),if_neg (by omega)] at hc
 by_cases hm:many x=0
 ·rw[if_pos hm] at hc;cases hc
 ·unfold z6g at hb
  rw[hk2] at hb
  simp at hb
  obtain⟨⟨_,e3⟩,e4⟩:=hb
  unfold many at hm
  rw[e3,e4] at hm
  simp at hm
  exact List.length_pos_iff.2 hm
theorem zja(x:Itm)(left:Bool)(h:0 < x.list.length):zr1 x left=without x.list (if left then 0 else x.list.length - 1):=by
 unfold zr1 without
 cases left
 ·simp
  omega
 ·simp
theorem zij(x:Itm)(v:Value)(left:Bool)(w:World)(B:Nat)(hs:x.Small)(hB:B≤w.heap.size)(h:z0q w B v x) :
  Calls prog 182 #[v,.bool left] w (zy4 (zr3 x left) (z1u x) (zdu x left) w):=by
 have RD:=hid (fun W (hf:Fr [] w W)=>z9e x v W B hs (Nat.le_trans hB hf.size) (h.fr hf hB (by simp)))
 obtain⟨A1,c1,A2,c2,A3,c3,rfl,h1,h2,h3⟩:=h
 have H1:=hid h1
 have D0:=hid (BO.new w (.int .i64 x.kind) (.string x.text) (.slice A1 x.list.length c1) (.slice A2 x.pairs.length c2) (.slice A3 x.scores.length c3))
 obtain⟨d0,d1,d2,d3,d4⟩:=five D0.out.b
 have EC:=hid (show z1u x=if z02 2 x≠0 then z02 2 x else if x.kind=0 then 5 else 0 from rfl)
 have EY:=hid (show zdu x left=if z1u x=0 then ofL (zr1 x left) else z2r 0 from rfl)
 have EK:=hid (show zr3 x left=if z1u x=0 then zwx x left else ⟨#[]⟩ from rfl)
 have hs1:=hs.list
 clear h1 h2 h3 hs
 have no0:∀c:Int,c≠0→z1u x=c→zdu x left=z2r 0∧zr3 x left=⟨#[]⟩:=fun c hc he=>by
  have h0:z1u x≠0:=by rw[he];exact hc
  exact⟨by rw[EY.out,if_neg h0],by rw[EK.out,if_neg h0]⟩
 have NO:=hid no0
 clear no0
 by_cases ha:z02 2 x=0
 ·have hok:=z18 ha
  rw[ha] at RD
  by_cases hk:x.kind=0
  ·have E:=hid (show z1u x=5 from by rw[EC.out,if_neg (by simpa using ha),if_pos hk])
   obtain⟨e1,e2⟩:=NO.out 5 (by decide) E.out
   rw[e1,e2,E.out]
   have q:(x.kind==0)=true:=by simpa using hk
   clear e1 e2 E EC EY EK ha hk NO hok
   generalize x.kind=k at *
   go_enter Tryz.func182,Tryz.ntmps182
   go_wp2_with fail
   refine(RD.out _ D0.out.f).mono ?_
   rintro e w1 ⟨rfl,f1⟩
   have D1:=hid (D0.out.go f1)
   clear d0 d1 d2 d3 d4
   obtain⟨d0,d1,d2,d3,d4⟩:=five D1.out.b
   obtain⟨a0,a1,a2,a3,a4⟩:=five D1.out.o
   obtain⟨b0,b2,b3,b4,b5⟩:=z10 D1.out.o
   go_wp2
   refine bodyPost_ret (v:=.tuple #[.agg #[.int .i64 0,.string ⟨#[]⟩,.slice none 0 0,.slice none 0 0,.slice none 0 0],.string ⟨#[]⟩,.int .i64 5]) (by simp[results,Tryz.results182,go_sem,a0,a1,a2,a3,a4]) rfl ?_
   exact⟨_,rfl,z0l.nothing _ _,D1.out.end5 _ _ _ _ _⟩
  ·have E:=hid (show z1u x=0 from by rw[EC.out,if_neg (by simpa using ha),if_neg hk])
   have q:(x.kind==0)=false:=by simpa using hk
   have hpos:=zt4 hok hk
   have h24:x.list.length≤24:=by have:=hok.le24;unfold many at this;omega
   obtain⟨b,off,rfl,hb,hlc,hcm,hcell⟩:=H1.out.at_ hpos
   rw[EY.out,EK.out,E.out,if_pos rfl,if_pos rfl]
   obtain⟨i,hi⟩:∃i,i=if left then 0 else x.list.length - 1:=⟨_,rfl⟩
   have hil:i < x.list.length:=by rw[hi];split <;> omega
   obtain⟨s,hs⟩:∃s,x.list[i]? = some s:=⟨_,List.getElem?_eq_getElem hil⟩
   have hps:zwx x left=s:=by unfold zwx;rw[←hi,List.getD_eq_getElem?_getD,hs];rfl
   have hpl:zr1 x left=without x.list i:=by rw[zja x left hpos,hi]
   rw[hps,hpl]
   have OF:=hid (fun W base u hu=>z7x (without x.list i) base u W (by rw[z8f _ _ hil];omega) (fun s hs=>by
    have:=hok.texts s (zjv hs);omega) hu)
   have DL:=hid (fun W base u hu=>zsn x.list i base u W (by omega) hil hu)
   have CL:=hid (fun W (hW:Fr [] w W)=>z56 x.list.length (z03 x.list) (some ⟨b,off,none⟩) c1 W B (by omega) (Nat.le_trans hB hW.size) (H1.out.fr hW hB (by simp)) (z3f _))
   have hcs:w.cell? ⟨b,off+i,none⟩=some (.string s):=hcell i _ (z15 _ i s hs)
   have HCS:=hid hcs
   unfold maxLen at hcm
   clear hok E EC EY EK ha hk NO hps hpl hcell hs hcs
   generalize ofL (without x.list i)=y at *
   cases left
   ·have hie:(i:Int)=((x.list.length:Int) - 1):=by rw[hi];simp;omega
    have hi0:=hi;clear hi0
    have HIE:=hid hie
    have hoff:off+i < off+x.list.length:=by omega
    clear hi hie
    go_enter Tryz.func182,Tryz.ntmps182
    go_wp2_with fail
    refine(RD.out _ D0.out.f).mono ?_
    rintro e w1 ⟨rfl,f1⟩
    have D1:=hid (D0.out.go f1)
    have hz1:=D1.out.lt
    clear d0 d1 d2 d3 d4
    obtain⟨d0,d1,d2,d3,d4⟩:=five D1.out.b
    have hc1:w1.cell? ⟨b,off+i,none⟩=some (.string s):=D1.out.f.cell HCS.out (by simp)
    have hne1:¬b=w.heap.size+1:=by omega
    have hne2:¬w.heap.size+1=b:=by omega
    go_wp2
    rw[←HIE.out]
    clear HIE
    have hwr:IntKind.i64.wrap ((i:Int)+1)=(i:Int)+1:=IntWalk.i64_in _ (by omega)
    rw[←hwr] at DL
    clear hwr
    go_region_held3 (fun wx=>wx.cell? ⟨w.heap.size,2,none⟩=some (.slice (some ⟨b,off,none⟩) x.list.length c1)∧wx.cell? ⟨b,off+i,none⟩=some (.string s)) (go_keep) (first|(go_at_call 142;(refine(CL.out _ D1.out.f.drew).mono ?_);rintro e w3 ⟨u,rfl,ho,f3⟩;have D3:=hid (D1.out.go (z01 f3));clear d0 d1 d2 d3 d4 hc1 f3;obtain⟨d0,d1,d2,d3,d4⟩:=five D3.out.b;have hc1:w3.cell? ⟨b,off+i,none⟩=some (.string s):=D3.out.f.cell HCS.out (by simp);have HO:=hid (show w3.ownsRow w1.heap.size _ _ _ _ _ from ho);obtain⟨U,cu,rfl,-⟩:=z06 ho;clear ho)|(go_at_call 229;(refine(DL.out _ _ _ HO.out).mono ?_);rintro e w4 ⟨u4,rfl,ho4,hg4,-⟩;have D4:=hid (D3.out.step (z47 hg4) (fun g hg=>by have:=z1j HO.out hg;omega));clear d0 d1 d2 d3 d4 hc1 hg4;obtain⟨d0,d1,d2,d3,d4⟩:=five D4.out.b;have hc1:w4.cell? ⟨b,off+i,none⟩=some (.string s):=D4.out.f.cell HCS.out (by simp);have HO4:=hid ho4;obtain⟨U4,cu4,rfl,-⟩:=z06 ho4;clear ho4)|(go_at_call 228;(refine(OF.out _ _ _ HO4.out).mono ?_);rintro e w5 ⟨u5,rfl,hi,f5⟩;have D5:=hid (D4.out.go f5);clear d0 d1 d2 d3 d4 hc1 f5;obtain⟨d0,d1,d2,d3,d4⟩:=five D5.out.b;have hc1:w5.cell? ⟨b,off+i,none⟩=some (.string s):=D5.out.f.cell HCS.out (by simp);have HI:=hid hi;obtain⟨P1,p1,P2,p2,P3,p3,rfl⟩:=hi.form;clear hi;obtain⟨a0,a1,a2,a3,a4⟩:=five D5.out.o;obtain⟨b0,b2,b3,b4,b5⟩:=z10 D5.out.o))
    go_wp2
    refine bodyPost_ret (v:=.tuple #[.agg #[.int .i64 y.kind,.string y.text,.slice P1 y.list.length p1,.slice P2 y.pairs.length p2,.slice P3 y.scores.length p3],.string s,.int .i64 0]) (by simp[results,Tryz.results182,go_sem,a0,a1,a2,a3,a4]) rfl ?_
    exact⟨_,rfl,(z1q HI.out (by omega) _ _ _ _ _).less (by omega),D5.out.end5 _ _ _ _ _⟩
   ·have hie:(i:Int)=0:=by rw[hi];simp
    obtain rfl:i=0:=by omega
    rw[hie,Int.zero_add] at DL
    have hoff:off+0 < off+x.list.length:=by omega
    clear hi hie
    go_enter Tryz.func182,Tryz.ntmps182
    go_wp2_with fail
    refine(RD.out _ D0.out.f).mono ?_
    rintro e w1 ⟨rfl,f1⟩
    have D1:=hid (D0.out.go f1)
    have hz1:=D1.out.lt
    clear d0 d1 d2 d3 d4
    obtain⟨d0,d1,d2,d3,d4⟩:=five D1.out.b
    have hc1:w1.cell? ⟨b,off,none⟩=some (.string s):=D1.out.f.cell HCS.out (by simp)
    have hne1:¬b=w.heap.size+1:=by omega
    have hne2:¬w.heap.size+1=b:=by omega
    go_wp2
    go_region_held3 (fun wx=>wx.cell? ⟨w.heap.size,2,none⟩=some (.slice (some ⟨b,off,none⟩) x.list.length c1)∧wx.cell? ⟨b,off,none⟩=some (.string s)) (go_keep) (first|(go_at_call 142;(refine(CL.out _ D1.out.f.drew).mono ?_);rintro e w3 ⟨u,rfl,ho,f3⟩;have D3:=hid (D1.out.go (z01 f3));clear d0 d1 d2 d3 d4 hc1 f3;obtain⟨d0,d1,d2,d3,d4⟩:=five D3.out.b;have hc1:w3.cell? ⟨b,off,none⟩=some (.string s):=D3.out.f.cell HCS.out (by simp);have HO:=hid (show w3.ownsRow w1.heap.size _ _ _ _ _ from ho);obtain⟨U,cu,rfl,-⟩:=z06 ho;clear ho)|(go_at_call 229;(refine(DL.out _ _ _ HO.out).mono ?_);rintro e w4 ⟨u4,rfl,ho4,hg4,-⟩;have D4:=hid (D3.out.step (z47 hg4) (fun g hg=>by have:=z1j HO.out hg;omega));clear d0 d1 d2 d3 d4 hc1 hg4;obtain⟨d0,d1,d2,d3,d4⟩:=five D4.out.b;have hc1:w4.cell? ⟨b,off,none⟩=some (.string s):=D4.out.f.cell HCS.out (by simp);have HO4:=hid ho4;obtain⟨U4,cu4,rfl,-⟩:=z06 ho4;clear ho4)|(go_at_call 228;(refine(OF.out _ _ _ HO4.out).mono ?_);rintro e w5 ⟨u5,rfl,hi,f5⟩;have D5:=hid (D4.out.go f5);clear d0 d1 d2 d3 d4 hc1 f5;obtain⟨d0,d1,d2,d3,d4⟩:=five D5.out.b;have hc1:w5.cell? ⟨b,off,none⟩=some (.string s):=D5.out.f.cell HCS.out (by simp);have HI:=hid hi;obtain⟨P1,p1,P2,p2,P3,p3,rfl⟩:=hi.form;clear hi;obtain⟨a0,a1,a2,a3,a4⟩:=five D5.out.o;obtain⟨b0,b2,b3,b4,b5⟩:=z10 D5.out.o))
    go_wp2
    refine bodyPost_ret (v:=.tuple #[.agg #[.int .i64 y.kind,.string y.text,.slice P1 y.list.length p1,.slice P2 y.pairs.length p2,.slice P3 y.scores.length p3],.string s,.int .i64 0]) (by simp[results,Tryz.results182,go_sem,a0,a1,a2,a3,a4]) rfl ?_
    exact⟨_,rfl,(z1q HI.out (by omega) _ _ _ _ _).less (by omega),D5.out.end5 _ _ _ _ _⟩
 ·have E:=hid (show z1u x=z02 2 x from by rw[EC.out,if_pos ha])
  obtain⟨e1,e2⟩:=NO.out _ ha E.out
  rw[e1,e2,E.out]
  have q:(z02 2 x==0)=false:=by simpa using ha
  have q2:(z02 2 x != 0)=true:=by simpa using ha
  clear e1 e2 E EC EY EK ha NO
  generalize z02 2 x=r at *
  go_enter Tryz.func182,Tryz.ntmps182
  go_wp2_with fail
  refine(RD.out _ D0.out.f).mono ?_
  rintro e w1 ⟨rfl,f1⟩
  have D1:=hid (D0.out.go f1)
  clear d0 d1 d2 d3 d4
  obtain⟨a0,a1,a2,a3,a4⟩:=five D1.out.o
  obtain⟨b0,b2,b3,b4,b5⟩:=z10 D1.out.o
  go_wp2
  refine bodyPost_ret (v:=.tuple #[.agg #[.int .i64 0,.string ⟨#[]⟩,.slice none 0 0,.slice none 0 0,.slice none 0 0],.string ⟨#[]⟩,.int .i64 r]) (by simp[results,Tryz.results182,go_sem,a0,a1,a2,a3,a4]) rfl ?_
  exact⟨_,rfl,z0l.nothing _ _,D1.out.end5 _ _ _ _ _⟩
theorem z9g{l:List ByteArray}(hl:l.length≤1000000)(ht:∀s∈l,s.size≤281474976710656):(ofL l).Small:=by
 unfold ofL
 split
 ·exact z1c 0 (by decide)
 ·exact z8q hl ht
theorem zi9(x:Itm)(left:Bool)(l:List ByteArray):(z8p x left l).Small:=by
 unfold z8p
 by_cases hc:z14 x l=0
 ·rw[if_pos hc]
  unfold z14 at hc
  by_cases ha:z02 2 x=0
  ·rw[if_neg (by simpa using ha)] at hc
   by_cases hb:z13 l=0
   ·rw[if_neg (by simpa using hb)] at hc
    have hok:=z18 ha
    have hos:=z64 hb
    have hm:¬24 < x.list.length+l.length:=fun h=>by rw[if_pos h] at hc;cases hc
    refine z9g (by rw[z4e];omega) (fun s hs=>?_)
    rcases zfn hs with h|h
    ·have:=hok.texts s h;omega
    ·have:=hos s h;omega
   ·rw[if_pos hb] at hc;exact absurd hc hb
  ·rw[if_pos ha] at hc;exact absurd hc ha
 ·rw[if_neg hc];exact z1c 0 (by decide)
theorem zmq{x:Itm}(h:z1u x=0):z02 2 x=0:=by
 unfold z1u at h
 by_cases ha:z02 2 x=0
 ·exact ha
 ·rw[if_pos ha] at h;exact absurd h ha
theorem zv6{x:Itm}{left:Bool}{s:ByteArray}(h:s∈zr1 x left):s∈x.list:=by
 unfold zr1 at h
 cases left
 ·exact List.mem_of_mem_take h
 ·exact List.mem_of_mem_drop h
theorem zxb(x:Itm)(left:Bool):(zr1 x left).length≤x.list.length:=by
 unfold zr1
 cases left <;> simp
theorem zle(x:Itm)(left:Bool):(zdu x left).Small:=by
 unfold zdu
 by_cases hc:z1u x=0
 ·rw[if_pos hc]
  have hok:=z18 (zmq hc)
  have:=hok.le24
  unfold many at this
  refine z9g (by have:=zxb x left;omega) (fun s hs=>by have:=hok.texts s (zv6 hs);omega)
 ·rw[if_neg hc];exact z1c 0 (by decide)
theorem zmt(x:Itm)(s:ByteArray):(zmz x s).Small:=by
 unfold zmz
 by_cases hc:z02 2 x=0
 ·rw[if_pos hc]
  have hok:=z18 hc
  have:=hok.le24
  unfold many at this
  refine z9g (by have:(zm2 x s).length≤x.list.length:=List.length_filter_le _ _;omega) (fun y hy=>by have:=hok.texts y (List.mem_filter.1 hy).1;omega)
 ·rw[if_neg hc];exact z1c 0 (by decide)
theorem zcw(x:Itm)(f t:Int):(z2i x f t).length≤24∧∀s∈z2i x f t,s.size≤281474976710656:=by
 unfold z2i
 by_cases ha:z02 2 x=0
 ·rw[if_pos ha]
  have hok:=z18 ha
  refine⟨?_,fun s hs=>by have:=hok.texts s (z6y hs);omega⟩
  rw[z2j]
  have:=z5y x.list.length f t
  have:=hok.le24
  unfold many at this
  omega
 ·rw[if_neg ha]
  exact⟨by simp,by simp⟩
theorem zgk{l:List (ByteArray×ByteArray)}(hl:l.length≤1000000)(ht:∀s∈l,s.1.size≤281474976710656∧s.2.size≤281474976710656):(ofP l).Small:=by
 unfold ofP
 split
 ·exact z1c 0 (by decide)
 ·exact zcs hl ht
theorem zw4{x:Itm}{l:List (ByteArray×ByteArray)}(h:z1y x l=0):z02 4 x=0∧¬l.any z4p=true:=by
 unfold z1y at h
 by_cases ha:z02 4 x=0
 ·rw[if_neg (by simpa using ha)] at h
  by_cases hb:l.length=0
  ·rw[if_pos hb] at h;cases h
  ·rw[if_neg hb] at h
   by_cases hc:l.any z4p=true
   ·rw[if_pos hc] at h;cases h
   ·exact⟨ha,hc⟩
 ·rw[if_pos ha] at h;exact absurd h ha
theorem putOk{x:Itm}{l:List (ByteArray×ByteArray)}(h:z1v x l=0):z1y x l=0∧(zql x l).length≤24:=by
 unfold z1v at h
 by_cases ha:z1y x l=0
 ·rw[if_neg (by simpa using ha)] at h
  by_cases hb:24 < (zql x l).length
  ·rw[if_pos hb] at h;cases h
  ·exact⟨ha,by omega⟩
 ·rw[if_pos ha] at h;exact absurd h ha
theorem zmn{x:Itm}{l:List (ByteArray×ByteArray)}(h:z1y x l=0):∀s∈zql x l,s.1.size≤60∧s.2.size≤60:=fun s hs=>by
 obtain⟨ha,hc⟩:=zw4 h
 rcases zbz _ _ hs with h|h
 ·exact zes hc s h
 ·exact(z96 ha).2 s h
theorem zlx(x:Itm)(l:List (ByteArray×ByteArray)):(zl9 x l).Small:=by
 unfold zl9
 split
 ·rename_i h
  obtain⟨hp,h24⟩:=putOk h
  exact zgk (by omega) (fun s hs=>by have:=zmn hp s hs;omega)
 ·exact z1c 0 (by decide)
theorem zjd(x:Itm)(l:List ByteArray):(z9j x l).Small:=by
 unfold z9j
 split
 ·rename_i h
  have hok:=z96 h
  have:=List.length_filter_le (fun p:ByteArray×ByteArray=>!(l.any fun y=>decide (y=p.1))) x.pairs
  exact zgk (by unfold zam;omega) (fun s hs=>by have:=hok.2 s (List.mem_filter.1 hs).1;omega)
 ·exact z1c 0 (by decide)
def Turned(l d:List ByteArray)(m:Nat):Prop:=d.length=l.length∧∀t,t < l.length→d[t]? = if t < m∨l.length < t+1+m then l[l.length - 1 - t]? else l[t]?
theorem zjf(l:List ByteArray):Turned l l 0:=⟨rfl,fun t ht=>by rw[if_neg (by omega)]⟩
theorem zjg{l d:List ByteArray}{m:Nat}{a b:ByteArray}(h:Turned l d m)(hm:m+1+m < l.length)(ha:d[m]? = some a)(hb:d[l.length - 1 - m]? = some b) :
  Turned l ((d.set m b).set (l.length - 1 - m) a) (m+1):=by
 refine⟨by simp[h.1],fun t ht=>?_⟩
 have hl:=h.1
 have e1:=h.2 m (by omega)
 have e2:=h.2 (l.length - 1 - m) (by omega)
 rw[if_neg (by omega),ha] at e1
 rw[if_neg (by omega),hb] at e2
 by_cases h1:t=l.length - 1 - m
 ·rw[h1,List.getElem?_set_self (by simp;omega),if_pos (by omega),show l.length - 1 - (l.length - 1 - m)=m by omega]
  exact e1
 ·rw[List.getElem?_set_ne (by omega)]
  by_cases h2:t=m
  ·rw[h2,List.getElem?_set_self (by omega),if_pos (by omega)]
   exact e2
  ·rw[List.getElem?_set_ne (by omega),h.2 t ht]
   by_cases h3:t < m∨l.length < t+1+m
   ·rw[if_pos h3,if_pos (by omega)]
   ·rw[if_neg h3,if_neg (by omega)]
theorem zmf{l d:List ByteArray}{m:Nat}(h:Turned l d m)(hm:l.length≤m+1+m):d=l.reverse:=by
 apply List.ext_getElem?
 intro t
 by_cases ht:t < l.length
 ·rw[h.2 t ht,List.getElem?_reverse ht]
  by_cases h3:t < m∨l.length < t+1+m
  ·rw[if_pos h3]
  ·rw[if_neg h3]
   congr 1
   omega
 ·rw[List.getElem?_eq_none (by have:=h.1;omega),List.getElem?_eq_none (by simp;omega)]
def zut(l:List ByteArray)(base:Nat)(v:Value)(w:World)(e:Ending)(w':World):Prop:=e=.returned (.tuple #[])∧w'.ownsRow base 9 1 v l.length (z03 l.reverse)∧w.grownBy w' v.ownBlock
theorem zv0(l:List ByteArray)(base:Nat)(v:Value)(w:World)(hl:l.length≤1000000)(h:w.ownsRow base 9 1 v l.length (z03 l)) :
  Calls prog 227 #[v] w (zut l base v w):=by
 obtain⟨A,c,rfl,hA,hc,hm⟩:=z06 h
 rcases hA with rfl|⟨g,rfl⟩
 ·have h0:l.length=0:=by
   rcases h.2 with⟨_,h0⟩|⟨g',cap',cur,h',_⟩
   ·exact h0
   ·cases h'
  obtain rfl:l=[]:=List.eq_nil_of_length_eq_zero h0
  have H:=hid h
  clear h h0
  go_enter Tryz.func227,Tryz.ntmps227
  go_wp2
  go_loopg [2,3] 0 (fun _ s2 s3 wr=>s2=.int .i64 0∧s3=.int .i64 (-1)∧wr=w)
  case atStart=>exact⟨rfl,rfl,rfl⟩
  case round=>
   obtain⟨rfl,rfl,rfl⟩:=hrel
   go_wp2
   go_end0
   exact⟨rfl,H.out,z7y _ _⟩
 ·have H:=hid h
  clear h
  go_enter Tryz.func227,Tryz.ntmps227
  go_wp2
  go_loopg [2,3] l.length (fun k s2 s3 wr=>∃(m:Nat) (d:List ByteArray),k=l.length - m∧m≤l.length∧s2=.int .i64 m∧s3=.int .i64 ((l.length:Int) - 1 - (m:Int))∧Turned l d m ∧
   wr.ownsRow base 9 1 (.slice (some ⟨g,0,none⟩) l.length c) l.length (z03 d)∧w.grownBy wr (some g))
  case atStart=>exact⟨0,l,rfl,Nat.zero_le _,rfl,by simp,zjf l,H.out,z7y _ _⟩
  case round=>
   obtain⟨m,d,rfl,hml,rfl,rfl,hT,ho,hg⟩:=hrel
   have HT:=hid hT
   have hdl:=hT.1
   by_cases hlt:m+1+m < l.length
   ·obtain⟨a,ha⟩:∃a,d[m]? = some a:=⟨_,List.getElem?_eq_getElem (by omega)⟩
    obtain⟨b,hb⟩:∃b,d[l.length - 1 - m]? = some b:=⟨_,List.getElem?_eq_getElem (by omega)⟩
    obtain⟨j,hj⟩:∃j,j=l.length - 1 - m:=⟨_,rfl⟩
    have c1:wr.cell? ⟨g,m,none⟩=some (.string a):=(ho.cellAt m (by omega)).trans (z15 d m a ha)
    have c2:wr.cell? ⟨g,j,none⟩=some (.string b):=(ho.cellAt j (by omega)).trans (z15 d j b (by rw[hj];exact hb))
    have f1:=ho.frozenAt m
    have f2:=ho.frozenAt j
    have HA:=hid ha
    have HB:=hid hb
    have HO:=hid ho
    have HG:=hid hg
    have ej:(l.length:Int) - 1 - (m:Int)=(j:Int):=by omega
    rw[ej]
    have hjl:j < l.length:=by omega
    have hmj:m < j:=by omega
    have HJ:=hid hj
    clear hT ho hg ha hb hj ej hdl
    go_wp2_with fail
    go_region
    go_wp2
    go_roundg (l.length - (m+1))
    case measure=>omega
    case rel=>
     have o1:=(HO.out.stored m (.string b))
     have o2:=(o1.1.stored j (.string a))
     have N:=zjg HT.out hlt HA.out HB.out
     have hj:=HJ.out
     refine⟨m+1,(d.set m b).set j a,rfl,by omega,by simp,?_,by rw[hj];exact N,by rw[zau,zau];exact o2.1,z84 ((HG.out.trans o1.2).trans o2.2)⟩
     congr 1
     omega
   ·have N:=zmf HT.out (by omega)
    clear hT hdl
    have HO:=hid ho
    have HG:=hid hg
    have HN:=hid N
    clear ho hg N
    go_wp2
    go_end0
    exact⟨rfl,by rw[←HN.out];exact HO.out,HG.out⟩
end Go.Proofs.YtamgdmiopinidaaGreatDoor
