/- Contracts that the proof of E3 uses. No condition beyond those in each theorem. -/
import Derived.Test.YtamgdmiopinidaaGreatDoorSlE327
import Derived.Test.YtamgdmiopinidaaGreatDoorSlE331
set_option linter.unusedVariables false
set_option linter.unusedSimpArgs false
set_option maxHeartbeats 8000000
set_option maxRecDepth 100000
namespace Go.Proofs.YtamgdmiopinidaaGreatDoor
open Lib (hid)
open Go.Proofs.Tryz (prog)
open Go.RowKit
def z6o(l:List (ByteArray×ByteArray)):List ByteArray:=l.flatMap fun p=>[p.1,p.2]
theorem zml{l:List (ByteArray×ByteArray)}{k:Nat}{q:ByteArray×ByteArray}(h:l[k]? = some q):z6o (l.take (k+1))=z6o (l.take k)++[q.1,q.2]:=by
 unfold z6o
 rw[List.take_add_one,h]
 simp
theorem zqg(w:World)(o:Obj)(a b:ByteArray):Sl ((w.alloc o).alloc (.cells #[.string a,.string b] 9)) ((w.alloc o).alloc (.cells #[.string a,.string b] 9)).heap.size 1 (.slice (some ⟨w.heap.size+1,0,none⟩) 2 2) 2 (z03 [a,b]):=by
 have:=z0t (World.ownsRow_lit (base:=(w.alloc o).heap.size) (e:=9) (size:=1) (w.alloc o) #[.string a,.string b] 2 (Nat.le_refl _) (by decide) rfl)
 rwa[show(w.alloc o).heap.size=w.heap.size+1 from by simp] at this
theorem zgd(l:List (ByteArray×ByteArray)):(z6o l).length=2 * l.length:=by
 unfold z6o
 induction l with
 | nil=>rfl
 | cons a r ih=>rw[List.flatMap_cons,List.length_append,ih,List.length_cons,List.length_cons,List.length_cons,List.length_nil];omega
theorem zmc(g B0:Nat)(sv:Value)(now:Int)(lv:Value)(l:List ByteArray)(s:List Ent)(c0:ByteArray)(w:World)(ok:z1m s)(hn:1≤l.length)(h12:l.length≤11)(hz:∀t∈l,t.size≤60)(h:Dr g B0 sv now lv l s w) :
  Calls prog 132 #[.pointer (some ⟨g,0,none⟩),.string ⟨#[104,103,101,116,97,108,108]⟩] w (ChD g B0 B0 sv now lv l (doC .hgetall s now (c0 :: l)) w):=by
 have hr:=ok.rise
 have hs16:=ok.le
 have DI:=zDI hr hs16 h
 have LS:=hid (z0a (z07 ok) now (wd l 0)).item
 have hzw:∀i,(wd l i).size≤60:=z0s hz
 have h24:((z00 s now (wd l 0)).item).pairs.length≤24:=by
  rcases z5h ok now (wd l 0) with⟨h1,_⟩|⟨h1,_⟩
  ·rw[h1];decide
  ·have:=(z4h h1).many;unfold many at this;omega
 have EP:doC .hgetall s now (c0 :: l)=(s,orR (z25 (z6o ((z00 s now (wd l 0)).item).pairs)) (z02 4 (z00 s now (wd l 0)).item) false):=by
  show fin s now (wd l 0) (z00 s now (wd l 0)).item (z00 s now (wd l 0)).til false false (z02 4 (z00 s now (wd l 0)).item) (z25 (z6o ((z00 s now (wd l 0)).item).pairs))=_
  exact z23 _ _ _ _ _ _ _ _
 have LEN:(z6o ((z00 s now (wd l 0)).item).pairs).length≤1000:=by rw[zgd];omega
 have DL:=hid (fun(W:World) u (k:Sl W W.heap.size 1 u (z6o ((z00 s now (wd l 0)).item).pairs).length (z03 (z6o ((z00 s now (wd l 0)).item).pairs)))=>z2o (z6o ((z00 s now (wd l 0)).item).pairs) u (z02 4 (z00 s now (wd l 0)).item) W LEN k)
 have OP:=hid (fun W u (k:z0q W W.heap.size u (z00 s now (wd l 0)).item)=>zay (z00 s now (wd l 0)).item u [] none 0 W W.heap.size LS.out (Nat.le_refl _) k (by show 0≤_;omega) (Sl.nil _ _ _))
 obtain⟨i0,hi9,hz90,hz91,hz92⟩:=info_parts z3o
 rw[EP]
 clear EP LEN
 have H:=hid h
 have hlt:=h.lt
 have hbz:=h.bz
 obtain⟨SA,sc,rfl⟩:=h.sform
 obtain⟨LA,lc,rfl⟩:=h.lform
 obtain⟨b,off,rfl,hb,hc,hm,hat⟩:=h.word (by omega)
 have HAT:=hid hat
 have DG:=hid (fun W (hW:Fr [] w W)=>(h.go hW).three)
 unfold maxLen at hm
 clear h hr hat hzw ok
 generalize orR (z25 (z6o ((z00 s now (wd l 0)).item).pairs)) (z02 4 (z00 s now (wd l 0)).item) false=q9 at *
 generalize z9j (z00 s now (wd l 0)).item []=dy at *
 generalize zdj (z00 s now (wd l 0)).item []=dn at *
 generalize z02 4 (z00 s now (wd l 0)).item=cc at *
 generalize (z00 s now (wd l 0)).item=x at *
 have F0:=zF w
 have Q0:=zQ w
 obtain⟨d0,d1,d2⟩:=DG.out _ F0.out
 have dw:=F0.out.cell (HAT.out 0 (by omega)) (by simp)
 rw[Nat.add_zero] at dw
 go_enter Tryz.func132,Tryz.ntmps132
 go_wp2_with fail
 refine(DI.out _ F0.out).mono ?_
 rintro e1 w1 ⟨xv,rfl,hi,f1⟩
 have F1:=hid (F0.out.trans f1)
 have Q1:=hid (Q0.out.fr f1 (by simp))
 have HI:=hid hi
 obtain⟨X1,x1,X2,x2,X3,x3,rfl⟩:=hi.form
 have hz1:=f1.size
 simp at hz1
 clear f1 hi d0 d1 d2 dw
 have C1:=zC1 Q1 HI H F1
 obtain⟨d0,d1,d2,d3,d4⟩:=five C1.out.b
 go_wp2_with fail
 refine(OP.out _ _ C1.out.i.item).mono ?_
 rintro e2 w2 ⟨u2,rfl,hu2,f2⟩
 have C2:=hid (C1.out.go f2)
 have F2W:=hid f2
 obtain⟨P1,p1,P2,p2,P3,p3,rfl⟩:=hu2.form
 have C3:=hid (C2.out.go ((Fr.refl [] w2).alloc (.cells #[.int .i64 dy.kind,.string dy.text,.slice P1 dy.list.length p1,.slice P2 dy.pairs.length p2,.slice P3 dy.scores.length p3] 43)))
 clear hu2 f2 d0 d1 d2 d3 d4
 obtain⟨w3,hw3⟩:∃w3,w3=w2.alloc (.cells #[.int .i64 dy.kind,.string dy.text,.slice P1 dy.list.length p1,.slice P2 dy.pairs.length p2,.slice P3 dy.scores.length p3] 43):=⟨_,rfl⟩
 rw[←hw3] at C3
 have HW3:=hid hw3
 have FW3:=hid (show Fr [] w3 (w2.alloc (.cells #[.int .i64 dy.kind,.string dy.text,.slice P1 dy.list.length p1,.slice P2 dy.pairs.length p2,.slice P3 dy.scores.length p3] 43)) from hw3 ▸ Fr.refl [] w3)
 have O3:=hid (show(w2.alloc (.cells #[.int .i64 dy.kind,.string dy.text,.slice P1 dy.list.length p1,.slice P2 dy.pairs.length p2,.slice P3 dy.scores.length p3] 43)).ownsRow w3.heap.size 9 1 (.slice none 0 0) 0 (z03 (z6o (x.pairs.take 0))) from World.ownsRow_nil _ _ _ _)
 clear hw3
 have hz3:=C3.out.f.size
 obtain⟨v1,v2,v3,hv,o1,o2,o3⟩:=HI.out
 have S2:=hid (z0t o2)
 have hv3:v2=.slice X2 x.pairs.length x2:=by cases hv;rfl
 rw[hv3] at S2
 clear hv o1 o2 o3 hv3
 obtain⟨d0,d1,d2,d3,d4⟩:=five (C3.out.go FW3.out).b
 go_wp2
 clear d0 d1 d2 d3 d4
 go_loopg [19,119] x.pairs.length (fun y sl i wr=>∃(k:Nat) (Ao:Option Addr) (co:Nat),y=x.pairs.length - k∧k≤x.pairs.length∧sl=.slice Ao (2 * k) co∧i=.int .i64 k∧wr.ownsRow w3.heap.size 9 1 (.slice Ao (2 * k) co) (2 * k) (z03 (z6o (x.pairs.take k)))∧Fr [] w3 wr)
 case atStart=>exact⟨0,none,0,rfl,Nat.zero_le _,rfl,rfl,O3.out,FW3.out⟩
 case round=>
  obtain⟨k,Ao,co,rfl,hk,rfl,rfl,hown,hf⟩:=hrel
  have HO:=hid hown
  have F:=hid hf
  have CR:=hid (C3.out.go hf)
  have hzr:=hf.size
  clear hown hf
  by_cases hlt:k < x.pairs.length
  ·obtain⟨b2,off2,rfl,hb2,hc2,hm2,hat2⟩:=S2.out.at_ (by omega)
   obtain⟨q,hq⟩:∃q,x.pairs[k]? = some q:=⟨_,List.getElem?_eq_getElem hlt⟩
   have FP:=hid (zml hq)
   have F1R:Hid (Fr [] w1 wr):=hid (by
    have g1:Fr [] w1 w2:=((Fr.refl [] w1).alloc _).trans F2W.out
    exact(HW3.out ▸ g1.alloc _:Fr [] w1 w3).trans F.out)
   have t1:wr.cell? ⟨b2,off2+2 * k,none⟩=some (.string q.1):=F1R.out.cell (hat2 _ _ (z0g _ k q hq).1) (by simp)
   have t2:wr.cell? ⟨b2,off2+2 * k+1,none⟩=some (.string q.2):=F1R.out.cell (hat2 _ _ (z0g _ k q hq).2) (by simp)
   rw[Nat.mul_comm 2 k] at t1 t2
   unfold maxLen at hm2
   clear hat2 hq
   have hO1:=hid (zqg wr (.cells #[.string q.1,.string q.2] 86) q.1 q.2)
   go_wp2_with (at_builtin;go_loud (refine z0i _ rfl _ _ 24 rfl w3.heap.size 9 i0 _ 1 16 Tryz.underlying24 hi9 hz90 hz91 hz92 rfl (by decide) _ _ _ rfl ((HO.out.alloc _).alloc _) _ _ 2 _ rfl hO1.out (z3f [q.1,q.2]) ?c1 ?c2 ?c3 ?_))
   case c1=>unfold maxLen;omega
   case c2=>omega
   case c3=>first|omega|(simp;omega)
   intro v' w5 hown hgrow hat5
   have F5:=hid (((F.out.alloc (.cells #[.string q.1,.string q.2] 86)).alloc (.cells #[.string q.1,.string q.2] 9)).grown hgrow (fun j hj=>.inr ((HO.out.lt j hj).1)))
   obtain⟨A5,c5,rfl,-⟩:=z06 hown
   have HO5:=hid (show w5.ownsRow w3.heap.size 9 1 (.slice A5 (2 * (k+1)) c5) (2 * (k+1)) (z03 (z6o (x.pairs.take (k+1)))) from by
    rw[FP.out]
    have:=hown
    rw[show z03 (z6o (x.pairs.take k)++[q.1,q.2])=z03 (z6o (x.pairs.take k))++z03 [q.1,q.2] from by simp[z03]]
    exact this)
   have E2:=hid (show 2 * k+2=2 * (k+1) from by omega)
   clear hown hgrow hat5
   go_wp2
   go_roundg (x.pairs.length - (k+1))
   case measure=>omega
   case rel=>exact⟨k+1,A5,c5,rfl,by omega,by rw[←E2.out],by go_num,HO5.out,F5.out⟩
  ·obtain rfl:k=x.pairs.length:=by omega
   have HS9:=hid (show Sl wr wr.heap.size 1 (.slice Ao (2 * x.pairs.length) co) (z6o x.pairs).length (z03 (z6o x.pairs)) from by
    have:=z0t HO.out
    rw[List.take_length] at this
    rw[zgd]
    exact this)
   go_wp2_with fail
   refine(DL.out _ _ HS9.out).mono ?_
   rintro e8 w8 ⟨u8,rfl,hu8,f8⟩
   have C8:=hid (CR.out.go f8)
   have HU8:=hid (hu8.base (show w.heap.size+1≤_ from CR.out.q.lt))
   obtain⟨S,sc9,rfl⟩:=hu8.form
   clear hu8 f8
   obtain⟨y0,y1,y2,y3⟩:=four C8.out.q
   obtain⟨z0,z1,z2,z3⟩:=z0w C8.out.q
   go_wp2
   refine bodyPost_ret (v:=.agg #[.int .i64 q9.kind,.string q9.text,.int .i64 q9.n,.slice S q9.list.length sc9]) (by simp[results,Tryz.results132,go_sem,y0,y1,y2,y3]) rfl ?_
   exact ChD.fin4 HU8.out C8.out.f.up C8.out.q hbz (fun _=>⟨_,C8.out.d⟩)
def zby(m:Nat)(ys:List Value)(base:Nat)(v:Value)(w:World)(e:Ending)(w':World):Prop:=
 ∃v',e=.returned v'∧w'.ownsRow base 86 2 v' m ys∧w.grownBy w' v.ownBlock∧(v'.ownBlock=v.ownBlock∨v'.ownBlock=some w.heap.size)
theorem zrw(n:Nat)(xs vs:List Value)(base gv:Nat)(v:Value)(w:World)(hn:(n+1) * 32≤140737488355328)(h:w.ownsRow base 86 2 v n xs)(hv1:∀u∈vs,u.oneCell'=true)(hvl:vs.length=2)(hgv:Whole w gv 86 vs)(hb:base≤w.heap.size) :
  Calls prog 244 #[v,.int .i64 n,.slice (some ⟨gv,0,none⟩) 1 1] w (zby (n+1) (xs++vs) base v w):=by
 obtain⟨i0,hi,hz0,hz1,hz2⟩:=info_parts z97
 have hs:Sl w w.heap.size 2 (.slice (some ⟨gv,0,none⟩) 1 1) 1 vs:=⟨_,_,rfl,by omega,by omega,by unfold maxLen;omega,fun _=>⟨gv,0,rfl,hgv.lt,fun j u hu=>by rw[Nat.zero_add,hgv.cell];exact hu⟩⟩
 have HS:=hid hs
 have HO:=hid h
 have H1:=hid hv1
 obtain⟨A,c,rfl,hA,hc,hm⟩:=z06 h
 unfold maxLen at hm
 clear hs h hv1 hvl hgv
 rcases hA with rfl|⟨g,rfl⟩
 ·have hn0:n=0:=by
   rcases HO.out.2 with⟨_,h0⟩|⟨g',cap',cur,h',_⟩
   ·exact h0
   ·cases h'
  subst hn0
  go_enter Tryz.func244,Tryz.ntmps244
  go_wp2_with (at_builtin;refine z0i _ rfl _ _ 40 rfl base 86 i0 _ 2 32 Tryz.underlying40 hi hz0 hz1 hz2 rfl (by decide) _ _ _ rfl HO.out _ _ 1 vs rfl HS.out H1.out ?c1 ?c2 hb ?_)
  case c1=>unfold maxLen;omega
  case c2=>omega
  intro v' w2 hown' hgrow hat
  go_wp2
  go_ret
  exact⟨_,rfl,hown',hgrow,hat⟩
 ·by_cases hcn:c=n
  all_goals
   go_enter Tryz.func244,Tryz.ntmps244
   go_wp2_with (at_builtin;refine z0i _ rfl _ _ 40 rfl base 86 i0 _ 2 32 Tryz.underlying40 hi hz0 hz1 hz2 rfl (by decide) _ _ _ rfl HO.out _ _ 1 vs rfl HS.out H1.out (by unfold maxLen;omega) (by omega) hb (fun v' w2 hown' hgrow hat=>?_))
   go_ret
   exact⟨_,rfl,hown',hgrow,hat⟩
theorem zve(n i c g:Nat)(xs vs:List Value)(base gv:Nat)(w:World)(hin:i < n)(hr:n+1≤c)(h:w.ownsRow base 86 2 (.slice (some ⟨g,0,none⟩) n c) n xs)(h1:∀u∈xs,u.oneCell'=true)(hv1:∀u∈vs,u.oneCell'=true)(hvl:vs.length=2)(hgv:Whole w gv 86 vs)(hne:gv≠g) :
  Calls prog 244 #[.slice (some ⟨g,0,none⟩) n c,.int .i64 i,.slice (some ⟨gv,0,none⟩) 1 1] w (zby (n+1) (z12 xs vs (i * 2)) base (.slice (some ⟨g,0,none⟩) n c) w):=by
 obtain⟨i0,hi,hz0,hz1,hz2⟩:=info_parts z97
 obtain⟨cur0,cur,w0,l0,w1,l1,o2⟩:=zin (w:=w.drew) h (Nat.le_of_lt hin) hr hvl
 obtain⟨_,_,_,_,_,_,hm,hxl⟩:=z28 h
 have hdl:(xs.drop (i * 2)).length=(n - i) * 2:=by rw[List.length_drop,hxl];omega
 have hov:∀lb cb,(callFunc 280 #[.slice (some ⟨gv,0,none⟩) 1 1,.slice (some ⟨g,(i+1) * 2,none⟩) lb cb]).run prog w=.ok (.value (.bool false)) w:=fun lb cb=>by
  rw[run_callFunc_extern Tryz.func280 (by kernel_rfl) (by kernel_rfl) (by kernel_rfl) (e:=Extern.SlicesOverlaps.overlaps #[40,40] #[4]) (by kernel_rfl),
   Lib.run_overlaps_apart w 40 4 86 Tryz.underlying40 2 (fun w=>by kernel_rfl) ⟨gv,0,none⟩ ⟨g,(i+1) * 2,none⟩ 1 1 lb cb hne 86 86 vs.length cur0.length (by unfold Whole at hgv;simp[World.shape?,hgv]) (by have:=w0;unfold Whole at this;have:w.heap[g]? = _:=this;simp[World.shape?,this]) (by rw[l0];omega) (hgv.frozen _) (hgv.frozen _)]
  rfl
 have hc1:∀ty dc sc,(Builtin.copy_ #[40,40] ty #[.slice (some ⟨g,(i+1) * 2,none⟩) (n - i) dc,.slice (some ⟨g,i * 2,none⟩) (n+1 - i) sc]).run prog w.drew=.ok (goInt ((n - i:Nat))) (w.drew.setCells g ((i+1) * 2) (xs.drop (i * 2))):=fun ty dc sc=>
  z2d w.drew _ _ ty 86 i0 2 g ((i+1) * 2) (n - i) dc ⟨g,i * 2,none⟩ (n+1 - i) sc (n - i) _ Tryz.underlying40 hi hz1 (by simp only[Nat.min_def];split <;> omega) hdl
   (fun t u hu=>by
    rw[List.getElem?_drop] at hu
    have hlt:=(List.getElem?_eq_some_iff.1 hu).1
    have:=(h.cellAt (i * 2+t) (by omega)).trans hu
    rw[Addr.add_lit,show i * 2=i * 2 by omega]
    exact this)
   (fun t ht=>by
    rw[show(i+1) * 2=(i+1) * 2 by omega]
    exact z0k w0 (o:=(i+1) * 2) (m:=(n - i) * 2) (by rw[l0];omega) t (by omega))
   (fun u hu=>h1 u (List.mem_of_mem_drop hu))
 rw[show(i+1) * 2=(i+1) * 2 by omega] at w1 o2
 obtain⟨W1,hW1⟩:∃W1,W1=w.drew.setCells g ((i+1) * 2) (xs.drop (i * 2)):=⟨_,rfl⟩
 rw[←hW1] at hc1 w1 o2
 have hgv1:Whole W1 gv 86 vs:=by
  rw[hW1]
  exact hgv.drew.grown (z09 _ _ _) (by simpa using hne)
 rw[show i * 2=i * 2 by omega] at o2
 have hc2:∀ty dc,(Builtin.copy_ #[40,40] ty #[.slice (some ⟨g,i * 2,none⟩) (n+1 - i) dc,.slice (some ⟨gv,0,none⟩) 1 1]).run prog W1=.ok (goInt ((1:Nat))) (W1.setCells g (i * 2) vs):=fun ty dc=>
  z2d W1 _ _ ty 86 i0 2 g (i * 2) (n+1 - i) dc ⟨gv,0,none⟩ 1 1 1 vs Tryz.underlying40 hi hz1 (by simp only[Nat.min_def];split <;> omega) (by omega)
   (fun t u hu=>by
    rw[Addr.add_lit,Nat.zero_add,hgv1.cell]
    exact hu)
   (fun t ht=>by
    rw[show i * 2=i * 2 by omega]
    exact z0k w1 (o:=i * 2) (m:=2) (by rw[l1];omega) t (by omega))
   hv1
 have HW:=hid hW1
 have O2:=hid o2
 unfold maxLen at hm
 have hz1':¬((i:Int)=(n:Int)):=by omega
 have hw1:IntKind.i64.wrap ((i:Int)+1)=(i:Int)+1:=by rw[IntKind.wrap_i64];omega
 have hw2:IntKind.i64.wrap ((n:Int)+1)=(n:Int)+1:=by rw[IntKind.wrap_i64];omega
 have ht1:((i:Int)+1).toNat=i+1:=by omega
 have ht2:((n:Int)+1).toNat=n+1:=by omega
 have hb0:i≤n:=by omega
 have hb1:(0:Int)≤(i:Int)+1:=by omega
 have hb2:(0:Int)≤(n:Int)+1:=by omega
 have hb3:(n:Int)+1≤(c:Int):=by omega
 have hb4:(i:Int)≤(n:Int)+1:=by omega
 have hb5:(i:Int)≤(n:Int):=by omega
 have hb6:¬(c=i):=by omega
 have hb7:¬(c=i+1):=by omega
 have hb8:¬((c:Int) < (n:Int)+1):=by omega
 clear h h1 hv1 hvl hgv hgv1 cur0 cur w0 l0 w1 l1 o2 hxl hdl hW1 hi hz0 hz1 hz2
 go_enter Tryz.func244,Tryz.ntmps244
 go_wp2_with (simp only[hov])
 go_region_law (refine z3t rfl _ _ 40 40 rfl _ _ (by simp[Act.eval,Act.put]) (by simp[Act.eval,Act.put]) (hc1 _ _ _) ?_)
 go_wp2_with (at_builtin;refine z2t _ rfl _ _ 40 40 rfl _ _ rfl rfl (hc2 _ _) ?_)
 go_ret
 refine⟨_,rfl,O2.out,?_,.inl rfl⟩
 rw[HW.out]
 exact z24 ((z09 _ _ _).trans (z09 _ _ _))
theorem zs0(n i c g:Nat)(xs vs:List Value)(base gv:Nat)(w:World)(hn:(n+1) * 32≤140737488355328)(hin:i < n)(hnc:n≤c)(hr:c < n+1)(h:w.ownsRow base 86 2 (.slice (some ⟨g,0,none⟩) n c) n xs)(h1:∀u∈xs,u.oneCell'=true)(hv1:∀u∈vs,u.oneCell'=true)(hvl:vs.length=2)(hgv:Whole w gv 86 vs)(hb:base≤w.heap.size) :
  Calls prog 244 #[.slice (some ⟨g,0,none⟩) n c,.int .i64 i,.slice (some ⟨gv,0,none⟩) 1 1] w (zby (n+1) (z12 xs vs (i * 2)) base (.slice (some ⟨g,0,none⟩) n c) w):=by
 obtain⟨i0,hi,hz0,hz1,hz2⟩:=info_parts z97
 obtain⟨cur0,w0,l0,hx0,_,_,hm,hxl⟩:=z28 h
 clear hx0
 have hdl:(xs.drop (i * 2)).length=(n - i) * 2:=by rw[List.length_drop,hxl];omega
 have htl:(xs.take (i * 2)).length=i * 2:=by rw[List.length_take,hxl];omega
 have hcell:∀t u,xs[t]? = some u→w.cell? ⟨g,t,none⟩=some u:=fun t u hu=>by
  have hlt:=(List.getElem?_eq_some_iff.1 hu).1
  exact(h.cellAt t (by omega)).trans hu
 have hold:(Builtin.firstCells i0.size i (.slice (some ⟨g,0,none⟩) i c)).run prog w.drew=.ok (xs.take (i * 2)).toArray w.drew:=by
  rw[hz1]
  exact run_firstCells_some w.drew 2 i ⟨g,0,none⟩ i c (xs.take (i * 2)) htl (fun t u hu=>by
   rw[Addr.add_lit,Nat.zero_add]
   rw[List.getElem?_take] at hu
   split at hu
   ·exact hcell t u hu
   ·cases hu)
 have hG:grownCap w (n+1) c 86≤maxLen:=grownCap_le_maxLen w _ _ _ (by unfold maxLen;omega)
 have hGe:n+1≤grownCap w (n+1) c 86:=grownCap_ge w _ _ _
 have hrz:∀ty,(Builtin.append_ #[40,3] ty #[.slice (some ⟨g,0,none⟩) i c,.int .i64 ((n:Int)+1 - (i:Int))]).run prog w =
   .ok (.slice (some ⟨w.heap.size,0,none⟩) (n+1) (grownCap w (n+1) c 86)) (w.drew.alloc (.cells ((xs.take (i * 2)).toArray++Builtin.zeroCells (Value.cells (.agg #[.string ⟨#[]⟩,.string ⟨#[]⟩])) (n+1 - i)++Builtin.zeroCells (Value.cells (.agg #[.string ⟨#[]⟩,.string ⟨#[]⟩])) (grownCap w (n+1) c 86 - (n+1))) 86)):=fun ty=>by
  have hik:i+(n+1 - i)=n+1:=by omega
  have h:=Lib.run_append_grow_zeros w 40 3 ty 86 i0 _ .i64 .i64 Tryz.underlying40 Tryz.underlying3 hi hz0 (some ⟨g,0,none⟩) i c _ hold (n+1 - i) (by omega) (by omega) (by omega) (by omega) (by rw[hz2];omega) (by rw[hz2,hik];exact growslice_fits hr hn)
  rw[hik] at h
  rw[show(n:Int)+1 - (i:Int)=((n+1 - i:Nat):Int) by omega]
  exact h
 generalize grownCap w (n+1) c 86=G at *
 obtain⟨zs,hzs⟩:∃zs,zs=(Builtin.zeroCells (Value.cells (.agg #[.string ⟨#[]⟩,.string ⟨#[]⟩])) (n+1 - i)++Builtin.zeroCells (Value.cells (.agg #[.string ⟨#[]⟩,.string ⟨#[]⟩])) (G - (n+1))).toList:=⟨_,rfl⟩
 have hzl:zs.length=(n+1 - i) * 2+(G - (n+1)) * 2:=by rw[hzs];simp[Builtin.zeroCells,Value.cells];try omega
 have hra:(xs.take (i * 2)).toArray++Builtin.zeroCells (Value.cells (.agg #[.string ⟨#[]⟩,.string ⟨#[]⟩])) (n+1 - i)++Builtin.zeroCells (Value.cells (.agg #[.string ⟨#[]⟩,.string ⟨#[]⟩])) (G - (n+1))=(xs.take (i * 2)++zs).toArray:=by
  rw[hzs];simp
 rw[hra] at hrz
 obtain⟨W0,hW0⟩:∃W0,W0=w.drew.alloc (.cells (xs.take (i * 2)++zs).toArray 86):=⟨_,rfl⟩
 rw[←hW0] at hrz
 have wn:Whole W0 w.heap.size 86 (xs.take (i * 2)++zs):=by rw[hW0];exact Whole.new w.drew 86 _
 have hgr:w.grownBy W0 (some g):=by rw[hW0];exact z24 (z8y _ _ _)
 have hgv0:Whole W0 gv 86 vs:=by rw[hW0];exact hgv.drew.alloc _
 have wg0:Whole W0 g 86 cur0:=by rw[hW0];exact w0.drew.alloc _
 have hgl:g≠w.heap.size:=Nat.ne_of_lt w0.lt
 obtain⟨cur,w1,l1,o2⟩:=zix (i:=i) (n:=n) (base:=base) hxl (Nat.le_of_lt hin) hvl hGe hG hb wn (by rw[List.length_append,htl,hzl];omega)
 rw[show(i+1) * 2=(i+1) * 2 by omega,show i * 2=i * 2 by omega] at o2
 rw[show i * 2=i * 2 by omega] at w1
 have hc1:∀ty dc,(Builtin.copy_ #[40,40] ty #[.slice (some ⟨w.heap.size,i * 2,none⟩) (n+1 - i) dc,.slice (some ⟨gv,0,none⟩) 1 1]).run prog W0=.ok (goInt ((1:Nat))) (W0.setCells w.heap.size (i * 2) vs):=fun ty dc=>
  z2d W0 _ _ ty 86 i0 2 w.heap.size (i * 2) (n+1 - i) dc ⟨gv,0,none⟩ 1 1 1 vs Tryz.underlying40 hi hz1 (by simp only[Nat.min_def];split <;> omega) (by omega)
   (fun t u hu=>by
    rw[Addr.add_lit,Nat.zero_add,hgv0.cell]
    exact hu)
   (fun t ht=>by
    rw[show i * 2=i * 2 by omega]
    exact z0k wn (o:=i * 2) (m:=2) (by rw[List.length_append,htl,hzl];omega) t (by omega))
   hv1
 obtain⟨W1,hW1⟩:∃W1,W1=W0.setCells w.heap.size (i * 2) vs:=⟨_,rfl⟩
 rw[←hW1] at hc1 o2 w1
 have hgr1:w.grownBy W1 (some g):=by rw[hW1];exact z42 hgr (z09 _ _ _) (Nat.le_refl _)
 have wg1:Whole W1 g 86 cur0:=by rw[hW1];exact wg0.grown (z09 _ _ _) (by simpa using hgl)
 have hc2:∀ty dc sc,(Builtin.copy_ #[40,40] ty #[.slice (some ⟨w.heap.size,(i+1) * 2,none⟩) (n - i) dc,.slice (some ⟨g,i * 2,none⟩) (n - i) sc]).run prog W1.drew=.ok (goInt ((n - i:Nat))) (W1.drew.setCells w.heap.size ((i+1) * 2) (xs.drop (i * 2))):=fun ty dc sc=>
  z2d W1.drew _ _ ty 86 i0 2 w.heap.size ((i+1) * 2) (n - i) dc ⟨g,i * 2,none⟩ (n - i) sc (n - i) _ Tryz.underlying40 hi hz1 (by simp only[Nat.min_def];split <;> omega) hdl
   (fun t u hu=>by
    rw[List.getElem?_drop] at hu
    have h2:=hcell _ u hu
    have e1:=wg0.cell (i * 2+t)
    have e2:=w0.cell (i * 2+t)
    have e3:=wg1.drew.cell (i * 2+t)
    rw[Addr.add_lit,show i * 2=i * 2 by omega,e3,←e2]
    exact h2)
   (fun t ht=>by
    rw[show(i+1) * 2=(i+1) * 2 by omega]
    exact z0k w1.drew (o:=(i+1) * 2) (m:=(n - i) * 2) (by rw[l1];omega) t (by omega))
   (fun u hu=>h1 u (List.mem_of_mem_drop hu))
 have O2:=hid (show(W1.drew.setCells w.heap.size ((i+1) * 2) (xs.drop (i * 2))).ownsRow base 86 2 (.slice (some ⟨w.heap.size,0,none⟩) (n+1) G) (n+1) (z12 xs vs (i * 2)) by rw[z4x];exact o2)
 have G2:=hid (show w.grownBy (W1.drew.setCells w.heap.size ((i+1) * 2) (xs.drop (i * 2))) (some g) from z42 (z84 hgr1) (z09 _ _ _) (Nat.le_refl _))
 obtain⟨W2,hW2⟩:∃W2,W2=W1.drew.setCells w.heap.size ((i+1) * 2) (xs.drop (i * 2)):=⟨_,rfl⟩
 rw[←hW2] at hc2 O2 G2
 unfold maxLen at hm hG
 have hz1':¬((i:Int)=(n:Int)):=by omega
 have hw1:IntKind.i64.wrap ((i:Int)+1)=(i:Int)+1:=by rw[IntKind.wrap_i64];omega
 have hw2:IntKind.i64.wrap ((n:Int)+1)=(n:Int)+1:=by rw[IntKind.wrap_i64];omega
 have hw3:IntKind.i64.wrap ((n:Int)+1 - (i:Int))=(n:Int)+1 - (i:Int):=by rw[IntKind.wrap_i64];omega
 have ht1:((i:Int)+1).toNat=i+1:=by omega
 have hb0:i≤n:=by omega
 have hb1:(0:Int)≤(i:Int)+1:=by omega
 have hb4:(i:Int)≤(n:Int)+1:=by omega
 have hb5:(i:Int)≤(n:Int):=by omega
 have hb6:¬(c=i):=by omega
 have hb7:¬(G=i+1):=by omega
 have hb9:¬(G=i):=by omega
 have hb10:(i:Int)≤(c:Int):=by omega
 have hb8:(c:Int) < (n:Int)+1:=by omega
 clear h h1 hv1 hvl hgv hgv0 cur0 cur w0 l0 w1 l1 o2 hxl hdl hW1 hi hz0 hz1 hz2 htl hcell hold hzs hzl hra hW0 wn hgr wg0 wg1 hgr1 hW2
 go_enter Tryz.func244,Tryz.ntmps244
 go_wp2_with (first
  | (at_builtin;refine Lib.wpList_append_run _ rfl _ _ _ _ rfl _ _ rfl rfl _ _ (hrz _) ?_)
  | (at_builtin;refine z2t _ rfl _ _ 40 40 rfl _ _ rfl rfl (hc1 _ _) ?_))
 go_region_law (refine z3t rfl _ _ 40 40 rfl _ _ (by simp[Act.eval,Act.put]) (by simp[Act.eval,Act.put]) (hc2 _ _ _) ?_)
 go_wp2
 go_ret
 exact⟨_,rfl,O2.out,G2.out,.inr rfl⟩
theorem zsw(n i:Nat)(xs vs:List Value)(base gv:Nat)(v:Value)(w:World)(hn:(n+1) * 32≤140737488355328)(hin:i≤n)(h:w.ownsRow base 86 2 v n xs)(h1:∀u∈xs,u.oneCell'=true)(hv1:∀u∈vs,u.oneCell'=true)(hvl:vs.length=2)(hgv:Whole w gv 86 vs)(hne:v.ownBlock≠some gv)(hb:base≤w.heap.size) :
  Calls prog 244 #[v,.int .i64 i,.slice (some ⟨gv,0,none⟩) 1 1] w (zby (n+1) (z12 xs vs (i * 2)) base v w):=by
 rcases Nat.lt_or_ge i n with hlt|hge
 ·obtain⟨A,c,rfl,hA,hc,hm⟩:=z06 h
  rcases hA with rfl|⟨g,rfl⟩
  ·exfalso
   rcases h.2 with⟨_,h0⟩|⟨g',cap',cur,h',_⟩
   ·omega
   ·cases h'
  ·by_cases hr:n+1≤c
   ·exact zve n i c g xs vs base gv w hlt hr h h1 hv1 hvl hgv (by
     rintro rfl
     exact hne rfl)
   ·exact zs0 n i c g xs vs base gv w hn hlt hc (by omega) h h1 hv1 hvl hgv hb
 ·obtain rfl:i=n:=by omega
  have e:z12 xs vs (i * 2)=xs++vs:=by
   have hl:xs.length=i * 2:=h.1
   unfold z12
   rw[List.take_of_length_le (by omega),List.drop_of_length_le (by omega),List.append_nil]
  rw[e]
  exact zrw i xs vs base gv v w hn h hv1 hvl hgv hb
theorem zdw(l:List (ByteArray×ByteArray))(p:ByteArray×ByteArray)(i:Nat):z12 (z0e l) [.string p.1,.string p.2] (i * 2)=z0e (l.take i++p :: l.drop i):=by
 have h:z0e l=z0e (l.take i)++z0e (l.drop i):=by rw[←z6q,List.take_append_drop]
 have hd:(z0e l).drop (i * 2)=z0e (l.drop i):=by
  have e:=List.take_append_drop (i * 2) (z0e l)
  rw[z6v] at e
  exact List.append_cancel_left (e.trans h)
 unfold z12
 rw[z6v,hd,show p :: l.drop i=[p]++l.drop i from rfl,z6q,z6q]
 simp[z0e]
theorem zi5(x:Itm)(v:Value)(l:List (ByteArray×ByteArray))(Al:Option Addr)(cl:Nat)(w:World)(B:Nat)(hs:x.Small)(hB:B≤w.heap.size)(h:z0q w B v x)(hl:(24+l.length) * 32≤140737488355328)(hL:Sl w B 2 (.slice Al l.length cl) l.length (z0e l)) :
  Calls prog 194 #[v,.slice Al l.length cl] w (z4k (zr6 x l) (z1v x l) (zl9 x l) w):=by
 have RD:=hid (fun W (hf:Fr [] w W)=>zad x v W B hs (Nat.le_trans hB hf.size) (h.fr hf hB (by simp)))
 have CF:=hid (fun W (hf:Fr [] w W)=>zph 242 #[] (z1x Tryz.func242 (by kernel_rfl) rfl) z4p B l Al cl B W (zp0 B W) (by omega) (Nat.le_trans hB hf.size) (hL.fr hf hB (by simp)))
 have HL:=hid hL
 obtain⟨A1,c1,A2,c2,A3,c3,rfl,h1,h2,h3⟩:=h
 have H2:=hid h2
 have D0:=hid (BO.new w (.int .i64 x.kind) (.string x.text) (.slice A1 x.list.length c1) (.slice A2 x.pairs.length c2) (.slice A3 x.scores.length c3))
 obtain⟨d0,d1,d2,d3,d4⟩:=five D0.out.b
 have EC:=hid (show z1v x l=if z1y x l≠0 then z1y x l else if 24 < (zql x l).length then 2 else 0 from rfl)
 have EP:=hid (show z1y x l=if z02 4 x≠0 then z02 4 x else if l.length=0 then 1 else if l.any z4p=true then 2 else 0 from rfl)
 have EY:=hid (show zl9 x l=if z1v x l=0 then ofP (zql x l) else z2r 0 from rfl)
 have EK:=hid (show zr6 x l=if z1v x l=0 then ((zql x l).length:Int) - x.pairs.length else 0 from rfl)
 clear h1 h2 h3 hs hL
 have no0:∀c:Int,c≠0→z1v x l=c→zl9 x l=z2r 0∧zr6 x l=0:=fun c hc he=>by
  have h0:z1v x l≠0:=by rw[he];exact hc
  exact⟨by rw[EY.out,if_neg h0],by rw[EK.out,if_neg h0]⟩
 have NO:=hid no0
 clear no0
 by_cases ha:z02 4 x=0
 ·rw[ha] at RD
  by_cases hb:l.length=0
  ·have E:=hid (show z1v x l=1 from by
    have hp:z1y x l=1:=by rw[EP.out,if_neg (by simpa using ha),if_pos hb]
    rw[EC.out,hp,if_pos (by decide)])
   obtain⟨e1,e2⟩:=NO.out 1 (by decide) E.out
   rw[e1,e2,E.out]
   have q:((l.length:Int)==0)=true:=by simp[hb]
   clear e1 e2 EC EP EY EK ha hb NO CF
   go_enter Tryz.func194,Tryz.ntmps194
   go_wp2_with fail
   refine(RD.out _ D0.out.f).mono ?_
   rintro e w1 ⟨rfl,f1⟩
   have D1:=hid (D0.out.go f1)
   clear d0 d1 d2 d3 d4
   obtain⟨a0,a1,a2,a3,a4⟩:=five D1.out.o
   obtain⟨b0,b2,b3,b4,b5⟩:=z10 D1.out.o
   go_wp2
   refine bodyPost_ret (v:=.tuple #[.agg #[.int .i64 0,.string ⟨#[]⟩,.slice none 0 0,.slice none 0 0,.slice none 0 0],.int .i64 0,.int .i64 1]) (by simp[results,Tryz.results194,go_sem,a0,a1,a2,a3,a4]) rfl ?_
   exact⟨_,rfl,z0l.nothing _ _,D1.out.end5 _ _ _ _ _⟩
  ·have q:((l.length:Int)==0)=false:=beq_eq_false_iff_ne.2 (by omega)
   by_cases hc:l.any z4p=true
   ·have E:=hid (show z1v x l=2 from by
     have hp:z1y x l=2:=by rw[EP.out,if_neg (by simpa using ha),if_neg hb,if_pos hc]
     rw[EC.out,hp,if_pos (by decide)])
    obtain⟨e1,e2⟩:=NO.out 2 (by decide) E.out
    rw[e1,e2,E.out]
    rw[hc] at CF
    clear e1 e2 EC EP EY EK ha hb NO hc
    go_enter Tryz.func194,Tryz.ntmps194
    go_wp2_with fail
    refine(RD.out _ D0.out.f).mono ?_
    rintro e w1 ⟨rfl,f1⟩
    have D1:=hid (D0.out.go f1)
    clear d0 d1 d2 d3 d4
    go_wp2_with fail
    refine(CF.out _ D1.out.f).mono ?_
    rintro e w2 ⟨rfl,f2⟩
    have D2:=hid (D1.out.go f2)
    obtain⟨a0,a1,a2,a3,a4⟩:=five D2.out.o
    obtain⟨b0,b2,b3,b4,b5⟩:=z10 D2.out.o
    go_wp2
    refine bodyPost_ret (v:=.tuple #[.agg #[.int .i64 0,.string ⟨#[]⟩,.slice none 0 0,.slice none 0 0,.slice none 0 0],.int .i64 0,.int .i64 2]) (by simp[results,Tryz.results194,go_sem,a0,a1,a2,a3,a4]) rfl ?_
    exact⟨_,rfl,z0l.nothing _ _,D2.out.end5 _ _ _ _ _⟩
   ·have hp:z1y x l=0:=by rw[EP.out,if_neg (by simpa using ha),if_neg hb,if_neg hc]
    rw[show(l.any z4p)=false from by simpa using hc] at CF
    have NL:=hid (zes hc)
    have OKP:=hid (z96 ha)
    have HR:=hid (z83 ha)
    have hx24:=OKP.out.1
    have CL:=hid (fun W (hW:Fr [] w W)=>zap x.pairs.length (z0e x.pairs) A2 c2 W B (by omega) (Nat.le_trans hB hW.size) (H2.out.fr hW hB (by simp)) (z9q _))
    have E0:=hid (show z1v x l=if 24 < (zql x l).length then 2 else 0 from by rw[EC.out,if_neg (by simpa using hp)])
    clear ha hb hc hp EC EP
    go_enter Tryz.func194,Tryz.ntmps194
    go_wp2_with fail
    refine(RD.out _ D0.out.f).mono ?_
    rintro e w1 ⟨rfl,f1⟩
    have D1:=hid (D0.out.go f1)
    clear d0 d1 d2 d3 d4
    go_wp2_with fail
    refine(CF.out _ D1.out.f).mono ?_
    rintro e w2 ⟨rfl,f2⟩
    have D2:=hid (D1.out.go f2)
    have hz2:=D2.out.lt
    obtain⟨d0,d1,d2,d3,d4⟩:=five D2.out.b
    go_wp2_with fail
    refine(CL.out _ D2.out.f).mono ?_
    rintro e w3 ⟨u,rfl,ho,f3⟩
    have D3:=hid (D2.out.go f3)
    have HO3:=hid (z1d ho (show w.heap.size+2≤w2.heap.size by omega))
    clear d0 d1 d2 d3 d4 ho CF RD CL
    go_wp2
    go_loopg [8,34] l.length (fun g o i wr=>∃(k:Nat) (cur:List (ByteArray×ByteArray)),g=l.length - k∧k≤l.length∧i=.int .i64 k∧cur=(l.take k).foldl (zbl Prod.fst) x.pairs∧wr.ownsRow (w.heap.size+2) 86 2 o cur.length (z0e cur)∧BO w 1 [.int .i64 x.kind,.string x.text,.slice A1 x.list.length c1,.slice A2 x.pairs.length c2,.slice A3 x.scores.length c3] wr)
    case atStart=>exact⟨0,x.pairs,rfl,Nat.zero_le _,rfl,rfl,HO3.out,D3.out⟩
    case round=>
     obtain⟨k,cur,rfl,hk,rfl,hcur,hO,hD⟩:=hrel
     have D4:=hid hD
     have HO4:=hid hO
     have hr:rises (ltK Prod.fst) cur=true:=by rw[hcur];exact zao _ _ HR.out
     have hcl:cur.length≤24+k:=by
      have:=(zl6 Prod.fst (l.take k) x.pairs).1
      rw[←hcur,List.length_take] at this
      omega
     obtain⟨A,c,rfl,hA,hc1,hc2⟩:=z06 hO
     have hz4:=D4.out.lt
     clear hO hD
     by_cases hlt:k < l.length
     ·obtain⟨b,off,rfl,hb,hlc,hlm,hcell⟩:=HL.out.at_ (by omega)
      obtain⟨p,hp⟩:∃p,l[k]? = some p:=⟨_,List.getElem?_eq_getElem hlt⟩
      have x1:wr.cell? ⟨b,off+2 * k,none⟩=some (.string p.1):=D4.out.f.cell (hcell _ _ (z0g l k p hp).1) (by simp)
      have x2:wr.cell? ⟨b,off+2 * k+1,none⟩=some (.string p.2):=D4.out.f.cell (hcell _ _ (z0g l k p hp).2) (by simp)
      rw[Nat.mul_comm 2 k] at x1 x2
      have F1:=hid ((Fr.refl [] wr).alloc (.cells #[.string p.1,.string p.2] 86))
      have V1:=hid (Whole.new wr 86 [.string p.1,.string p.2])
      have v0:(wr.alloc (.cells #[.string p.1,.string p.2] 86)).cell? ⟨wr.heap.size,0,none⟩=some (.string p.1):=V1.out.cell 0
      have FD:=hid (fun W (hW:Fr [] wr W)=>zhl cur p.1 A c wr.heap.size W hr (by omega) hW.size ((z0t HO4.out).fr hW (Nat.le_refl _) (by simp)))
      have hnx:(l.take (k+1)).foldl (zbl Prod.fst) x.pairs=zbl Prod.fst cur p:=by
       rw[List.take_add_one,hp,Option.toList_some,List.foldl_append,←hcur];rfl
      have HNX:=hid hnx.symm
      have hlow:=z5b Prod.fst cur p.1
      unfold maxLen at hc2 hlm
      by_cases hh:z5r Prod.fst cur p.1=true
      ·obtain⟨s',hs',-⟩:=(z36 Prod.fst).1 hh
       have hput:zbl Prod.fst cur p=cur.set (z1z Prod.fst cur p.1) p:=by unfold zbl;rw[if_pos hh]
       have HP:=hid hput
       have HS:=hid hs'
       have hil:=(List.getElem?_eq_some_iff.1 hs').1
       obtain⟨gb,rfl⟩:∃gb,A=some ⟨gb,0,none⟩:=by
        rcases hA with rfl|⟨gb,rfl⟩
        ·exfalso
         rcases HO4.out.2 with⟨_,h0⟩|⟨g',cap',cur',h',_⟩
         ·omega
         ·cases h'
        ·exact⟨gb,rfl⟩
       have hgb:=HO4.out.lt gb rfl
       rw[hh] at FD
       clear hh hr hcell hp hnx hput hs' hcur hA
       generalize z1z Prod.fst cur p.1=i at *
       go_wp2_with fail
       refine(FD.out _ F1.out).mono ?_
       rintro e w5 ⟨rfl,f5⟩
       have F5:=hid (F1.out.trans f5)
       have HO5:=hid (z0n HO4.out F5.out (by simp))
       have V5:=V1.out.fr f5 (by simp)
       have v1:w5.cell? ⟨wr.heap.size,0,none⟩=some (.string p.1):=V5.cell 0
       have v2:w5.cell? ⟨wr.heap.size,1,none⟩=some (.string p.2):=V5.cell 1
       have y1:w5.cell? ⟨gb,i * 2,none⟩=some (.string s'.1):=(HO5.out.cellAt (i * 2) (by omega)).trans (by rw[Nat.mul_comm];exact(z0g cur i s' HS.out).1)
       have y2:w5.cell? ⟨gb,i * 2+1,none⟩=some (.string s'.2):=(HO5.out.cellAt (i * 2+1) (by omega)).trans (by rw[Nat.mul_comm];exact(z0g cur i s' HS.out).2)
       have z1:w5.frozen? ⟨gb,i * 2,none⟩=false:=HO5.out.frozenAt _
       have z2:w5.frozen? ⟨gb,i * 2+1,none⟩=false:=HO5.out.frozenAt _
       clear V5 f5 x1 x2 v0
       go_wp2
       go_roundg (l.length - (k+1))
       case measure=>omega
       case rel=>
        have o1:=HO5.out.stored (i * 2) (.string p.1)
        have o2:=o1.1.stored (i * 2+1) (.string p.2)
        refine⟨k+1,cur.set i p,rfl,by omega,by go_num,by rw[←HP.out,HNX.out],by rw[zar,List.length_set];exact o2.1,?_⟩
        exact D4.out.step (S:=[gb]) ((F5.out.up.setCell (p:=⟨gb,i * 2,none⟩) (.inl (by simp)) _).setCell (p:=⟨gb,i * 2+1,none⟩) (.inl (by simp)) _) (fun g hg=>by simp at hg;omega)
      ·have hput:zbl Prod.fst cur p=cur.take (z1z Prod.fst cur p.1)++p :: cur.drop (z1z Prod.fst cur p.1):=by unfold zbl;rw[if_neg hh]
       have HP:=hid hput
       rw[show z5r Prod.fst cur p.1=false from by simpa using hh] at FD
       clear hh hr hcell hp hnx hput hcur
       generalize z1z Prod.fst cur p.1=i at *
       go_wp2_with fail
       refine(FD.out _ F1.out).mono ?_
       rintro e w5 ⟨rfl,f5⟩
       have F5:=hid (F1.out.trans f5)
       have V5:=V1.out.fr f5 (by simp)
       have v1:w5.cell? ⟨wr.heap.size,0,none⟩=some (.string p.1):=V5.cell 0
       have v2:w5.cell? ⟨wr.heap.size,1,none⟩=some (.string p.2):=V5.cell 1
       have F6:=hid (F5.out.alloc (.cells #[.string p.1,.string p.2] 86))
       have V6:=hid (Whole.new w5 86 [.string p.1,.string p.2])
       have HO6:=hid (z0n HO4.out F6.out (by simp))
       have D6:=hid (D4.out.go F6.out)
       have hz6:=D6.out.lt
       have IN:=hid (zsw cur.length i (z0e cur) [.string p.1,.string p.2] (w.heap.size+2) w5.heap.size (.slice A cur.length c) _ (by omega) hlow HO6.out (z9q _) (by intro u hu;simp at hu;rcases hu with rfl|rfl <;> rfl) rfl V6.out (by
        intro e
        have h1:=(HO4.out.lt _ e).2
        have h2:=F5.out.size
        omega) (by omega))
       clear V5 f5 x1 x2 v0
       go_wp2_with fail
       refine IN.out.mono ?_
       rintro e w7 ⟨u7,rfl,ho7,hg7,-⟩
       have D7:=hid (D6.out.step (z47 hg7) (fun g hg=>by have:=z1j HO6.out hg;omega))
       rw[zdw,←HP.out] at ho7
       have hl7:(zbl Prod.fst cur p).length=cur.length+1:=by
        rw[HP.out,List.length_append,List.length_cons,List.length_take,List.length_drop];omega
       rw[←hl7] at ho7
       have HO7:=hid ho7
       clear ho7 hg7
       go_wp2
       go_roundg (l.length - (k+1))
       case measure=>omega
       case rel=>exact⟨k+1,zbl Prod.fst cur p,rfl,by omega,by go_num,HNX.out,HO7.out,D7.out⟩
     ·obtain rfl:k=l.length:=by omega
      rw[List.take_length] at hcur
      have hcur2:zql x l=cur:=hcur.symm
      have hsz:∀s∈cur,s.1.size≤281474976710656∧s.2.size≤281474976710656:=fun s hs=>by
       rw[hcur] at hs
       rcases zbz _ _ hs with h|h
       ·have:=NL.out s h;omega
       ·have:=OKP.out.2 s h;omega
      have HSZ:=hid hsz
      rw[hcur2] at E0 EY EK
      clear hcur hcur2 hsz
      unfold maxLen at hc2
      by_cases h24:24 < cur.length
      ·have E:=hid (show z1v x l=2 from by rw[E0.out,if_pos h24])
       obtain⟨e1,e2⟩:=NO.out 2 (by decide) E.out
       have q24:(cur.length:Int) > 24:=by omega
       have E1:=hid e1
       have E2:=hid e2
       clear e1 e2 E0 EY EK NO h24 hlt hr
       obtain⟨a0,a1,a2,a3,a4⟩:=five D4.out.o
       obtain⟨b0,b2,b3,b4,b5⟩:=z10 D4.out.o
       go_wp2
       refine bodyPost_ret (v:=.tuple #[.agg #[.int .i64 0,.string ⟨#[]⟩,.slice none 0 0,.slice none 0 0,.slice none 0 0],.int .i64 0,.int .i64 2]) (by simp[results,Tryz.results194,go_sem,a0,a1,a2,a3,a4]) rfl ?_
       rw[E1.out,E2.out,E.out]
       exact⟨_,rfl,z0l.nothing _ _,D4.out.end5 _ _ _ _ _⟩
      ·have E:=hid (show z1v x l=0 from by rw[E0.out,if_neg h24])
       have E1:=hid (EY.out.trans (if_pos E.out))
       have E2:=hid (EK.out.trans (if_pos E.out))
       have q24:¬(cur.length:Int) > 24:=by omega
       have OF:=hid (fun W base u hu=>zef cur base u W (by omega) HSZ.out hu)
       have HW:=hid (show IntKind.i64.wrap ((cur.length:Int) - (x.pairs.length:Int))=(cur.length:Int) - x.pairs.length from IntWalk.i64_in _ (by omega))
       clear E0 EY EK NO hlt hr NL OKP HR hcl
       obtain⟨d0,d1,d2,d3,d4⟩:=five D4.out.b
       generalize ofP cur=y at *
       generalize zl9 x l=y0 at *
       generalize zr6 x l=n0 at *
       generalize z1v x l=c0 at *
       have hne1:¬w.heap.size=w.heap.size+1:=by omega
       have hne2:¬w.heap.size+1=w.heap.size:=by omega
       go_wp2
       go_region_held3 (fun wx=>wx.cell? ⟨w.heap.size,3,none⟩=some (.slice A2 x.pairs.length c2)) (go_keep) (first|(go_at_call 245;(refine(OF.out _ _ _ (show wr.drew.ownsRow _ _ _ _ _ _ from HO4.out)).mono ?_);rintro e w5 ⟨u5,rfl,hi,f5⟩;have D5:=hid (D4.out.go (z01 f5));clear d0 d1 d2 d3 d4 f5;obtain⟨d0,d1,d2,d3,d4⟩:=five D5.out.b;have HI:=hid hi;obtain⟨P1,p1,P2,p2,P3,p3,rfl⟩:=hi.form;clear hi;obtain⟨a0,a1,a2,a3,a4⟩:=five D5.out.o;obtain⟨b0,b2,b3,b4,b5⟩:=z10 D5.out.o))
       go_wp2
       refine bodyPost_ret (v:=.tuple #[.agg #[.int .i64 y.kind,.string y.text,.slice P1 y.list.length p1,.slice P2 y.pairs.length p2,.slice P3 y.scores.length p3],.int .i64 (IntKind.i64.wrap ((cur.length:Int) - (x.pairs.length:Int))),.int .i64 0]) (by simp[results,Tryz.results194,go_sem,a0,a1,a2,a3,a4]) rfl ?_
       rw[E1.out,E2.out,E.out]
       exact⟨_,by rw[HW.out],(z1q HI.out (by omega) _ _ _ _ _).less (by omega),D5.out.end5 _ _ _ _ _⟩
 ·have hp:z1y x l=z02 4 x:=by rw[EP.out,if_pos ha]
  have E:=hid (show z1v x l=z02 4 x from by rw[EC.out,hp,if_pos ha])
  obtain⟨e1,e2⟩:=NO.out _ ha E.out
  rw[e1,e2,E.out]
  have q:(z02 4 x != 0)=true:=by simpa using ha
  clear e1 e2 EC EP EY EK hp E ha NO CF
  generalize z02 4 x=r at *
  go_enter Tryz.func194,Tryz.ntmps194
  go_wp2_with fail
  refine(RD.out _ D0.out.f).mono ?_
  rintro e w1 ⟨rfl,f1⟩
  have D1:=hid (D0.out.go f1)
  clear d0 d1 d2 d3 d4
  obtain⟨a0,a1,a2,a3,a4⟩:=five D1.out.o
  obtain⟨b0,b2,b3,b4,b5⟩:=z10 D1.out.o
  go_wp2
  refine bodyPost_ret (v:=.tuple #[.agg #[.int .i64 0,.string ⟨#[]⟩,.slice none 0 0,.slice none 0 0,.slice none 0 0],.int .i64 0,.int .i64 r]) (by simp[results,Tryz.results194,go_sem,a0,a1,a2,a3,a4]) rfl ?_
  exact⟨_,rfl,z0l.nothing _ _,D1.out.end5 _ _ _ _ _⟩
end Go.Proofs.YtamgdmiopinidaaGreatDoor
