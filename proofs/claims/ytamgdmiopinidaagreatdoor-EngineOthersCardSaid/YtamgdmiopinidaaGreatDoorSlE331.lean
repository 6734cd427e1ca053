/- Contracts that the proof of E3 uses. No condition beyond those in each theorem. -/
import Derived.Test.YtamgdmiopinidaaGreatDoorSlE324
set_option linter.unusedVariables false
set_option linter.unusedSimpArgs false
set_option maxHeartbeats 8000000
set_option maxRecDepth 100000
namespace Go.Proofs.YtamgdmiopinidaaGreatDoor
open Lib (hid)
open Go.Proofs.Tryz (prog)
open Go.RowKit
def lst(l:List ByteArray)(k:Nat):List Rp1:=(l.take k).map fun s=>⟨4,s,0,0⟩
theorem zrg{l:List ByteArray}{k:Nat}{s:ByteArray}(h:l[k]? = some s):lst l (k+1)=lst l k++[⟨4,s,0,0⟩]:=by
 unfold lst
 rw[List.take_add_one,h]
 simp
theorem zuj{l:List ByteArray}{k:Nat}:∀x∈lst l k,x.sub=0:=fun x hx=>by
 unfold lst at hx
 obtain⟨s,_,rfl⟩:=List.mem_map.1 hx
 rfl
theorem zp1(l:List ByteArray):lst l l.length=(z25 l).list:=by simp[lst,z25]
def zws(w:World)(l:List ByteArray)(k:Nat)(A:Option Addr)(c:Nat)(wr:World):Prop:=
 Whole wr w.heap.size 27 [.int .i64 0,.string ⟨#[]⟩,.int .i64 0,.slice none 0 0]∧Whole wr (w.heap.size+1) 27 [.int .i64 6,.string ⟨#[]⟩,.int .i64 0,.slice A k c]∧wr.ownsRow (w.heap.size+2) 27 4 (.slice A k c) k (z72 (lst l k))∧Fr [] w wr
theorem own_laterR'{w:World}{base e size n:Nat}{v:Value}{xs:List Value}(h:w.ownsRow base e size v n xs){o i:Nat}(ho:o < base)(u:Value):(w.setCell ⟨o,i,none⟩ u).ownsRow base e size v n xs:=
 z22 u h (fun he=>by have:base≤o:=(h.lt _ he).1;omega)
def RepN(r:Rep)(w:World)(e:Ending)(w':World):Prop:=∃u,e=.returned u∧z1f w' w.heap.size u r∧Fr [] w w'
theorem zos(l:List ByteArray)(A:Option Addr)(c:Nat)(w:World)(B:Nat)(hl:l.length≤1000)(hB:B≤w.heap.size)(hL:Sl w B 1 (.slice A l.length c) l.length (z03 l)) :
  Calls prog 223 #[.slice A l.length c] w (RepN (z25 l) w):=by
 obtain⟨i0,hi,hz0,hz1,hz2⟩:=info_parts zoh
 have HL:=hid hL
 have S0:=hid (show zws w l 0 none 0 ((w.alloc (.cells #[.int .i64 0,.string ⟨#[]⟩,.int .i64 0,.slice none 0 0] 27)).alloc (.cells #[.int .i64 6,.string ⟨#[]⟩,.int .i64 0,.slice none 0 0] 27)) from
  ⟨Whole.alloc (Whole.new w _ _) _,z3s w _ _ _,World.ownsRow_nil _ _ _ _,((Fr.refl [] w).alloc _).alloc _⟩)
 clear hL
 go_enter Tryz.func223,Tryz.ntmps223
 go_wp2
 go_loopg [9] l.length (fun y i wr=>∃(k:Nat) (Ao:Option Addr) (co:Nat),y=l.length - k∧k≤l.length∧i=.int .i64 k∧zws w l k Ao co wr)
 case atStart=>exact⟨0,none,0,rfl,Nat.zero_le _,rfl,S0.out⟩
 case round=>
  obtain⟨k,Ao,co,rfl,hk,rfl,hq,hb,ho,hf⟩:=hrel
  have Q:=hid hq
  have BB:=hid hb
  have HO:=hid ho
  have F:=hid hf
  have hzr:=hb.lt
  clear hq ho hf
  obtain⟨a0,a1,a2,a3⟩:=four hb
  obtain⟨b0,b1,b2,b3⟩:=z0w hb
  clear hb
  by_cases hlt:k < l.length
  ·obtain⟨b,off,rfl,hbb,hc,hm,hat⟩:=HL.out.at_ (by omega)
   obtain⟨t,ht⟩:∃t,l[k]? = some t:=⟨_,List.getElem?_eq_getElem hlt⟩
   have x1:=F.out.cell (hat k _ (z15 l k t ht)) (by simp)
   have LS:=hid (zrg ht)
   have hO1:=hid (z0t (World.ownsRow_lit (base:=wr.heap.size) (e:=27) (size:=4) wr #[.int .i64 4,.string t,.int .i64 0,.slice none 0 0] 1 (Nat.le_refl _) (by decide) rfl))
   unfold maxLen at hm
   clear hat ht
   go_wp2_with (at_builtin;refine z0i _ rfl _ _ 25 rfl (w.heap.size+2) 27 i0 _ 4 56 Tryz.underlying25 hi hz0 hz1 hz2 rfl (by decide) _ _ _ rfl (HO.out.alloc _) _ _ 1 _ rfl hO1.out (zuo 4 0 t) ?c1 ?c2 ?c3 ?_)
   case c1=>unfold maxLen;omega
   case c2=>omega
   case c3=>first|omega|(simp;omega)
   intro v' w5 hown hgrow hat5
   have nb:∀x,x < w.heap.size+2→x∉z2l (.slice Ao k co):=fun x hx hm=>by have:=z1j HO.out hm;omega
   have ff:=z47 hgrow
   have Q5:=hid (Whole.fr (Whole.alloc Q.out (.cells #[.int .i64 4,.string t,.int .i64 0,.slice none 0 0] 27)) ff (nb _ (by omega)))
   have B5:=hid (Whole.fr (Whole.alloc BB.out (.cells #[.int .i64 4,.string t,.int .i64 0,.slice none 0 0] 27)) ff (nb _ (by omega)))
   have F5:=hid ((F.out.alloc (.cells #[.int .i64 4,.string t,.int .i64 0,.slice none 0 0] 27)).grown hgrow (fun j hj=>.inr (by have:=(HO.out.lt j hj).1;omega)))
   have WO5:=hid (show w5.ownsRow (w.heap.size+2) 27 4 v' (k+1) (z72 (lst l (k+1))) from by
    rw[LS.out,zgy]
    exact hown)
   clear hown hgrow hat5 nb ff a0 a1 a2 a3 b0 b1 b2 b3
   obtain⟨A5,c5,rfl,-⟩:=z06 WO5.out
   obtain⟨a0,a1,a2,a3⟩:=four B5.out
   obtain⟨b0,b1,b2,b3⟩:=z0w B5.out
   go_wp2
   go_roundg (l.length - (k+1))
   case measure=>omega
   case rel=>exact⟨k+1,A5,c5,rfl,by omega,by go_num,Whole.far Q5.out (p:=⟨w.heap.size+1,3,none⟩) (by show w.heap.size≠w.heap.size+1;omega) _,Whole.set_ B5.out 3 _,own_laterR' WO5.out (by omega) _,F5.out.setCell (p:=⟨w.heap.size+1,3,none⟩) (.inr (by show w.heap.size≤w.heap.size+1;omega)) _⟩
  ·obtain rfl:k=l.length:=by omega
   have hlq:=Q.out.lt
   obtain⟨y0,y1,y2,y3⟩:=four Q.out
   obtain⟨z0,z1,z2,z3⟩:=z0w Q.out
   go_wp2
   refine bodyPost_ret (v:=.agg #[.int .i64 6,.string ⟨#[]⟩,.int .i64 0,.slice Ao l.length co]) (by simp[results,Tryz.results223,go_sem,y0,y1,y2,y3]) rfl ?_
   have HO2:=HO.out
   rw[zp1] at HO2
   exact⟨_,rfl,⟨(fun x hx=>by rw[←zp1] at hx;exact zuj x hx),_,rfl,z1d (zkv (by simpa[z25] using HO2) (by omega) _ _ _ _) (by omega)⟩,z1o F.out (Nat.le_refl _) _ _ _ _⟩
theorem z2o(l:List ByteArray)(v:Value)(c:Int)(w:World)(hl:l.length≤1000)(hL:Sl w w.heap.size 1 v l.length (z03 l)) :
  Calls prog 179 #[v,.int .i64 c] w (RepN (orR (z25 l) c false) w):=by
 obtain⟨A,k,rfl⟩:=z7j hL
 have F0:=zF w
 have Q0:=zQ w
 have RL:=hid (fun W (hW:Fr [] w W)=>zos l A k W w.heap.size hl hW.size (hL.fr hW (Nat.le_refl _) (by simp)))
 clear hL
 go_enter Tryz.func179,Tryz.ntmps179
 go_wp2_with fail
 refine(RL.out _ F0.out).mono ?_
 rintro e1 w1 ⟨u,rfl,hu,f1⟩
 have F1:=hid (F0.out.trans f1)
 have Q1:=hid (Q0.out.fr f1 (by simp))
 have HU:=hid hu
 obtain⟨R,rc,rfl⟩:=hu.form
 clear hu f1
 go_wp2_with fail
 refine(z4r _ _ c false _ _ HU.out).mono ?_
 rintro e2 w2 ⟨rfl,f2⟩
 have F2:=hid (F1.out.trans f2)
 have Q2:=hid (Q1.out.fr f2 (by simp))
 have HV:=hid ((z8n HU.out c false).fr f2)
 clear f2
 obtain⟨S,sc,hS⟩:=HV.out.form
 rw[hS] at HV ⊢
 clear hS
 generalize orR (z25 l) c false=q at *
 obtain⟨y0,y1,y2,y3⟩:=four Q2.out
 obtain⟨z0,z1,z2,z3⟩:=z0w Q2.out
 go_wp2
 refine bodyPost_ret (v:=.agg #[.int .i64 q.kind,.string q.text,.int .i64 q.n,.slice S q.list.length sc]) (by simp[results,Tryz.results179,go_sem,y0,y1,y2,y3]) rfl ?_
 exact⟨_,rfl,(HV.out.set4 (by simp) _ _ _ _).base (by simp),z1o F2.out (Nat.le_refl _) _ _ _ _⟩
theorem ChD.go{g B0 bb:Nat}{sv:Value}{now:Int}{lv:Value}{l:List ByteArray}{p:List Ent×Rep}{w w1 w2:World}{e:Ending}(h:ChD g B0 bb sv now lv l p w e w1)(k:Fr [] w1 w2):ChD g B0 bb sv now lv l p w e w2:=by
 obtain⟨u,he,hr,hf,hd⟩:=h
 exact⟨u,he,hr.fr k,hf.trans k.up,fun hk=>(hd hk).imp fun _ d=>d.go k⟩
theorem z23(s:List Ent)(now:Int)(key:ByteArray)(y:Itm)(til:Int)(nn:Bool)(e:Int)(r:Rep):fin s now key y til false nn e r=(s,orR r e nn):=by
 unfold fin orR
 split
 ·rw[if_neg (by decide)]
 ·split <;> rfl
theorem z7f{r r':Rep}{c:Int}{b:Bool}(h:c=0→r=r'):orR r c b=orR r' c b:=by
 unfold orR
 split
 ·exact h ‹_›
 ·rfl
theorem z74{l:List UInt8}{v:Int}(h:z3v l=some v):-9223372036854775808≤v∧v≤9223372036854775807:=by
 have:=(z6t.1 h).1
 simp only[z0m,Bool.and_eq_true,decide_eq_true_eq] at this
 omega
theorem z5h{s:List Ent}(ok:z1m s)(now:Int)(k:ByteArray):((z00 s now k).item=z2r 0∧z1a s now k=false)∨(z0d (z00 s now k).item=0∧z1a s now k=true∧z00 s now k∈s∧(z00 s now k).key=k):=by
 rcases z5j s now k with⟨h1,h2⟩|⟨h1,h2,h3,_⟩
 ·rw[h1];exact .inl ⟨rfl,h2⟩
 ·exact .inr ⟨ok.items _ h1,h2,h1,h3⟩
theorem zng{s:List Ent}(ok:z1m s){now:Int}{k:ByteArray}(h:(z00 s now k).item.kind=0):(z00 s now k).item=z2r 0:=by
 rcases z5h ok now k with⟨h1,_⟩|⟨h1,_⟩
 ·exact h1
 ·have:=(z4h h1).kind
  omega
theorem z2u{s:List Ent}(ok:z1m s)(now:Int)(k:ByteArray):z1a s now k=decide ((z00 s now k).item.kind≠0):=by
 rcases z5h ok now k with⟨h1,h2⟩|⟨h1,h2,_⟩
 ·rw[h1,h2];rfl
 ·have:=(z4h h1).kind
  rw[h2,decide_eq_true (by omega)]
theorem zow(g B0:Nat)(sv:Value)(now:Int)(lv:Value)(l:List ByteArray)(s:List Ent)(c0:ByteArray)(w:World)(ok:z1m s)(hn:1≤l.length)(h12:l.length≤11)(hz:∀t∈l,t.size≤60)(h:Dr g B0 sv now lv l s w) :
  Calls prog 128 #[.pointer (some ⟨g,0,none⟩),.string ⟨#[115,116,114,108,101,110]⟩] w (ChD g B0 B0 sv now lv l (doC .strlen s now (c0 :: l)) w):=by
 have hr:=ok.rise
 have hs16:=ok.le
 have DI:=zDI hr hs16 h
 have LS:=hid (z0a (z07 ok) now (wd l 0)).item
 have hzw:∀i,(wd l i).size≤60:=z0s hz
 have EP:doC .strlen s now (c0 :: l)=(s,orR (z0h (lnN (z00 s now (wd l 0)).item)) (z02 1 (z00 s now (wd l 0)).item) false):=by
  show fin s now (wd l 0) (z00 s now (wd l 0)).item (z00 s now (wd l 0)).til false false (z02 1 (z00 s now (wd l 0)).item) (z0h (lnN (z00 s now (wd l 0)).item))=_
  exact z23 _ _ _ _ _ _ _ _
 have OP:=hid (fun W u (k:z0q W W.heap.size u (z00 s now (wd l 0)).item)=>zrc (z00 s now (wd l 0)).item u W W.heap.size LS.out (Nat.le_refl _) k)
 rw[EP]
 clear EP
 have H:=hid h
 have hlt:=h.lt
 have hbz:=h.bz
 obtain⟨SA,sc,rfl⟩:=h.sform
 obtain⟨LA,lc,rfl⟩:=h.lform
 obtain⟨b,off,rfl,hb,hc,hm,hat⟩:=h.word (by omega)
 have HAT:=hid hat
 have DG:=hid (fun W (hW:Fr [] w W)=>(h.go hW).three)
 unfold maxLen at hm
 clear h hr hat hzw ok
 generalize lnN (z00 s now (wd l 0)).item=nn at *
 generalize z02 1 (z00 s now (wd l 0)).item=cc at *
 generalize (z00 s now (wd l 0)).item=x at *
 have F0:=zF w
 have Q0:=zQ w
 obtain⟨d0,d1,d2⟩:=DG.out _ F0.out
 have dw:=F0.out.cell (HAT.out 0 (by omega)) (by simp)
 rw[Nat.add_zero] at dw
 go_enter Tryz.func128,Tryz.ntmps128
 go_wp2_with fail
 refine(DI.out _ F0.out).mono ?_
 rintro e1 w1 ⟨xv,rfl,hi,f1⟩
 have F1:=hid (F0.out.trans f1)
 have Q1:=hid (Q0.out.fr f1 (by simp))
 have HI:=hid hi
 obtain⟨X1,x1,X2,x2,X3,x3,rfl⟩:=hi.form
 have hz1:=f1.size
 simp at hz1
 clear f1 hi d0 d1 d2 dw
 have C1:=zC1 Q1 HI H F1
 have CC:=hid C1.out
 obtain⟨d0,d1,d2,d3,d4⟩:=five CC.out.b
 go_wp2_with fail
 refine(OP.out _ _ CC.out.i.item).mono ?_
 rintro eq wq ⟨rfl,fq⟩
 have CN:=hid (CC.out.go fq)
 clear CC
 have CC:=CN
 clear CN fq
 clear d0 d1 d2 d3 d4
 go_wp2_with fail
 refine(z0j _ _).mono ?_
 rintro e7 w7 ⟨rfl,f7⟩
 have C7:=hid (CC.out.go f7)
 clear f7
 go_wp2_with fail
 refine(z4r (z0h nn) _ cc false (w.heap.size+1) _ (z1f.bare _ _ _ _ _)).mono ?_
 rintro e8 w8 ⟨rfl,f8⟩
 have C8:=hid (C7.out.go f8)
 have HV:=hid (show z1f w8 (w.heap.size+1) (orV (.agg #[.int .i64 3,.string ⟨#[]⟩,.int .i64 nn,.slice none 0 0]) cc false) (orR (z0h nn) cc false) from z8n (z1f.bare _ _ _ _ _) cc false)
 clear f8
 obtain⟨S,sc9,hS⟩:=HV.out.form
 have HS9:=hid hS
 clear hS
 rw[HS9.out]
 have HV9:=hid (show z1f _ _ (.agg #[.int .i64 (orR (z0h nn) cc false).kind,.string (orR (z0h nn) cc false).text,.int .i64 (orR (z0h nn) cc false).n,.slice S (orR (z0h nn) cc false).list.length sc9]) (orR (z0h nn) cc false) from by have:=HV.out;rw[HS9.out] at this;exact this)
 generalize orR (z0h nn) cc false=q9 at *
 obtain⟨y0,y1,y2,y3⟩:=four C8.out.q
 obtain⟨z0,z1,z2,z3⟩:=z0w C8.out.q
 go_wp2
 refine bodyPost_ret (v:=.agg #[.int .i64 q9.kind,.string q9.text,.int .i64 q9.n,.slice S q9.list.length sc9]) (by simp[results,Tryz.results128,go_sem,y0,y1,y2,y3]) rfl ?_
 exact ChD.fin4 HV9.out C8.out.f.up C8.out.q hbz (fun _=>⟨_,C8.out.d⟩)
theorem zir(g B0:Nat)(sv:Value)(now:Int)(lv:Value)(l:List ByteArray)(s:List Ent)(c0:ByteArray)(w:World)(ok:z1m s)(hn:3≤l.length)(h12:l.length≤11)(hz:∀t∈l,t.size≤60)(n1:Int)(h1:z3v (wd l 1).data.toList=some n1)(n2:Int)(h2:z3v (wd l 2).data.toList=some n2)(hv:Vars w)(h:Dr g B0 sv now lv l s w) :
  Calls prog 128 #[.pointer (some ⟨g,0,none⟩),.string ⟨#[103,101,116,114,97,110,103,101]⟩] w (ChD g B0 B0 sv now lv l (doC .getrange s now (c0 :: l)) w):=by
 have hr:=ok.rise
 have hs16:=ok.le
 have DI:=zDI hr hs16 h
 have LS:=hid (z0a (z07 ok) now (wd l 0)).item
 have hzw:∀i,(wd l i).size≤60:=z0s hz
 have en1:wn (c0 :: l) 2=n1:=by show(z3v (wd l 1).data.toList).getD 0=n1;rw[h1];rfl
 have bn1:=z74 h1
 have I1:=hid (fun W (hW:Fr [] w W)=>(show Calls prog 174 #[.pointer (some ⟨g,0,none⟩),.int .i64 1] W (fun e w'=>e=.returned (.int .i64 n1)∧Fr [] W w') from z38 g B0 sv now lv l s 1 n1 W (by omega) (fun t ht=>by have:=hz t ht;omega) h1 (hv.fr hW) (h.go hW)))
 have en2:wn (c0 :: l) 3=n2:=by show(z3v (wd l 2).data.toList).getD 0=n2;rw[h2];rfl
 have bn2:=z74 h2
 have I2:=hid (fun W (hW:Fr [] w W)=>(show Calls prog 174 #[.pointer (some ⟨g,0,none⟩),.int .i64 2] W (fun e w'=>e=.returned (.int .i64 n2)∧Fr [] W w') from z38 g B0 sv now lv l s 2 n2 W (by omega) (fun t ht=>by have:=hz t ht;omega) h2 (hv.fr hW) (h.go hW)))
 clear h1 h2 hv
 have EP:doC .getrange s now (c0 :: l)=(s,orR (z1b (rgS (z00 s now (wd l 0)).item n1 n2)) (z02 1 (z00 s now (wd l 0)).item) false):=by
  show fin s now (wd l 0) (z00 s now (wd l 0)).item (z00 s now (wd l 0)).til false false (z02 1 (z00 s now (wd l 0)).item) (z1b (rgS (z00 s now (wd l 0)).item (wn (c0 :: l) 2) (wn (c0 :: l) 3)))=_
  rw[en1,en2]
  exact z23 _ _ _ _ _ _ _ _
 have OP:=hid (fun W u (k:z0q W W.heap.size u (z00 s now (wd l 0)).item)=>ze6 (z00 s now (wd l 0)).item u n1 n2 W W.heap.size LS.out (Nat.le_refl _) k bn1 bn2)
 rw[EP]
 clear EP en1 en2
 have H:=hid h
 have hlt:=h.lt
 have hbz:=h.bz
 obtain⟨SA,sc,rfl⟩:=h.sform
 obtain⟨LA,lc,rfl⟩:=h.lform
 obtain⟨b,off,rfl,hb,hc,hm,hat⟩:=h.word (by omega)
 have HAT:=hid hat
 have DG:=hid (fun W (hW:Fr [] w W)=>(h.go hW).three)
 unfold maxLen at hm
 clear h hr hat hzw ok
 generalize rgS (z00 s now (wd l 0)).item n1 n2=tt at *
 generalize z02 1 (z00 s now (wd l 0)).item=cc at *
 generalize (z00 s now (wd l 0)).item=x at *
 have F0:=zF w
 have Q0:=zQ w
 obtain⟨d0,d1,d2⟩:=DG.out _ F0.out
 have dw:=F0.out.cell (HAT.out 0 (by omega)) (by simp)
 rw[Nat.add_zero] at dw
 go_enter Tryz.func128,Tryz.ntmps128
 go_wp2_with fail
 refine(DI.out _ F0.out).mono ?_
 rintro e1 w1 ⟨xv,rfl,hi,f1⟩
 have F1:=hid (F0.out.trans f1)
 have Q1:=hid (Q0.out.fr f1 (by simp))
 have HI:=hid hi
 obtain⟨X1,x1,X2,x2,X3,x3,rfl⟩:=hi.form
 have hz1:=f1.size
 simp at hz1
 clear f1 hi d0 d1 d2 dw
 have C1:=zC1 Q1 HI H F1
 have CC:=hid C1.out.drew
 obtain⟨d0,d1,d2,d3,d4⟩:=five CC.out.b
 go_upto_region 19 with fail
 go_region_held3 (fun wx=>wx.cell? ⟨w1.heap.size,0,none⟩=some (.int .i64 x.kind)∧wx.cell? ⟨w1.heap.size,1,none⟩=some (.string x.text)∧wx.cell? ⟨w1.heap.size,2,none⟩=some (.slice X1 x.list.length x1)∧wx.cell? ⟨w1.heap.size,3,none⟩=some (.slice X2 x.pairs.length x2)∧wx.cell? ⟨w1.heap.size,4,none⟩=some (.slice X3 x.scores.length x3)) (go_keep) ((first|(go_at_call 174;(first|(with_reducible refine(I1.out _ CC.out.f).mono ?_)|(with_reducible refine(I2.out _ CC.out.f).mono ?_));rintro eq wq ⟨rfl,fq⟩;have CN:=hid (CC.out.go fq);clear CC;have CC:=CN;clear CN fq d0 d1 d2 d3 d4;obtain⟨d0,d1,d2,d3,d4⟩:=five CC.out.b)|(go_at_call 164;(first|(with_reducible refine(OP.out _ _ CC.out.i.item).mono ?_));rintro eq wq ⟨rfl,fq⟩;have CN:=hid (CC.out.go fq);clear CC;have CC:=CN;clear CN fq d0 d1 d2 d3 d4;obtain⟨d0,d1,d2,d3,d4⟩:=five CC.out.b)))
 clear d0 d1 d2 d3 d4
 go_wp2_with fail
 refine(z7t _ _).mono ?_
 rintro e7 w7 ⟨rfl,f7⟩
 have C7:=hid (CC.out.go f7)
 clear f7
 go_wp2_with fail
 refine(z4r (z1b tt) _ cc false (w.heap.size+1) _ (z1f.bare _ _ _ _ _)).mono ?_
 rintro e8 w8 ⟨rfl,f8⟩
 have C8:=hid (C7.out.go f8)
 have HV:=hid (show z1f w8 (w.heap.size+1) (orV (.agg #[.int .i64 4,.string tt,.int .i64 0,.slice none 0 0]) cc false) (orR (z1b tt) cc false) from z8n (z1f.bare _ _ _ _ _) cc false)
 clear f8
 obtain⟨S,sc9,hS⟩:=HV.out.form
 have HS9:=hid hS
 clear hS
 rw[HS9.out]
 have HV9:=hid (show z1f _ _ (.agg #[.int .i64 (orR (z1b tt) cc false).kind,.string (orR (z1b tt) cc false).text,.int .i64 (orR (z1b tt) cc false).n,.slice S (orR (z1b tt) cc false).list.length sc9]) (orR (z1b tt) cc false) from by have:=HV.out;rw[HS9.out] at this;exact this)
 generalize orR (z1b tt) cc false=q9 at *
 obtain⟨y0,y1,y2,y3⟩:=four C8.out.q
 obtain⟨z0,z1,z2,z3⟩:=z0w C8.out.q
 go_wp2
 refine bodyPost_ret (v:=.agg #[.int .i64 q9.kind,.string q9.text,.int .i64 q9.n,.slice S q9.list.length sc9]) (by simp[results,Tryz.results128,go_sem,y0,y1,y2,y3]) rfl ?_
 exact ChD.fin4 HV9.out C8.out.f.up C8.out.q hbz (fun _=>⟨_,C8.out.d⟩)
theorem zvf(g B0:Nat)(sv:Value)(now:Int)(lv:Value)(l:List ByteArray)(s:List Ent)(c0:ByteArray)(w:World)(ok:z1m s)(hn:1≤l.length)(h12:l.length≤11)(hz:∀t∈l,t.size≤60)(hk:((z00 s now (wd l 0)).item).kind=0)(h:Dr g B0 sv now lv l s w) :
  Calls prog 128 #[.pointer (some ⟨g,0,none⟩),.string ⟨#[103,101,116]⟩] w (ChD g B0 B0 sv now lv l (doC .get s now (c0 :: l)) w):=by
 have hr:=ok.rise
 have hs16:=ok.le
 have DI:=zDI hr hs16 h
 have LS:=hid (z0a (z07 ok) now (wd l 0)).item
 have hzw:∀i,(wd l i).size≤60:=z0s hz
 have EP:doC .get s now (c0 :: l)=(s,zbq):=by
  show(if ((z00 s now (wd l 0)).item).kind=0 then fin s now (wd l 0) (z00 s now (wd l 0)).item (z00 s now (wd l 0)).til false false (z02 1 (z00 s now (wd l 0)).item) zbq else _)=_
  rw[if_pos hk,zng ok hk]
  rfl
 have q1:(((z00 s now (wd l 0)).item).kind==0)=true:=by simpa using hk
 rw[EP]
 clear EP hk
 have H:=hid h
 have hlt:=h.lt
 have hbz:=h.bz
 obtain⟨SA,sc,rfl⟩:=h.sform
 obtain⟨LA,lc,rfl⟩:=h.lform
 obtain⟨b,off,rfl,hb,hc,hm,hat⟩:=h.word (by omega)
 have HAT:=hid hat
 have DG:=hid (fun W (hW:Fr [] w W)=>(h.go hW).three)
 unfold maxLen at hm
 clear h hr hat hzw ok
 generalize (z00 s now (wd l 0)).item=x at *
 have F0:=zF w
 have Q0:=zQ w
 obtain⟨d0,d1,d2⟩:=DG.out _ F0.out
 have dw:=F0.out.cell (HAT.out 0 (by omega)) (by simp)
 rw[Nat.add_zero] at dw
 go_enter Tryz.func128,Tryz.ntmps128
 go_wp2_with fail
 refine(DI.out _ F0.out).mono ?_
 rintro e1 w1 ⟨xv,rfl,hi,f1⟩
 have F1:=hid (F0.out.trans f1)
 have Q1:=hid (Q0.out.fr f1 (by simp))
 have HI:=hid hi
 obtain⟨X1,x1,X2,x2,X3,x3,rfl⟩:=hi.form
 have hz1:=f1.size
 simp at hz1
 clear f1 hi d0 d1 d2 dw
 have C1:=zC1 Q1 HI H F1
 have hlx:=C1.out.q.lt
 obtain⟨d0,d1,d2,d3,d4⟩:=five C1.out.b
 have HQ1:=Q1.out.lt
 obtain⟨y4,y5,y6,y7⟩:=four Q1.out
 obtain⟨z4,z5,z6,z7⟩:=z0w Q1.out
 go_wp2
 obtain⟨y0,y1,y2,y3⟩:=four (show Whole ((set4 w1 w.heap.size (.int .i64 5) (.string ⟨#[]⟩) (.int .i64 0) (.slice none 0 0)).alloc (.cells #[.int .i64 x.kind,.string x.text,.slice X1 x.list.length x1,.slice X2 x.pairs.length x2,.slice X3 x.scores.length x3] 43)) w.heap.size 27 [.int .i64 5,.string ⟨#[]⟩,.int .i64 0,.slice none 0 0] from Whole.alloc (zxx Q1.out _ _ _ _) _)
 unfold set4 at y0 y1 y2 y3
 refine bodyPost_ret (v:=.agg #[.int .i64 5,.string ⟨#[]⟩,.int .i64 0,.slice none 0 0]) (by simp[results,Tryz.results128,go_sem,y0,y1,y2,y3]) rfl ?_
 exact(ChD.fin4 (r:=zbq) (z1f.bare w1 _ _ _ _) F1.out.up Q1.out hbz (fun _=>⟨_,H.out.go F1.out⟩)).go ((Fr.refl [] _).alloc _)
theorem zw1(g B0:Nat)(sv:Value)(now:Int)(lv:Value)(l:List ByteArray)(s:List Ent)(c0:ByteArray)(w:World)(ok:z1m s)(hn:1≤l.length)(h12:l.length≤11)(hz:∀t∈l,t.size≤60)(hk:((z00 s now (wd l 0)).item).kind≠0)(h:Dr g B0 sv now lv l s w) :
  Calls prog 128 #[.pointer (some ⟨g,0,none⟩),.string ⟨#[103,101,116]⟩] w (ChD g B0 B0 sv now lv l (doC .get s now (c0 :: l)) w):=by
 have hr:=ok.rise
 have hs16:=ok.le
 have DI:=zDI hr hs16 h
 have LS:=hid (z0a (z07 ok) now (wd l 0)).item
 have hzw:∀i,(wd l i).size≤60:=z0s hz
 have EP:doC .get s now (c0 :: l)=(s,orR (z1b (rgS (z00 s now (wd l 0)).item 0 (-1))) (z02 1 (z00 s now (wd l 0)).item) false):=by
  show(if ((z00 s now (wd l 0)).item).kind=0 then _ else fin s now (wd l 0) (z00 s now (wd l 0)).item (z00 s now (wd l 0)).til false false (z02 1 (z00 s now (wd l 0)).item) (z1b ((z00 s now (wd l 0)).item).text))=_
  rw[if_neg hk,z23]
  exact congrArg (Prod.mk s) (z7f fun h=>by rw[zww h])
 have q1:(((z00 s now (wd l 0)).item).kind==0)=false:=by simpa using hk
 have OP:=hid (fun W u (k:z0q W W.heap.size u (z00 s now (wd l 0)).item)=>ze6 (z00 s now (wd l 0)).item u 0 (-1) W W.heap.size LS.out (Nat.le_refl _) k (by decide) (by decide))
 rw[EP]
 clear EP hk
 have H:=hid h
 have hlt:=h.lt
 have hbz:=h.bz
 obtain⟨SA,sc,rfl⟩:=h.sform
 obtain⟨LA,lc,rfl⟩:=h.lform
 obtain⟨b,off,rfl,hb,hc,hm,hat⟩:=h.word (by omega)
 have HAT:=hid hat
 have DG:=hid (fun W (hW:Fr [] w W)=>(h.go hW).three)
 unfold maxLen at hm
 clear h hr hat hzw ok
 generalize rgS (z00 s now (wd l 0)).item 0 (-1)=tt at *
 generalize z02 1 (z00 s now (wd l 0)).item=cc at *
 generalize (z00 s now (wd l 0)).item=x at *
 have F0:=zF w
 have Q0:=zQ w
 obtain⟨d0,d1,d2⟩:=DG.out _ F0.out
 have dw:=F0.out.cell (HAT.out 0 (by omega)) (by simp)
 rw[Nat.add_zero] at dw
 go_enter Tryz.func128,Tryz.ntmps128
 go_wp2_with fail
 refine(DI.out _ F0.out).mono ?_
 rintro e1 w1 ⟨xv,rfl,hi,f1⟩
 have F1:=hid (F0.out.trans f1)
 have Q1:=hid (Q0.out.fr f1 (by simp))
 have HI:=hid hi
 obtain⟨X1,x1,X2,x2,X3,x3,rfl⟩:=hi.form
 have hz1:=f1.size
 simp at hz1
 clear f1 hi d0 d1 d2 dw
 have C1:=zC1 Q1 HI H F1
 have CC:=hid C1.out
 obtain⟨d0,d1,d2,d3,d4⟩:=five CC.out.b
 go_wp2_with fail
 refine(OP.out _ _ CC.out.i.item).mono ?_
 rintro eq wq ⟨rfl,fq⟩
 have CN:=hid (CC.out.go fq)
 clear CC
 have CC:=CN
 clear CN fq d0 d1 d2 d3 d4
 go_wp2_with fail
 refine(z7t _ _).mono ?_
 rintro e7 w7 ⟨rfl,f7⟩
 have C7:=hid (CC.out.go f7)
 clear f7
 go_wp2_with fail
 refine(z4r (z1b tt) _ cc false (w.heap.size+1) _ (z1f.bare _ _ _ _ _)).mono ?_
 rintro e8 w8 ⟨rfl,f8⟩
 have C8:=hid (C7.out.go f8)
 have HV:=hid (show z1f w8 (w.heap.size+1) (orV (.agg #[.int .i64 4,.string tt,.int .i64 0,.slice none 0 0]) cc false) (orR (z1b tt) cc false) from z8n (z1f.bare _ _ _ _ _) cc false)
 clear f8
 obtain⟨S,sc9,hS⟩:=HV.out.form
 have HS9:=hid hS
 clear hS
 rw[HS9.out]
 have HV9:=hid (show z1f _ _ (.agg #[.int .i64 (orR (z1b tt) cc false).kind,.string (orR (z1b tt) cc false).text,.int .i64 (orR (z1b tt) cc false).n,.slice S (orR (z1b tt) cc false).list.length sc9]) (orR (z1b tt) cc false) from by have:=HV.out;rw[HS9.out] at this;exact this)
 generalize orR (z1b tt) cc false=q9 at *
 obtain⟨y0,y1,y2,y3⟩:=four C8.out.q
 obtain⟨z0,z1,z2,z3⟩:=z0w C8.out.q
 go_wp2
 refine bodyPost_ret (v:=.agg #[.int .i64 q9.kind,.string q9.text,.int .i64 q9.n,.slice S q9.list.length sc9]) (by simp[results,Tryz.results128,go_sem,y0,y1,y2,y3]) rfl ?_
 exact ChD.fin4 HV9.out C8.out.f.up C8.out.q hbz (fun _=>⟨_,C8.out.d⟩)
theorem zxz(g B0:Nat)(sv:Value)(now:Int)(lv:Value)(l:List ByteArray)(s:List Ent)(c0:ByteArray)(w:World)(ok:z1m s)(hn:1≤l.length)(h12:l.length≤11)(hz:∀t∈l,t.size≤60)(h:Dr g B0 sv now lv l s w) :
  Calls prog 128 #[.pointer (some ⟨g,0,none⟩),.string ⟨#[103,101,116]⟩] w (ChD g B0 B0 sv now lv l (doC .get s now (c0 :: l)) w):=by
 by_cases hk:((z00 s now (wd l 0)).item).kind=0
 ·exact zvf g B0 sv now lv l s c0 w ok hn h12 hz hk h
 ·exact zw1 g B0 sv now lv l s c0 w ok hn h12 hz hk h
theorem zug(g B0:Nat)(sv:Value)(now:Int)(lv:Value)(l:List ByteArray)(s:List Ent)(c0:ByteArray)(w:World)(ok:z1m s)(hn:2≤l.length)(h12:l.length≤11)(hz:∀t∈l,t.size≤60)(h:Dr g B0 sv now lv l s w) :
  Calls prog 128 #[.pointer (some ⟨g,0,none⟩),.string ⟨#[115,101,116]⟩] w (ChD g B0 B0 sv now lv l (doC .set_ s now (c0 :: l)) w):=by
 have hr:=ok.rise
 have hs16:=ok.le
 have DI:=zDI hr hs16 h
 have LS:=hid (z0a (z07 ok) now (wd l 0)).item
 have hzw:∀i,(wd l i).size≤60:=z0s hz
 have EP:doC .set_ s now (c0 :: l)=(if z1e s now (wd l 0) (z27 (wd l 1)) 0=0 then (z5l s now (wd l 0) (z27 (wd l 1)) 0,z2x tOK) else (s,z78 (z1e s now (wd l 0) (z27 (wd l 1)) 0))):=by
  show fin s now (wd l 0) (z27 (wd l 1)) 0 true false 0 (z2x tOK)=_
  unfold fin
  rw[if_pos rfl,if_pos rfl]
 have PT:=hid (fun W (hd:Dr g B0 sv now lv l s W)=>(show Calls prog 167 #[.pointer (some ⟨g,0,none⟩),.string (wd l 0),.agg #[.int .i64 1,.string (wd l 1),.slice none 0 0,.slice none 0 0,.slice none 0 0],.int .i64 0] W (PutD g B0 sv now lv l (z5l s now (wd l 0) (z27 (wd l 1)) 0) (z1e s now (wd l 0) (z27 (wd l 1)) 0) W) from z9o g B0 sv now lv l s (wd l 0) (z27 (wd l 1)) _ 0 W hr (by omega) (z8r (by have:=hzw 1;omega)) hd ⟨_,_,_,rfl,World.ownsRow_nil _ _ _ _,World.ownsRow_nil _ _ _ _,World.ownsRow_nil _ _ _ _⟩))
 rw[EP]
 clear EP
 have H:=hid h
 have hlt:=h.lt
 have hbz:=h.bz
 obtain⟨SA,sc,rfl⟩:=h.sform
 obtain⟨LA,lc,rfl⟩:=h.lform
 obtain⟨b,off,rfl,hb,hc,hm,hat⟩:=h.word (by omega)
 have HAT:=hid hat
 have DG:=hid (fun W (hW:Fr [] w W)=>(h.go hW).three)
 unfold maxLen at hm
 clear h hr hat hzw ok
 generalize z5l s now (wd l 0) (z27 (wd l 1)) 0=s' at *
 generalize z1e s now (wd l 0) (z27 (wd l 1)) 0=pc at *
 generalize (z00 s now (wd l 0)).item=x at *
 have ix0:(0:Int) < (l.length:Int):=by omega
 have ix1:(1:Int) < (l.length:Int):=by omega
 generalize hpp:(if pc=0 then (s',z2x tOK) else (s,z78 pc))=pp
 have HPP:=hid hpp
 clear hpp
 have F0:=zF w
 have Q0:=zQ w
 obtain⟨d0,d1,d2⟩:=DG.out _ F0.out
 have dw:=F0.out.cell (HAT.out 0 (by omega)) (by simp)
 rw[Nat.add_zero] at dw
 go_enter Tryz.func128,Tryz.ntmps128
 go_wp2_with fail
 refine(DI.out _ F0.out).mono ?_
 rintro e1 w1 ⟨xv,rfl,hi,f1⟩
 have F1:=hid (F0.out.trans f1)
 have Q1:=hid (Q0.out.fr f1 (by simp))
 have HI:=hid hi
 obtain⟨X1,x1,X2,x2,X3,x3,rfl⟩:=hi.form
 have hz1:=f1.size
 simp at hz1
 clear f1 hi d0 d1 d2 dw
 have C1:=zC1 Q1 HI H F1
 have CC:=hid C1.out.drew
 have hx1:¬g=w.heap.size:=by omega
 have hx2:¬w.heap.size=g:=by omega
 have hx3:¬b=w.heap.size:=by omega
 have hx4:¬w.heap.size=b:=by omega
 have ix0n:0 < l.length:=by omega
 have d5:=CC.out.d.three.2.2
 have d6:=CC.out.f.cell (HAT.out 0 (by omega)) (by simp)
 rw[Nat.add_zero] at d6
 have d7:=CC.out.f.cell (HAT.out 1 (by omega)) (by simp)
 go_upto_region 9 with fail
 go_region_held3 (fun wx=>wx.cell? ⟨g,2,none⟩=some (.slice (some ⟨b,off,none⟩) l.length lc)∧wx.cell? ⟨b,off,none⟩=some (.string (wd l 0))∧wx.cell? ⟨b,off+1,none⟩=some (.string (wd l 1))) (go_keep) ((first|(go_at_call 127;refine(zbv _ _).mono ?_;rintro eq wq ⟨rfl,fq⟩;have CN:=hid (CC.out.go fq);clear CC;have CC:=CN;clear CN fq d5 d6 d7;have d5:=CC.out.d.three.2.2;have d6:=CC.out.f.cell (HAT.out 0 (by omega)) (by simp);rw[Nat.add_zero] at d6;have d7:=CC.out.f.cell (HAT.out 1 (by omega)) (by simp))|(go_at_call 168;refine(zfl _ _).mono ?_;rintro eq wq ⟨rfl,fq⟩;have CN:=hid (CC.out.go fq);clear CC;have CC:=CN;clear CN fq d5 d6 d7;have d5:=CC.out.d.three.2.2;have d6:=CC.out.f.cell (HAT.out 0 (by omega)) (by simp);rw[Nat.add_zero] at d6;have d7:=CC.out.f.cell (HAT.out 1 (by omega)) (by simp))|(go_at_call 167;refine(PT.out _ CC.out.d).mono ?_;rintro eq w6 ⟨rfl,f6,sv6,hg6,hd6⟩;have FB:=hid f6;have CB:=hid CC.out;have G6:=hid hg6;have D6:=hid hd6;have Q6:=hid (CC.out.q.fr f6 (fun hm=>by have:=(H.out.low _ hm).2;omega));have F6:=hid (CC.out.f.up.trans f6);have N3:b∉g :: z2l (.slice SA s.length sc):=fun hm=>(by have:=(H.out.low _ hm).1;omega);clear d5;have d5:=G6.out.cell 2;have e6:=f6.cell d6 N3;have e7:=f6.cell d7 N3;clear f6 hg6 hd6 N3 d6 d7)|(go_at_call 165;refine(z4r (z2x tOK) _ pc false (w.heap.size+1) _ (z1f.bare _ _ _ _ _)).mono ?_;rintro eq w8 ⟨rfl,f8⟩;have Q8:=hid (Q6.out.fr f8 (by simp));have F8:=hid (F6.out.trans f8.up);have f8':=hid f8;have e5:=f8.cell d5 (by simp);have e8:=f8.cell e6 (by simp);have e9:=f8.cell e7 (by simp);clear f8 d5 e6 e7;obtain⟨y0,y1,y2,y3⟩:=four Q8.out;obtain⟨z0,z1,z2,z3⟩:=z0w Q8.out;have HV:=hid (show z1f w8 (w.heap.size+1) (orV (.agg #[.int .i64 1,.string tOK,.int .i64 0,.slice none 0 0]) pc false) (orR (z2x tOK) pc false) from z8n (z1f.bare _ _ _ _ _) pc false);obtain⟨S,sc9,hS⟩:=HV.out.form;have HS9:=hid hS;clear hS;rw[HS9.out])))
 have EPP:=hid (show pp=(if pc=0 then s' else s,orR (z2x tOK) pc false) from by
  rw[←HPP.out]
  unfold orR
  split
  ·rfl
  ·rw[if_neg (fun h=>by cases h.2)])
 have HV9:=hid (show z1f w8 (w.heap.size+1) (.agg #[.int .i64 (orR (z2x tOK) pc false).kind,.string (orR (z2x tOK) pc false).text,.int .i64 (orR (z2x tOK) pc false).n,.slice S (orR (z2x tOK) pc false).list.length sc9]) (orR (z2x tOK) pc false) from by have:=HV.out;rw[HS9.out] at this;exact this)
 clear HPP
 have HD9:=hid (show(orR (z2x tOK) pc false).kind≠2→∃sv',Dr g B0 sv' now (.slice (some ⟨b,off,none⟩) l.length lc) l (if pc=0 then s' else s) w8 from fun hk=>by
  by_cases hp:pc=0
  ·rw[if_pos hp];exact⟨_,(D6.out hp).go f8'.out⟩
  ·exact absurd (show(orR (z2x tOK) pc false).kind=2 from by unfold orR;rw[if_neg hp,if_neg (fun h=>by cases h.2)];rfl) hk)
 generalize (if pc=0 then s' else s)=sf at *
 generalize orR (z2x tOK) pc false=q9 at *
 go_wp2
 refine bodyPost_ret (v:=.agg #[.int .i64 q9.kind,.string q9.text,.int .i64 q9.n,.slice S q9.list.length sc9]) (by simp[results,Tryz.results128,go_sem,y0,y1,y2,y3]) rfl ?_
 rw[EPP.out]
 exact ChD.fin4 HV9.out F8.out Q8.out hbz HD9.out
end Go.Proofs.YtamgdmiopinidaaGreatDoor
