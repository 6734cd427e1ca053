/- Contracts that the proof of E3 uses. No condition beyond those in each theorem. -/
import Derived.Test.YtamgdmiopinidaaGreatDoorSlE325
import Derived.Test.YtamgdmiopinidaaGreatDoorSlE331
set_option linter.unusedVariables false
set_option linter.unusedSimpArgs false
set_option maxHeartbeats 8000000
set_option maxRecDepth 100000
namespace Go.Proofs.YtamgdmiopinidaaGreatDoor
open Lib (hid)
open Go.Proofs.Tryz (prog)
open Go.RowKit
theorem znj:(prog.info? 43).map (fun i=>(i.zero,i.size,i.bytes))=some (some (.agg #[.int .i64 0,.string ⟨#[]⟩,.slice none 0 0,.slice none 0 0,.slice none 0 0]),5,96):=by kernel_rfl
def zrt(w0:World)(B0:Nat)(l:List Itm)(k:Nat)(A:Option Addr)(c:Nat)(wr:World):Prop:=
 ∃rs:List (List Value),rs.length=k∧(∀(i:Nat) (x:Itm),(l.take k)[i]? = some x→∃cs:List Value,rs[i]? = some cs∧cs.length=5∧z0l wr B0 (.agg cs.toArray) x)∧wr.ownsRow w0.heap.size 43 5 (.slice A k c) k rs.flatten
theorem zrt.nil(w0:World)(B0:Nat)(l:List Itm)(wr:World):zrt w0 B0 l 0 none 0 wr:=⟨[],rfl,fun i x h=>by simp at h,World.ownsRow_nil _ _ _ _⟩
theorem zrt.items{w0 wr:World}{B0:Nat}{l:List Itm}{A:Option Addr}{c:Nat}(h:zrt w0 B0 l l.length A c wr):z3z wr wr.heap.size (.slice A l.length c) l:=by
 obtain⟨rs,h1,h2,h3⟩:=h
 refine⟨A,c,rs,rfl,h1,fun i x hx=>?_,z0t h3⟩
 obtain⟨cs,a,b,d⟩:=h2 i x (by rw[List.take_length];exact hx)
 exact⟨cs,a,b,d.item⟩
theorem zti{y:Itm}{A1 A2 A3:Option Addr}{c1 c2 c3:Nat}:∀u∈[Value.int .i64 y.kind,Value.string y.text,Value.slice A1 y.list.length c1,Value.slice A2 y.pairs.length c2,Value.slice A3 y.scores.length c3],u.oneCell'=true:=fun u hu=>by
 simp at hu
 rcases hu with rfl|rfl|rfl|rfl|rfl <;> rfl
theorem zrt.snoc{w0 wr w5:World}{B0 k:Nat}{l:List Itm}{A A5:Option Addr}{c c5:Nat}{y:Itm}{rs:List (List Value)}{cs:List Value}{o:Obj}(h1:rs.length=k)(h2:∀(i:Nat) (x:Itm),(l.take k)[i]? = some x→∃cs:List Value,rs[i]? = some cs∧cs.length=5∧z0l wr B0 (.agg cs.toArray) x)(h3:wr.ownsRow w0.heap.size 43 5 (.slice A k c) k rs.flatten)
  (hl:l[k]? = some y) (h5:cs.length=5) (hy:z0l wr B0 (.agg cs.toArray) y) (hg:(wr.alloc o).grownBy w5 (Value.slice A k c).ownBlock) (ho:w5.ownsRow w0.heap.size 43 5 (.slice A5 (k+1) c5) (k+1) (rs.flatten++cs)):zrt w0 B0 l (k+1) A5 c5 w5:=by
 have hf:=z47 hg
 have up:∀ {v x},z0l wr B0 v x→z0l w5 B0 v x:=fun h=>zcz (h.go ((Fr.refl [] wr).alloc o)) (h3.alloc o) (by decide) hf
 refine⟨rs++[cs],by simp[h1],fun i x hx=>?_,by simpa using ho⟩
 rw[List.take_add_one,hl] at hx
 by_cases hi:i < k
 ·obtain⟨d,q1,q2,q3⟩:=h2 i x (by
   rw[List.getElem?_append_left (by simp;have:=(List.getElem?_eq_some_iff.1 hl).1;omega)] at hx
   exact hx)
  exact⟨d,by rw[List.getElem?_append_left (by omega)];exact q1,q2,up q3⟩
 ·have hk:(l.take k).length=k:=by have:=(List.getElem?_eq_some_iff.1 hl).1;simp;omega
  rw[List.getElem?_append_right (by omega),hk] at hx
  have:i - k=0:=by
   rcases Nat.eq_zero_or_pos (i - k) with h|h
   ·exact h
   ·rw[List.getElem?_eq_none (by simp;omega)] at hx;cases hx
  rw[this] at hx
  simp at hx
  subst hx
  exact⟨cs,by rw[List.getElem?_append_right (by omega),h1,this];rfl,h5,up hy⟩
def zxe(l:List Itm)(w:World)(e:Ending)(w':World):Prop:=∃u,e=.returned u∧z3z w' w'.heap.size u l∧Fr [] w w'
theorem zm5{s:List Ent}{now:Int}{l:List ByteArray}{k:Nat}(h:k < l.length):(z05 s now l)[k]? = some (z00 s now (wd l k)).item:=by
 unfold z05 wd
 rw[List.getElem?_map,List.getElem?_eq_getElem h,List.getD_eq_getElem?_getD,List.getElem?_eq_getElem h]
 rfl
theorem z4v{s:List Ent}(ok:z1m s)(now:Int)(l:List ByteArray):∀x∈z05 s now l,x.Small:=fun x hx=>by
 obtain⟨k,_,rfl⟩:=List.mem_map.1 hx
 exact(z0a (z07 ok) now k).item
theorem zf7{p:Nat→Bool→Bool}{s:List Ent}(ok:z1m s){now:Int}{l:List ByteArray}(h:l.length≤11):(z2b p (z05 s now l)).length≤1000:=by
 unfold z2b
 split
 ·rename_i hc
  unfold z0u at hc
  by_cases h0:(z05 s now l).length=0
  ·rw[if_pos h0] at hc;cases hc
  ·rw[if_neg h0] at hc
   have h1:=zfz (zbb hc)
   have h2:=za3 ((zbp (z05 s now l)).filter (pick p (z05 s now l)))
   have h3:=List.length_filter_le (pick p (z05 s now l)) (zbp (z05 s now l))
   have h4:(z05 s now l).length=l.length:=by simp[z05]
   omega
 ·simp
theorem z5c(s:List Ent)(now:Int)(l:List ByteArray):(z05 s now l).length=l.length:=by simp[z05]
theorem z89(g B0:Nat)(sv:Value)(now:Int)(lv:Value)(l:List ByteArray)(s:List Ent)(w:World)(ok:z1m s)(h12:l.length≤11)(h:Dr g B0 sv now lv l s w) :
  Calls prog 191 #[.pointer (some ⟨g,0,none⟩)] w (zxe (z05 s now l) w):=by
 obtain⟨i0,hi,hz0,hz1,hz2⟩:=info_parts znj
 have hr:=ok.rise
 have hs16:=ok.le
 have DI:=hid (fun W k (hW:Fr [] w W)=>zho g B0 sv now lv l s k W hr (by omega) (h.go hW))
 have H:=hid h
 have hbz:=h.bz
 have hlt0:=h.lt
 obtain⟨SA,sc,rfl⟩:=h.sform
 obtain⟨LA,lc,rfl⟩:=h.lform
 have DG:=hid (fun W (hW:Fr [] w W)=>(h.go hW).three)
 have LL:=hid (z5c s now l)
 have AT:=hid (fun k (hk:k < l.length)=>zm5 (s:=s) (now:=now) hk)
 have RN:=hid (zrt.nil w B0 (z05 s now l) w)
 obtain⟨x0,x1,x2⟩:=h.three
 clear h hr ok
 go_enter Tryz.func191,Tryz.ntmps191
 go_wp2
 go_loopg [3,11] l.length (fun y sl i wr=>∃(k:Nat) (Ao:Option Addr) (co:Nat),y=l.length - k∧k≤l.length∧sl=.slice Ao k co∧i=.int .i64 k∧zrt w B0 (z05 s now l) k Ao co wr∧Fr [] w wr)
 case atStart=>exact⟨0,none,0,rfl,Nat.zero_le _,rfl,rfl,RN.out,Fr.refl [] w⟩
 case round=>
  obtain⟨k,Ao,co,rfl,hk,rfl,rfl,hrow,hf⟩:=hrel
  have HR:=hid hrow
  have F:=hid hf
  have hzr:=hf.size
  clear hrow hf
  by_cases hlt:k < l.length
  ·obtain⟨b,off,rfl,hb,hc,hm,hat⟩:=H.out.word (by omega)
   have xw:=F.out.cell (hat k hlt) (by simp)
   have EA:=hid (AT.out k hlt)
   have DK:=hid (fun W (hW:Fr [] w W)=>DI.out W (wd l k) hW)
   unfold maxLen at hm
   clear hat x0 x1 x2
   generalize wd l k=t at *
   generalize (z00 s now t).item=y at *
   go_wp2_with fail
   refine(DK.out _ F.out).mono ?_
   rintro e1 w1 ⟨u,rfl,hu,f1⟩
   have F1:=hid (F.out.trans f1)
   obtain⟨rs,h1,h2,h3⟩:=HR.out
   have R1:=hid h1
   have R2:=hid (show ∀(i:Nat) (x:Itm),((z05 s now l).take k)[i]? = some x→∃cs:List Value,rs[i]? = some cs∧cs.length=5∧z0l w1 B0 (.agg cs.toArray) x from fun i x hx=>by
    obtain⟨cs,q1,q2,q3⟩:=h2 i x hx
    exact⟨cs,q1,q2,q3.go f1⟩)
   have R3:=hid (z0n h3 f1 (by simp))
   have HU:=hid hu
   have hz1':=f1.size
   obtain⟨Y1,y1,Y2,y2,Y3,y3,rfl⟩:=hu.form
   clear h1 h2 h3 hu f1 xw
   have hO1:=hid (z0t (World.ownsRow_lit (base:=w1.heap.size) (e:=43) (size:=5) w1 #[.int .i64 y.kind,.string y.text,.slice Y1 y.list.length y1,.slice Y2 y.pairs.length y2,.slice Y3 y.scores.length y3] 1 (Nat.le_refl _) (by decide) rfl))
   go_wp2_with (at_builtin;go_loud (refine z0i _ rfl _ _ 82 rfl w.heap.size 43 i0 _ 5 96 Tryz.underlying82 hi hz0 hz1 hz2 rfl (by decide) _ _ _ rfl (R3.out.alloc _) _ _ 1 _ rfl hO1.out zti ?c1 ?c2 ?c3 ?_))
   case c1=>unfold maxLen;omega
   case c2=>omega
   case c3=>first|omega|(simp;omega)
   intro v' w5 hown hgrow hat5
   have F5:=hid ((F1.out.alloc (.cells #[.int .i64 y.kind,.string y.text,.slice Y1 y.list.length y1,.slice Y2 y.pairs.length y2,.slice Y3 y.scores.length y3] 43)).grown hgrow (fun j hj=>.inr ((R3.out.lt j hj).1)))
   obtain⟨A5,c5,rfl,-⟩:=z06 hown
   have HR5:=hid (zrt.snoc R1.out R2.out R3.out EA.out rfl HU.out hgrow hown)
   clear hown hgrow hat5
   go_wp2
   go_roundg (l.length - (k+1))
   case measure=>omega
   case rel=>exact⟨k+1,A5,c5,rfl,by omega,rfl,by go_num,HR5.out,F5.out⟩
  ·obtain rfl:k=l.length:=by omega
   have HI:=hid (show z3z wr wr.heap.size (.slice Ao l.length co) (z05 s now l) from by
    have:=HR.out
    rw[←LL.out] at this ⊢
    exact this.items)
   clear x0 x1 x2
   go_wp2
   go_ret
   exact⟨_,rfl,HI.out,F.out⟩
theorem zjj(g B0:Nat)(sv:Value)(now:Int)(lv:Value)(l:List ByteArray)(s:List Ent)(c0:ByteArray)(w:World)(ok:z1m s)(hn:1≤l.length)(h12:l.length≤11)(hz:∀t∈l,t.size≤60)(h:Dr g B0 sv now lv l s w) :
  Calls prog 131 #[.pointer (some ⟨g,0,none⟩),.string ⟨#[115,109,101,109,98,101,114,115]⟩] w (ChD g B0 B0 sv now lv l (doC .smembers s now (c0 :: l)) w):=by
 have hr:=ok.rise
 have hs16:=ok.le
 have DI:=zDI hr hs16 h
 have LS:=hid (z0a (z07 ok) now (wd l 0)).item
 have hzw:∀i,(wd l i).size≤60:=z0s hz
 have EP:doC .smembers s now (c0 :: l)=(s,orR (z25 (z2b z6m (z05 s now l))) (z0u (z05 s now l)) false):=by
  show fin s now (wd l 0) (z00 s now (wd l 0)).item (z00 s now (wd l 0)).til false false (z0u (z05 s now l)) (z25 (z2b z6m (z05 s now l)))=_
  exact z23 _ _ _ _ _ _ _ _
 have IL:=z5c s now l
 have LEN:(z2b z6m (z05 s now l)).length≤1000:=zf7 ok (by omega)
 have DL:=hid (fun(W:World) u (k:Sl W W.heap.size 1 u (z2b z6m (z05 s now l)).length (z03 (z2b z6m (z05 s now l))))=>z2o (z2b z6m (z05 s now l)) u (z0u (z05 s now l)) W LEN k)
 have IT:=hid (fun W (hd:Dr g B0 sv now lv l s W)=>z89 g B0 sv now lv l s W ok h12 hd)
 have OP:=hid (fun(W:World) u (k:z3z W W.heap.size u (z05 s now l))=>zch (z05 s now l) u W W.heap.size (z4v ok now l) (by omega) (Nat.le_refl _) k)
 rw[EP]
 clear EP LEN IL
 have H:=hid h
 have hlt:=h.lt
 have hbz:=h.bz
 obtain⟨SA,sc,rfl⟩:=h.sform
 obtain⟨LA,lc,rfl⟩:=h.lform
 obtain⟨b,off,rfl,hb,hc,hm,hat⟩:=h.word (by omega)
 have HAT:=hid hat
 have DG:=hid (fun W (hW:Fr [] w W)=>(h.go hW).three)
 unfold maxLen at hm
 clear h hr hat hzw ok
 generalize z2b z6m (z05 s now l)=rr at *
 generalize z0u (z05 s now l)=cc at *
 generalize (z00 s now (wd l 0)).item=x at *
 generalize orR (z25 rr) cc false=q9 at *
 have F0:=zF w
 have Q0:=zQ w
 obtain⟨d0,d1,d2⟩:=DG.out _ F0.out
 have dw:=F0.out.cell (HAT.out 0 (by omega)) (by simp)
 rw[Nat.add_zero] at dw
 go_enter Tryz.func131,Tryz.ntmps131
 go_wp2_with fail
 refine(DI.out _ F0.out).mono ?_
 rintro e1 w1 ⟨xv,rfl,hi,f1⟩
 have F1:=hid (F0.out.trans f1)
 have Q1:=hid (Q0.out.fr f1 (by simp))
 have HI:=hid hi
 obtain⟨X1,x1,X2,x2,X3,x3,rfl⟩:=hi.form
 have hz1:=f1.size
 simp at hz1
 clear f1 hi d0 d1 d2 dw
 have C1:=zC1 Q1 HI H F1
 go_wp2_with fail
 refine(IT.out _ C1.out.d).mono ?_
 rintro e2 w2 ⟨u2,rfl,hu2,f2⟩
 have C2:=hid (C1.out.go f2)
 have HU2:=hid hu2
 clear hu2 f2
 go_wp2_with fail
 refine(OP.out _ _ HU2.out).mono ?_
 rintro e3 w3 ⟨u3,rfl,hu3,f3⟩
 have C3:=hid (C2.out.go f3)
 have HU3:=hid (z0t hu3)
 clear hu3 f3
 go_wp2_with fail
 refine(DL.out _ _ HU3.out).mono ?_
 rintro e8 w8 ⟨u8,rfl,hu8,f8⟩
 have C8:=hid (C3.out.go f8)
 have HU8:=hid (hu8.base (show w.heap.size+1≤_ from C3.out.q.lt))
 obtain⟨S,sc9,rfl⟩:=hu8.form
 clear hu8 f8
 obtain⟨y0,y1,y2,y3⟩:=four C8.out.q
 obtain⟨z0,z1,z2,z3⟩:=z0w C8.out.q
 go_wp2
 refine bodyPost_ret (v:=.agg #[.int .i64 q9.kind,.string q9.text,.int .i64 q9.n,.slice S q9.list.length sc9]) (by simp[results,Tryz.results131,go_sem,y0,y1,y2,y3]) rfl ?_
 exact ChD.fin4 HU8.out C8.out.f.up C8.out.q hbz (fun _=>⟨_,C8.out.d⟩)
theorem zne(g B0:Nat)(sv:Value)(now:Int)(lv:Value)(l:List ByteArray)(s:List Ent)(c0:ByteArray)(w:World)(ok:z1m s)(hn:1≤l.length)(h12:l.length≤11)(hz:∀t∈l,t.size≤60)(h:Dr g B0 sv now lv l s w) :
  Calls prog 131 #[.pointer (some ⟨g,0,none⟩),.string ⟨#[115,117,110,105,111,110]⟩] w (ChD g B0 B0 sv now lv l (doC .sunion s now (c0 :: l)) w):=by
 have hr:=ok.rise
 have hs16:=ok.le
 have DI:=zDI hr hs16 h
 have LS:=hid (z0a (z07 ok) now (wd l 0)).item
 have hzw:∀i,(wd l i).size≤60:=z0s hz
 have EP:doC .sunion s now (c0 :: l)=(s,orR (z25 (z2b z6m (z05 s now l))) (z0u (z05 s now l)) false):=by
  show fin s now (wd l 0) (z00 s now (wd l 0)).item (z00 s now (wd l 0)).til false false (z0u (z05 s now l)) (z25 (z2b z6m (z05 s now l)))=_
  exact z23 _ _ _ _ _ _ _ _
 have IL:=z5c s now l
 have LEN:(z2b z6m (z05 s now l)).length≤1000:=zf7 ok (by omega)
 have DL:=hid (fun(W:World) u (k:Sl W W.heap.size 1 u (z2b z6m (z05 s now l)).length (z03 (z2b z6m (z05 s now l))))=>z2o (z2b z6m (z05 s now l)) u (z0u (z05 s now l)) W LEN k)
 have IT:=hid (fun W (hd:Dr g B0 sv now lv l s W)=>z89 g B0 sv now lv l s W ok h12 hd)
 have OP:=hid (fun(W:World) u (k:z3z W W.heap.size u (z05 s now l))=>zch (z05 s now l) u W W.heap.size (z4v ok now l) (by omega) (Nat.le_refl _) k)
 rw[EP]
 clear EP LEN IL
 have H:=hid h
 have hlt:=h.lt
 have hbz:=h.bz
 obtain⟨SA,sc,rfl⟩:=h.sform
 obtain⟨LA,lc,rfl⟩:=h.lform
 obtain⟨b,off,rfl,hb,hc,hm,hat⟩:=h.word (by omega)
 have HAT:=hid hat
 have DG:=hid (fun W (hW:Fr [] w W)=>(h.go hW).three)
 unfold maxLen at hm
 clear h hr hat hzw ok
 generalize z2b z6m (z05 s now l)=rr at *
 generalize z0u (z05 s now l)=cc at *
 generalize (z00 s now (wd l 0)).item=x at *
 generalize orR (z25 rr) cc false=q9 at *
 have F0:=zF w
 have Q0:=zQ w
 obtain⟨d0,d1,d2⟩:=DG.out _ F0.out
 have dw:=F0.out.cell (HAT.out 0 (by omega)) (by simp)
 rw[Nat.add_zero] at dw
 go_enter Tryz.func131,Tryz.ntmps131
 go_wp2_with fail
 refine(DI.out _ F0.out).mono ?_
 rintro e1 w1 ⟨xv,rfl,hi,f1⟩
 have F1:=hid (F0.out.trans f1)
 have Q1:=hid (Q0.out.fr f1 (by simp))
 have HI:=hid hi
 obtain⟨X1,x1,X2,x2,X3,x3,rfl⟩:=hi.form
 have hz1:=f1.size
 simp at hz1
 clear f1 hi d0 d1 d2 dw
 have C1:=zC1 Q1 HI H F1
 go_wp2_with fail
 refine(IT.out _ C1.out.d).mono ?_
 rintro e2 w2 ⟨u2,rfl,hu2,f2⟩
 have C2:=hid (C1.out.go f2)
 have HU2:=hid hu2
 clear hu2 f2
 go_wp2_with fail
 refine(OP.out _ _ HU2.out).mono ?_
 rintro e3 w3 ⟨u3,rfl,hu3,f3⟩
 have C3:=hid (C2.out.go f3)
 have HU3:=hid (z0t hu3)
 clear hu3 f3
 go_wp2_with fail
 refine(DL.out _ _ HU3.out).mono ?_
 rintro e8 w8 ⟨u8,rfl,hu8,f8⟩
 have C8:=hid (C3.out.go f8)
 have HU8:=hid (hu8.base (show w.heap.size+1≤_ from C3.out.q.lt))
 obtain⟨S,sc9,rfl⟩:=hu8.form
 clear hu8 f8
 obtain⟨y0,y1,y2,y3⟩:=four C8.out.q
 obtain⟨z0,z1,z2,z3⟩:=z0w C8.out.q
 go_wp2
 refine bodyPost_ret (v:=.agg #[.int .i64 q9.kind,.string q9.text,.int .i64 q9.n,.slice S q9.list.length sc9]) (by simp[results,Tryz.results131,go_sem,y0,y1,y2,y3]) rfl ?_
 exact ChD.fin4 HU8.out C8.out.f.up C8.out.q hbz (fun _=>⟨_,C8.out.d⟩)
theorem znw(g B0:Nat)(sv:Value)(now:Int)(lv:Value)(l:List ByteArray)(s:List Ent)(c0:ByteArray)(w:World)(ok:z1m s)(hn:1≤l.length)(h12:l.length≤11)(hz:∀t∈l,t.size≤60)(h:Dr g B0 sv now lv l s w) :
  Calls prog 131 #[.pointer (some ⟨g,0,none⟩),.string ⟨#[115,105,110,116,101,114]⟩] w (ChD g B0 B0 sv now lv l (doC .sinter s now (c0 :: l)) w):=by
 have hr:=ok.rise
 have hs16:=ok.le
 have DI:=zDI hr hs16 h
 have LS:=hid (z0a (z07 ok) now (wd l 0)).item
 have hzw:∀i,(wd l i).size≤60:=z0s hz
 have EP:doC .sinter s now (c0 :: l)=(s,orR (z25 (z2b (zaq (z05 s now l).length) (z05 s now l))) (z0u (z05 s now l)) false):=by
  show fin s now (wd l 0) (z00 s now (wd l 0)).item (z00 s now (wd l 0)).til false false (z0u (z05 s now l)) (z25 (z2b (zaq (z05 s now l).length) (z05 s now l)))=_
  exact z23 _ _ _ _ _ _ _ _
 have IL:=z5c s now l
 have LEN:(z2b (zaq (z05 s now l).length) (z05 s now l)).length≤1000:=zf7 ok (by omega)
 have DL:=hid (fun(W:World) u (k:Sl W W.heap.size 1 u (z2b (zaq (z05 s now l).length) (z05 s now l)).length (z03 (z2b (zaq (z05 s now l).length) (z05 s now l))))=>z2o (z2b (zaq (z05 s now l).length) (z05 s now l)) u (z0u (z05 s now l)) W LEN k)
 have IT:=hid (fun W (hd:Dr g B0 sv now lv l s W)=>z89 g B0 sv now lv l s W ok h12 hd)
 have OP:=hid (fun(W:World) u (k:z3z W W.heap.size u (z05 s now l))=>zjo (z05 s now l) u W W.heap.size (z4v ok now l) (by omega) (Nat.le_refl _) k)
 rw[EP]
 clear EP LEN IL
 have H:=hid h
 have hlt:=h.lt
 have hbz:=h.bz
 obtain⟨SA,sc,rfl⟩:=h.sform
 obtain⟨LA,lc,rfl⟩:=h.lform
 obtain⟨b,off,rfl,hb,hc,hm,hat⟩:=h.word (by omega)
 have HAT:=hid hat
 have DG:=hid (fun W (hW:Fr [] w W)=>(h.go hW).three)
 unfold maxLen at hm
 clear h hr hat hzw ok
 generalize z2b (zaq (z05 s now l).length) (z05 s now l)=rr at *
 generalize z0u (z05 s now l)=cc at *
 generalize (z00 s now (wd l 0)).item=x at *
 generalize orR (z25 rr) cc false=q9 at *
 have F0:=zF w
 have Q0:=zQ w
 obtain⟨d0,d1,d2⟩:=DG.out _ F0.out
 have dw:=F0.out.cell (HAT.out 0 (by omega)) (by simp)
 rw[Nat.add_zero] at dw
 go_enter Tryz.func131,Tryz.ntmps131
 go_wp2_with fail
 refine(DI.out _ F0.out).mono ?_
 rintro e1 w1 ⟨xv,rfl,hi,f1⟩
 have F1:=hid (F0.out.trans f1)
 have Q1:=hid (Q0.out.fr f1 (by simp))
 have HI:=hid hi
 obtain⟨X1,x1,X2,x2,X3,x3,rfl⟩:=hi.form
 have hz1:=f1.size
 simp at hz1
 clear f1 hi d0 d1 d2 dw
 have C1:=zC1 Q1 HI H F1
 go_wp2_with fail
 refine(IT.out _ C1.out.d).mono ?_
 rintro e2 w2 ⟨u2,rfl,hu2,f2⟩
 have C2:=hid (C1.out.go f2)
 have HU2:=hid hu2
 clear hu2 f2
 go_wp2_with fail
 refine(OP.out _ _ HU2.out).mono ?_
 rintro e3 w3 ⟨u3,rfl,hu3,f3⟩
 have C3:=hid (C2.out.go f3)
 have HU3:=hid (z0t hu3)
 clear hu3 f3
 go_wp2_with fail
 refine(DL.out _ _ HU3.out).mono ?_
 rintro e8 w8 ⟨u8,rfl,hu8,f8⟩
 have C8:=hid (C3.out.go f8)
 have HU8:=hid (hu8.base (show w.heap.size+1≤_ from C3.out.q.lt))
 obtain⟨S,sc9,rfl⟩:=hu8.form
 clear hu8 f8
 obtain⟨y0,y1,y2,y3⟩:=four C8.out.q
 obtain⟨z0,z1,z2,z3⟩:=z0w C8.out.q
 go_wp2
 refine bodyPost_ret (v:=.agg #[.int .i64 q9.kind,.string q9.text,.int .i64 q9.n,.slice S q9.list.length sc9]) (by simp[results,Tryz.results131,go_sem,y0,y1,y2,y3]) rfl ?_
 exact ChD.fin4 HU8.out C8.out.f.up C8.out.q hbz (fun _=>⟨_,C8.out.d⟩)
theorem ztb(g B0:Nat)(sv:Value)(now:Int)(lv:Value)(l:List ByteArray)(s:List Ent)(c0:ByteArray)(w:World)(ok:z1m s)(hn:1≤l.length)(h12:l.length≤11)(hz:∀t∈l,t.size≤60)(h:Dr g B0 sv now lv l s w) :
  Calls prog 131 #[.pointer (some ⟨g,0,none⟩),.string ⟨#[115,100,105,102,102]⟩] w (ChD g B0 B0 sv now lv l (doC .sdiff s now (c0 :: l)) w):=by
 have hr:=ok.rise
 have hs16:=ok.le
 have DI:=zDI hr hs16 h
 have LS:=hid (z0a (z07 ok) now (wd l 0)).item
 have hzw:∀i,(wd l i).size≤60:=z0s hz
 have EP:doC .sdiff s now (c0 :: l)=(s,orR (z25 (z2b z8k (z05 s now l))) (z0u (z05 s now l)) false):=by
  show fin s now (wd l 0) (z00 s now (wd l 0)).item (z00 s now (wd l 0)).til false false (z0u (z05 s now l)) (z25 (z2b z8k (z05 s now l)))=_
  exact z23 _ _ _ _ _ _ _ _
 have IL:=z5c s now l
 have LEN:(z2b z8k (z05 s now l)).length≤1000:=zf7 ok (by omega)
 have DL:=hid (fun(W:World) u (k:Sl W W.heap.size 1 u (z2b z8k (z05 s now l)).length (z03 (z2b z8k (z05 s now l))))=>z2o (z2b z8k (z05 s now l)) u (z0u (z05 s now l)) W LEN k)
 have IT:=hid (fun W (hd:Dr g B0 sv now lv l s W)=>z89 g B0 sv now lv l s W ok h12 hd)
 have OP:=hid (fun(W:World) u (k:z3z W W.heap.size u (z05 s now l))=>zjt (z05 s now l) u W W.heap.size (z4v ok now l) (by omega) (Nat.le_refl _) k)
 rw[EP]
 clear EP LEN IL
 have H:=hid h
 have hlt:=h.lt
 have hbz:=h.bz
 obtain⟨SA,sc,rfl⟩:=h.sform
 obtain⟨LA,lc,rfl⟩:=h.lform
 obtain⟨b,off,rfl,hb,hc,hm,hat⟩:=h.word (by omega)
 have HAT:=hid hat
 have DG:=hid (fun W (hW:Fr [] w W)=>(h.go hW).three)
 unfold maxLen at hm
 clear h hr hat hzw ok
 generalize z2b z8k (z05 s now l)=rr at *
 generalize z0u (z05 s now l)=cc at *
 generalize (z00 s now (wd l 0)).item=x at *
 generalize orR (z25 rr) cc false=q9 at *
 have F0:=zF w
 have Q0:=zQ w
 obtain⟨d0,d1,d2⟩:=DG.out _ F0.out
 have dw:=F0.out.cell (HAT.out 0 (by omega)) (by simp)
 rw[Nat.add_zero] at dw
 go_enter Tryz.func131,Tryz.ntmps131
 go_wp2_with fail
 refine(DI.out _ F0.out).mono ?_
 rintro e1 w1 ⟨xv,rfl,hi,f1⟩
 have F1:=hid (F0.out.trans f1)
 have Q1:=hid (Q0.out.fr f1 (by simp))
 have HI:=hid hi
 obtain⟨X1,x1,X2,x2,X3,x3,rfl⟩:=hi.form
 have hz1:=f1.size
 simp at hz1
 clear f1 hi d0 d1 d2 dw
 have C1:=zC1 Q1 HI H F1
 go_wp2_with fail
 refine(IT.out _ C1.out.d).mono ?_
 rintro e2 w2 ⟨u2,rfl,hu2,f2⟩
 have C2:=hid (C1.out.go f2)
 have HU2:=hid hu2
 clear hu2 f2
 go_wp2_with fail
 refine(OP.out _ _ HU2.out).mono ?_
 rintro e3 w3 ⟨u3,rfl,hu3,f3⟩
 have C3:=hid (C2.out.go f3)
 have HU3:=hid (z0t hu3)
 clear hu3 f3
 go_wp2_with fail
 refine(DL.out _ _ HU3.out).mono ?_
 rintro e8 w8 ⟨u8,rfl,hu8,f8⟩
 have C8:=hid (C3.out.go f8)
 have HU8:=hid (hu8.base (show w.heap.size+1≤_ from C3.out.q.lt))
 obtain⟨S,sc9,rfl⟩:=hu8.form
 clear hu8 f8
 obtain⟨y0,y1,y2,y3⟩:=four C8.out.q
 obtain⟨z0,z1,z2,z3⟩:=z0w C8.out.q
 go_wp2
 refine bodyPost_ret (v:=.agg #[.int .i64 q9.kind,.string q9.text,.int .i64 q9.n,.slice S q9.list.length sc9]) (by simp[results,Tryz.results131,go_sem,y0,y1,y2,y3]) rfl ?_
 exact ChD.fin4 HU8.out C8.out.f.up C8.out.q hbz (fun _=>⟨_,C8.out.d⟩)
end Go.Proofs.YtamgdmiopinidaaGreatDoor
