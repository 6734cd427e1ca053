/- Contracts that the proof of E3 uses. No condition beyond those in each theorem. -/
import Derived.Test.YtamgdmiopinidaaGreatDoorSlE339
set_option linter.unusedVariables false
set_option linter.unusedSimpArgs false
set_option maxHeartbeats 8000000
set_option maxRecDepth 100000
namespace Go.Proofs.YtamgdmiopinidaaGreatDoor
open Lib (hid)
open Go.Proofs.Tryz (prog)
open Go.RowKit
def RawN(l:List Ent)(base:Nat)(v:Value)(w:World)(r:Ending)(w':World):Prop:=∃u,r=.returned (.tuple #[u,.int .i64 0])∧z1w w' base u l∧Fr (z2l v) w w'∧∀k,k∈z2l u→k∈z2l v∨w.heap.size≤k
theorem zf8(l:List Ent)(v:Value)(now:Int)(s:ByteArray)(x:Itm)(xv:Value)(u:Int)(base:Nat)(w:World)(hr:rises (ltK Ent.key) l=true)(hl:l.length≤1000)(hsx:x.Small)(hn:z0o x=true)(h:z1w w base v l)(hx:z0l w base xv x)(hb:base≤w.heap.size) :
  Calls prog 108 #[v,.int .i64 now,.string s,xv,.int .i64 u] w (RawN (z2m l s) base v w):=by
 obtain⟨A,c,rfl⟩:=h.form
 obtain⟨X1,x1,X2,x2,X3,x3,rfl⟩:=hx.form
 have D0:=hid (BX.new w (.int .i64 x.kind) (.string x.text) (.slice X1 x.list.length x1) (.slice X2 x.pairs.length x2) (.slice X3 x.scores.length x3))
 have FD:=hid (fun W (hW:Fr [] w W)=>z9w l s A c w.heap.size W hr (by omega) hW.size ((h.v.fr hW (Nat.le_refl _) (by simp))))
 unfold z4g at FD
 have HO:=hid h
 have HX:=hid hx
 have HSX:=hid hsx
 have HKL:=hid (zr0 hr s)
 have HKE:=hid (z5b Ent.key (z2m l s) s)
 have LOFF:=zn7 l s
 have HLT:∀k,k∈z2l (.slice A l.length c)→k < w.heap.size:=fun k hk=>by
  obtain⟨rs0,_,_,h30⟩:=h
  exact zey h30 k hk
 have HLT2:=hid HLT
 have HR:=hid hr
 clear h hx hsx HLT hr
 go_enter Tryz.func108,Tryz.ntmps108
 go_wp2_with fail
 refine(FD.out _ D0.out.f).mono ?_
 rintro e1 w1 ⟨rfl,f1⟩
 have D1:=hid (D0.out.go f1)
 have HO1:=hid (HO.out.fr D1.out.f)
 have HX1:=hid (HX.out.go D1.out.f)
 clear f1
 go_upto_if 20 with fail
 go_cut [0,13] (fun sv _ wx=>CutR (z2m l s) base (.slice A l.length c) (.agg #[.int .i64 x.kind,.string x.text,.slice X1 x.list.length x1,.slice X2 x.pairs.length x2,.slice X3 x.scores.length x3]) x [.int .i64 x.kind,.string x.text,.slice X1 x.list.length x1,.slice X2 x.pairs.length x2,.slice X3 x.scores.length x3] w sv wx)
 case first=>
  rcases hh:z5r Ent.key l s with _|_
  ·have E:=hid (zff HR.out hh)
   go_wp2
   go_meet
   case rel=>
    rw[E.out]
    exact⟨A,c,rfl,HO1.out,D1.out.f.up,fun k hk=>.inl hk,D1.out.b,HX1.out⟩
  ·have E:=hid (zic HR.out hh)
   have hkl:z1z Ent.key l s < l.length:=by
    obtain⟨e,he,_⟩:=(z36 Ent.key).1 hh
    exact(List.getElem?_eq_some_iff.1 he).1
   have DE:=hid (znx l (z1z Ent.key l s) base (.slice A l.length c) w1 (by omega) hkl HO1.out)
   rw[←E.out] at DE
   generalize z1z Ent.key l s=k at *
   go_wp2_with fail
   refine DE.out.mono ?_
   rintro e2 w2 ⟨v2,rfl,ho,f2,hb2⟩
   obtain⟨A2,c2,hv2⟩:=ho.form
   have HH:=hid (show CutR (z2m l s) base (.slice A l.length c) (.agg #[.int .i64 x.kind,.string x.text,.slice X1 x.list.length x1,.slice X2 x.pairs.length x2,.slice X3 x.scores.length x3]) x [.int .i64 x.kind,.string x.text,.slice X1 x.list.length x1,.slice X2 x.pairs.length x2,.slice X3 x.scores.length x3] w v2 w2 from by
    subst hv2
    obtain⟨rs1,_,_,hr1⟩:=HO1.out
    exact⟨A2,c2,rfl,ho,D1.out.f.up.trans f2,fun q hq=>(hb2 q hq).imp id (fun h=>Nat.le_trans D1.out.f.size h),D1.out.b.fr f2 (fun hm=>by have:=HLT2.out _ hm;omega),zcz HX1.out hr1 z2y f2⟩)
   clear ho f2 hb2 hv2
   go_wp2
   go_meet
   case rel=>exact HH.out
 case rest=>
  obtain⟨A2,c2,rfl,ho,f2,hb2,hbx,hix⟩:=hcut
  have HO2:=hid ho
  have F2:=hid f2
  have HB2:=hid hb2
  have BX2:=hid hbx
  have HX2:=hid hix
  have hz2:=hbx.lt
  clear ho f2 hb2 hbx hix FD HO HO1 HX HX1 D0 D1
  obtain⟨d0,d1,d2,d3,d4⟩:=five BX2.out
  have NO:=hid (z6i x (.agg #[.int .i64 x.kind,.string x.text,.slice X1 x.list.length x1,.slice X2 x.pairs.length x2,.slice X3 x.scores.length x3]) _ _ HSX.out (Nat.le_refl _) HX2.out.item)
  rw[hn] at NO
  clear hn
  go_wp2_with fail
  refine NO.out.mono ?_
  rintro e3 w3 ⟨rfl,f3⟩
  have F3:=hid f3
  clear f3
  go_wp2
  go_ret2
  exact⟨_,rfl,HO2.out.fr F3.out,F2.out.trans F3.out.up,HB2.out⟩
def PutN(g B0:Nat)(sv:Value)(now:Int)(lv:Value)(l:List ByteArray)(s':List Ent)(w:World)(e:Ending)(w':World):Prop:=
 e=.returned (.int .i64 0)∧Fr (g :: z2l sv) w w'∧∃sv',Dr g B0 sv' now lv l s' w'∧∀k,k∈z2l sv'→k∈z2l sv∨w.heap.size≤k
theorem zod(g B0:Nat)(sv:Value)(now:Int)(lv:Value)(l:List ByteArray)(s:List Ent)(k:ByteArray)(w:World)(hr:rises (ltK Ent.key) s=true)(hl:s.length≤1000)(h:Dr g B0 sv now lv l s w) :
  Calls prog 167 #[.pointer (some ⟨g,0,none⟩),.string k,.agg #[.int .i64 0,.string ⟨#[]⟩,.slice none 0 0,.slice none 0 0,.slice none 0 0],.int .i64 0] w (PutN g B0 sv now lv l (z2m s k) w):=by
 have RW:=hid (fun W (hW:Fr [] w W)=>zf8 s sv now k (z2r 0) (.agg #[.int .i64 0,.string ⟨#[]⟩,.slice none 0 0,.slice none 0 0,.slice none 0 0]) 0 B0 W hr hl z6j z26 (h.e.fr hW) (z0l.nothing _ _) (Nat.le_trans h.bz hW.size))
 have F0:=hid ((Fr.refl [] w).alloc (.cells #[.int .i64 0,.string ⟨#[]⟩,.slice none 0 0,.slice none 0 0,.slice none 0 0] 43))
 have W0:=hid (Whole.new w 43 [.int .i64 0,.string ⟨#[]⟩,.slice none 0 0,.slice none 0 0,.slice none 0 0])
 have H:=hid h
 have hoff:=h.off
 have hlow:=h.low
 have hwz:w.heap.size∉z2l sv:=fun hm=>by have:=(hlow _ (.tail _ hm)).2;omega
 have OFF:=hid hoff
 have OFZ:=hid hwz
 have hlt:=h.lt
 have hbz:=h.bz
 obtain⟨SA,sc,rfl⟩:=h.sform
 obtain⟨d0,d1,d2⟩:=(h.go F0.out).three
 obtain⟨a0,a1,a2,a3,a4⟩:=five W0.out
 clear d2 h hr hoff hlow hwz
 generalize z2m s k=s' at *
 go_enter Tryz.func167,Tryz.ntmps167
 go_wp2
 go_region_held3 (fun wx=>wx.cell? ⟨g,0,none⟩=some (.slice SA s.length sc)∧wx.cell? ⟨g,1,none⟩=some (.int .i64 now)∧wx.cell? ⟨w.heap.size,0,none⟩=some (.int .i64 0)∧wx.cell? ⟨w.heap.size,1,none⟩=some (.string ⟨#[]⟩)∧wx.cell? ⟨w.heap.size,2,none⟩=some (.slice none 0 0)∧wx.cell? ⟨w.heap.size,3,none⟩=some (.slice none 0 0)∧wx.cell? ⟨w.heap.size,4,none⟩=some (.slice none 0 0)) (go_keep) ((go_at_call 108;refine(RW.out _ F0.out.drew).mono ?_;rintro e1 w1 ⟨uv,rfl,he,f1,fo⟩;have FO:=hid fo;have F1:=hid (F0.out.up.trans f1.dr);have W1:=hid (W0.out.fr f1.dr OFZ.out);have W2:=hid ((H.out.go F0.out).d.fr f1.dr OFF.out);obtain⟨UA,uc,rfl⟩:=he.form;have HE:=hid he;clear he f1 fo d0 d1 a0 a1 a2 a3 a4;obtain⟨a0,a1,a2,a3,a4⟩:=five W1.out;have d0:=W2.out.cell 0;have d1:=W2.out.cell 1))
 have D1:=W2.out
 have hlt2:=D1.lt
 obtain⟨y0,y1,y2⟩:w1.cell? ⟨g,0,none⟩=some (.slice SA s.length sc)∧w1.cell? ⟨g,1,none⟩=some (.int .i64 now)∧w1.cell? ⟨g,2,none⟩=some lv:=⟨D1.cell 0,D1.cell 1,D1.cell 2⟩
 have y3:=D1.frozen 0
 clear d0 d1 a0 a1 a2 a3 a4
 go_wp2
 go_ret
 refine⟨rfl,(zd2 F1.out).setCell (p:=⟨g,0,none⟩) (.inl (.head _)) _,_,⟨D1.set_ 0 _,HE.out.setW D1 (by decide) _,?_,H.out.gb⟩,fun j hj=>(FO.out j hj).imp id (fun h=>Nat.le_trans (Nat.le_succ _) (by simpa using h))⟩
 exact H.out.l.fr ((zd2 F1.out).setCell (p:=⟨g,0,none⟩) (.inl (.head _)) _) hbz (fun j hj=>(H.out.low j hj).1)
theorem zpj(g B0 q:Nat)(sv:Value)(now:Int)(lv:Value)(l:List ByteArray)(s:List Ent)(k:ByteArray)(w:World)(hr:rises (ltK Ent.key) s=true)(hl:s.length≤1000)(h:Dr g B0 sv now lv l s w)(hq:Whole w q 115 [.pointer (some ⟨g,0,none⟩)]) :
  Calls prog 176 (#[.string k]++#[.pointer (some ⟨q,0,none⟩)]) w fun e w'=>e=.returned (.bool (z1a s now k))∧Fr (g :: z2l sv) w w'∧∃sv',Dr g B0 sv' now lv l (z2m s k) w'∧∀k,k∈z2l sv'→k∈z2l sv∨w.heap.size≤k:=by
 have TH:=hid (zej g B0 sv now lv l s k w hr hl h)
 have PN:=hid (fun W (hd:Dr g B0 sv now lv l s W)=>zod g B0 sv now lv l s k W hr hl hd)
 have H:=hid h
 have HQ:=hid hq
 have p0:=hq.cell 0
 have hz:=hq.lt
 clear h hq hr
 generalize z1a s now k=bb at *
 generalize z2m s k=s' at *
 go_enter Tryz.func176,Tryz.ntmps176
 go_wp2_with fail
 refine TH.out.mono ?_
 rintro e1 w1 ⟨rfl,f1⟩
 have F1:=hid f1
 have p1:=(HQ.out.fr f1 (by simp)).cell 0
 clear f1 p0
 go_wp2_with fail
 refine(PN.out _ (H.out.go F1.out)).mono ?_
 rintro e2 w2 ⟨rfl,f2,sv2,hd2,ho2⟩
 have F2:=hid (F1.out.up.trans f2)
 have HD2:=hid hd2
 have HO2:=hid ho2
 clear f2 hd2 ho2 p1
 go_wp2
 go_ret
 exact⟨rfl,F2.out,sv2,HD2.out,fun j hj=>(HO2.out j hj).imp id (fun h=>Nat.le_trans F1.out.size h)⟩
theorem zjq{p:ByteArray→Bool}{l:List ByteArray}{k:Nat}{t:ByteArray}(h:l[k]? = some t):((l.take (k+1)).filter p).length=((l.take k).filter p).length+if p t=true then 1 else 0:=by
 rw[List.take_add_one,h]
 simp only[Option.toList_some,List.filter_append,List.length_append,List.filter_cons,List.filter_nil]
 split <;> simp
theorem zgb(g B0:Nat)(sv:Value)(now:Int)(lv:Value)(l:List ByteArray)(s:List Ent)(w:World)(hr:rises (ltK Ent.key) s=true)(hl:s.length≤1000)(h12:l.length≤11)(h:Dr g B0 sv now lv l s w) :
  Calls prog 175 #[.pointer (some ⟨g,0,none⟩),.func (Fn.func 177) #[.pointer (some ⟨g,0,none⟩)] #[]] w (zh6 3 ⟨#[]⟩ ((l.filter fun k=>z1a s now k).length:Nat) w):=by
 have TH:=hid (fun W k (hW:Fr [] w W)=>zej g B0 sv now lv l s k W hr hl (h.go hW))
 have H:=hid h
 have hbz:=h.bz
 obtain⟨LA,lc,rfl⟩:=h.lform
 obtain⟨x0,x1,x2⟩:=(h.go ((Fr.refl [] w).alloc (.cells #[.int .i64 0,.string ⟨#[]⟩,.int .i64 0,.slice none 0 0] 27))).three
 have F0:=zF w
 have Q0:=zQ w
 have HT:=hid (fun k t (hk:l[k]? = some t)=>zjq (p:=fun k=>z1a s now k) hk)
 clear h hr
 go_enter Tryz.func175,Tryz.ntmps175
 go_wp2
 go_loopg [5,13] l.length (fun y n i wr=>∃(k:Nat),y=l.length - k∧k≤l.length∧n=.int .i64 (((l.take k).filter fun k=>z1a s now k).length:Nat)∧i=.int .i64 k∧Whole wr w.heap.size 27 [.int .i64 0,.string ⟨#[]⟩,.int .i64 0,.slice none 0 0]∧Fr [] w wr)
 case atStart=>exact⟨0,rfl,Nat.zero_le _,rfl,rfl,Q0.out,F0.out⟩
 case round=>
  obtain⟨k,rfl,hk,rfl,rfl,hq,hf⟩:=hrel
  have Q:=hid hq
  have F:=hid hf
  clear hq hf x0 x1 x2
  have hcl:((l.take k).filter fun k=>z1a s now k).length≤k:=Nat.le_trans (List.length_filter_le _ _) (by simp;omega)
  by_cases hlt:k < l.length
  ·obtain⟨b,off,rfl,hb,hc,hm,hat⟩:=H.out.word (by omega)
   have xw:=F.out.cell (hat k hlt) (by simp)
   have EK:l[k]? = some (wd l k):=by unfold wd;rw[List.getD_eq_getElem?_getD,List.getElem?_eq_getElem hlt];rfl
   have HT2:=hid (HT.out k _ EK)
   have TK:=hid (fun W (hW:Fr [] w W)=>TH.out W (wd l k) hW)
   unfold maxLen at hm
   clear hat EK
   generalize wd l k=t at *
   generalize hlb:z1a s now t=bb at *
   generalize ((l.take k).filter fun k=>z1a s now k).length=nn at *
   clear hlb
   go_wp2_with fail
   refine(TK.out _ F.out).mono ?_
   rintro e1 w1 ⟨rfl,f1⟩
   have F1:=hid (F.out.trans f1)
   have Q1:=hid (Q.out.fr f1 (by simp))
   clear f1 xw
   rcases bb with _|_
   all_goals
    go_wp2
    go_roundg (l.length - (k+1))
    case measure=>omega
    case rel=>exact⟨k+1,rfl,by omega,by rw[HT2.out];first|rfl|go_num,by go_num,Q1.out,F1.out⟩
  ·obtain rfl:k=l.length:=by omega
   go_wp2_with fail
   refine(z0j _ _).mono ?_
   rintro e1 w1 ⟨rfl,f1⟩
   have F1:=hid (F.out.trans f1)
   have Q1:=hid (Q.out.fr f1 (by simp))
   have ET:=hid (show(l.take l.length).filter (fun k=>z1a s now k)=l.filter (fun k=>z1a s now k) from by rw[List.take_length])
   rw[ET.out]
   clear f1
   obtain⟨y0,y1,y2,y3⟩:=four Q1.out
   obtain⟨z0,z1,z2,z3⟩:=z0w Q1.out
   go_wp2
   refine bodyPost_ret (v:=.agg #[.int .i64 3,.string ⟨#[]⟩,.int .i64 ((l.filter fun k=>z1a s now k).length:Nat),.slice none 0 0]) (by simp[results,Tryz.results175,go_sem,y0,y1,y2,y3]) rfl ?_
   exact⟨rfl,z1o F1.out (Nat.le_refl _) _ _ _ _⟩
theorem zmm(g B0:Nat)(sv:Value)(now:Int)(lv:Value)(l:List ByteArray)(s:List Ent)(c0:ByteArray)(w:World)(ok:z1m s)(hn:1≤l.length)(h12:l.length≤11)(hz:∀t∈l,t.size≤60)(h:Dr g B0 sv now lv l s w) :
  Calls prog 129 #[.pointer (some ⟨g,0,none⟩),.string ⟨#[101,120,105,115,116,115]⟩] w (ChD g B0 B0 sv now lv l (doC .exists_ s now (c0 :: l)) w):=by
 have hr:=ok.rise
 have hs16:=ok.le
 have DI:=zDI hr hs16 h
 have LS:=hid (z0a (z07 ok) now (wd l 0)).item
 have hzw:∀i,(wd l i).size≤60:=z0s hz
 have EP:doC .exists_ s now (c0 :: l)=(s,z0h ((l.filter fun k=>z1a s now k).length:Nat)):=by
  show(s,z0h (((l.filter fun k=>z3x s now k).length:Nat)))=_
  have:(fun k=>z3x s now k)=fun k=>z1a s now k:=funext fun k=>(z2u ok now k).symm
  rw[this]
 have DT:=hid (fun W (hW:Fr [] w W)=>zgb g B0 sv now lv l s W hr (by omega) h12 (h.go hW))
 rw[EP]
 clear EP
 generalize (l.filter fun k=>z1a s now k).length=nn at *
 have LK:=hid (fun W (hW:Fr [] w W)=>z1g s sv now (wd l 0) W B0 hr (by omega) (h.e.fr hW))
 have H:=hid h
 have hlt:=h.lt
 have hbz:=h.bz
 obtain⟨SA,sc,rfl⟩:=h.sform
 obtain⟨LA,lc,rfl⟩:=h.lform
 obtain⟨b,off,rfl,hb,hc,hm,hat⟩:=h.word (by omega)
 have HAT:=hid hat
 have DG:=hid (fun W (hW:Fr [] w W)=>(h.go hW).three)
 unfold maxLen at hm
 clear h hr hat hzw ok
 generalize z00 s now (wd l 0)=y at *
 generalize z1a s now (wd l 0)=bb at *
 have ix0:(0:Int) < (l.length:Int):=by omega
 clear DI
 have F0:=zF2 w g
 have P0:=zP0 w g
 have Q0:=zQ0 w g
 have F1:=hid (F0.out.alloc (.cells #[.string ⟨#[]⟩,.int .i64 0,.string ⟨#[]⟩,.slice none 0 0,.slice none 0 0,.slice none 0 0,.int .i64 0] 45))
 have V1:=zV1 w g
 have hn1:¬g=w.heap.size+1+1:=by omega
 have hn2:¬w.heap.size+1+1=g:=by omega
 have hn3:¬b=w.heap.size+1+1:=by omega
 have hn4:¬w.heap.size+1+1=b:=by omega
 have hn5:¬w.heap.size=w.heap.size+1+1:=by omega
 have hn6:¬w.heap.size+1+1=w.heap.size:=by omega
 have ix0n:0 < l.length:=by omega
 have p0:=P0.out.cell 0
 have p1:=(P0.out.alloc (.cells #[.string ⟨#[]⟩,.int .i64 0,.string ⟨#[]⟩,.slice none 0 0,.slice none 0 0,.slice none 0 0,.int .i64 0] 45)).cell 0
 obtain⟨d0,d1,d2⟩:=DG.out _ F0.out
 obtain⟨d3,d4,d5⟩:=DG.out _ F1.out
 have d6:=F0.out.cell (HAT.out 0 (by omega)) (by simp)
 have d7:=F1.out.cell (HAT.out 0 (by omega)) (by simp)
 rw[Nat.add_zero] at d6 d7
 go_enter Tryz.func129,Tryz.ntmps129
 go_upto_region 1 with fail
 go_cut [5,6] (fun pb po wx=>po=.bool bb∧z87 B0 y ((w.alloc (.cells #[.pointer (some ⟨g,0,none⟩)] 115)).alloc (.cells #[.int .i64 0,.string ⟨#[]⟩,.int .i64 0,.slice none 0 0] 27)) pb wx)
 case first=>
  go_region_held3 (fun wx=>wx.cell? ⟨w.heap.size,0,none⟩=some (.pointer (some ⟨g,0,none⟩))∧wx.cell? ⟨g,0,none⟩=some (.slice SA s.length sc)∧wx.cell? ⟨g,1,none⟩=some (.int .i64 now)∧wx.cell? ⟨g,2,none⟩=some (.slice (some ⟨b,off,none⟩) l.length lc)∧wx.cell? ⟨b,off,none⟩=some (.string (wd l 0))) (go_keep) ((go_at_call 105;first|(refine(LK.out _ F0.out.drew).mono ?_;rintro e1 w1 ⟨A1,c1,A2,c2,A3,c3,rfl,hc,f1⟩;have F2:=hid (z01 f1);have F3:=hid (F0.out.trans F2.out);have HC:=hid hc;obtain⟨z0,z1,z2⟩:=DG.out _ F3.out;have z3:=F3.out.cell (HAT.out 0 (by omega)) (by simp);rw[Nat.add_zero] at z3;have z4:=(P0.out.fr F2.out (by simp)).cell 0;clear f1 hc)|(refine(LK.out _ F1.out.drew).mono ?_;rintro e1 w1 ⟨A1,c1,A2,c2,A3,c3,rfl,hc,f1⟩;have F2:=hid (z2g (z01 f1));have F3:=hid (F1.out.trans (z01 f1));have HC:=hid hc;have V2:=hid (V1.out.fr (z01 f1) (by simp));obtain⟨z0,z1,z2⟩:=DG.out _ F3.out;have z3:=F3.out.cell (HAT.out 0 (by omega)) (by simp);rw[Nat.add_zero] at z3;have z4:=((P0.out.alloc (.cells #[.string ⟨#[]⟩,.int .i64 0,.string ⟨#[]⟩,.slice none 0 0,.slice none 0 0,.slice none 0 0,.int .i64 0] 45)).fr (z01 f1) (by simp)).cell 0;have y7:=seven V2.out;have z7:=z3p V2.out;clear f1 hc)))
  all_goals
   go_wp2
   go_meet
   case rel=>first|with_reducible exact⟨rfl,z87.new HC.out F2.out⟩|exact⟨rfl,z87.put HC.out F2.out (by simp) V2.out⟩
 clear d0 d1 d2 d3 d4 d5 d6 d7 p0 p1
 obtain⟨rfl,gb,A1,c1,A2,c2,A3,c3,rfl,hgb,hw,hc,hf⟩:=hcut
 have HC:=hid hc
 have hgb2:w.heap.size+1 < gb:=by simp at hgb;omega
 have KW:=zKW H P0 Q0 F0 hf hw hgb2
 clear hf hw hc hgb hn1 hn2 hn3 hn4 hn5 hn6
 have p0:=(KW.out.bl _ (.head _)).cell 0
 go_wp2_with fail
 refine(DT.out _ KW.out.f).mono ?_
 rintro e8 w8 ⟨rfl,f8⟩
 have K8:=hid (KW.out.go f8)
 clear f8 p0
 obtain⟨y0,y1,y2,y3⟩:=four (K8.out.bl _ (.tail _ (.head _)))
 obtain⟨z0,z1,z2,z3⟩:=z0w (K8.out.bl _ (.tail _ (.head _)))
 go_wp2
 refine bodyPost_ret (v:=.agg #[.int .i64 3,.string ⟨#[]⟩,.int .i64 (nn:Int),.slice none 0 0]) (by simp[results,Tryz.results129,go_sem,y0,y1,y2,y3]) rfl ?_
 exact ChD.fin4o (r:=z0h (nn:Int)) (Nat.le_succ _) (z1f.bare _ _ _ _ _) K8.out.f.up (K8.out.bl _ (.tail _ (.head _))) hbz (fun _=>⟨_,K8.out.d⟩)
theorem zy2{s:List Ent}(h:z1m s)(k:ByteArray):z1m (z2m s k):=z4d h _
theorem zo9(now:Int)(l:List ByteArray)(k:Nat)(t:ByteArray)(ht:l[k]? = some t)(s:List Ent)(n:Nat)(ok:z1m s):z8c now (l.drop k) s n=z8c now (l.drop (k+1)) (z2m s t) (n+if z1a s now t=true then 1 else 0):=by
 have hk:=(List.getElem?_eq_some_iff.1 ht).1
 have:l.drop k=t :: l.drop (k+1):=by rw[List.drop_eq_getElem_cons hk,(List.getElem?_eq_some_iff.1 ht).2]
 rw[this]
 show z8c now (l.drop (k+1)) (z5l s now t (z2r 0) 0) (n+if z3x s now t=true then 1 else 0)=_
 rw[(z9l s now t 0).1,z2u ok now t]
 rfl
def zui(g B0:Nat)(sv:Value)(now:Int)(lv:Value)(l:List ByteArray)(s:List Ent)(w:World)(e:Ending)(w':World):Prop:=
 e=.returned (.agg #[.int .i64 3,.string ⟨#[]⟩,.int .i64 ((z8c now l s 0).2:Nat),.slice none 0 0])∧Fr (g :: z2l sv) w w'∧∃sv',Dr g B0 sv' now lv l (z8c now l s 0).1 w'
theorem zm4(g B0 q:Nat)(sv:Value)(now:Int)(lv:Value)(l:List ByteArray)(s:List Ent)(w:World)(ok:z1m s)(h12:l.length≤11)(h:Dr g B0 sv now lv l s w)(hq:Whole w q 115 [.pointer (some ⟨g,0,none⟩)])(hqs:q∉g :: z2l sv) :
  Calls prog 175 #[.pointer (some ⟨g,0,none⟩),.func (Fn.func 176) #[] #[.pointer (some ⟨q,0,none⟩)]] w (zui g B0 sv now lv l s w):=by
 have hbz:=h.bz
 have hlow:∀j∈g :: z2l sv,j < w.heap.size:=fun j hj=>(h.low j hj).2
 obtain⟨LA,lc,rfl⟩:=h.lform
 have F0:=zF w
 obtain⟨x0,x1,x2⟩:=(h.go F0.out).three
 have Q0:=zQ w
 have B0Q:=hid (hq.alloc (.cells #[.int .i64 0,.string ⟨#[]⟩,.int .i64 0,.slice none 0 0] 27))
 have H0:=hid (h.go F0.out)
 have HLOW:=hid hlow
 have HQS:=hid hqs
 have hqz:=hq.lt
 have ST:=hid (fun k t (ht:l[k]? = some t) s n (ok:z1m s)=>zo9 now l k t ht s n ok)
 have OK:=hid ok
 obtain⟨dd,hdd⟩:∃dd,dd=z8c now l s 0:=⟨_,rfl⟩
 unfold zui
 rw[←hdd]
 have HDD:=hid hdd
 clear h hq hqs ok hlow hdd
 go_enter Tryz.func175,Tryz.ntmps175
 go_wp2
 go_loopg [5,13] l.length (fun y n i wr=>∃(k nk:Nat) (sk:Value) (s':List Ent),y=l.length - k∧k≤l.length∧n=.int .i64 nk∧i=.int .i64 k∧nk≤k∧z8c now (l.drop k) s' nk=dd∧z1m s'∧Dr g B0 sk now (.slice LA l.length lc) l s' wr∧Whole wr w.heap.size 27 [.int .i64 0,.string ⟨#[]⟩,.int .i64 0,.slice none 0 0]∧Whole wr q 115 [.pointer (some ⟨g,0,none⟩)]∧Fr (g :: z2l sv) w wr∧∀j∈z2l sk,j∈z2l sv∨w.heap.size+1≤j)
 case atStart=>exact⟨0,0,sv,s,rfl,Nat.zero_le _,rfl,rfl,Nat.le_refl _,by rw[List.drop_zero];exact HDD.out.symm,OK.out,H0.out,Q0.out,B0Q.out,F0.out.up,fun j hj=>.inl hj⟩
 case round=>
  obtain⟨k,nk,sk,s',rfl,hk,rfl,rfl,hnk,hde,hok,hd,hq,hb,hf,hown⟩:=hrel
  have HD:=hid hd
  have Q:=hid hq
  have BQ:=hid hb
  have F:=hid hf
  have OWN:=hid hown
  have HOK:=hid hok
  have HDE:=hid hde
  clear hq hf x0 x1 x2 hd hb hown hok hde
  by_cases hlt:k < l.length
  ·obtain⟨b,off,rfl,hb,hc,hm,hat⟩:=HD.out.word (by omega)
   have xw:=hat k hlt
   have EK:l[k]? = some (wd l k):=by unfold wd;rw[List.getD_eq_getElem?_getD,List.getElem?_eq_getElem hlt];rfl
   have ST2:=hid (ST.out k _ EK s' nk HOK.out)
   have DK:=hid (zpj g B0 q sk now (.slice (some ⟨b,off,none⟩) l.length lc) l s' (wd l k) _ HOK.out.rise (by have:=HOK.out.le;omega) HD.out BQ.out)
   have OK2:=hid (zy2 HOK.out (wd l k))
   have QN:w.heap.size∉g :: z2l sk:=fun hm=>by
    rcases List.mem_cons.1 hm with e|hm
    ·have:=HLOW.out g (.head _);omega
    ·rcases OWN.out _ hm with h1|h1
     ·have:=HLOW.out _ (.tail _ h1);omega
     ·omega
   have BN:q∉g :: z2l sk:=fun hm=>by
    rcases List.mem_cons.1 hm with e|hm
    ·exact HQS.out (e ▸ .head _)
    ·rcases OWN.out _ hm with h1|h1
     ·exact HQS.out (.tail _ h1)
     ·omega
   have QN:=hid QN
   have BN:=hid BN
   unfold maxLen at hm
   clear hat EK
   generalize wd l k=t at *
   generalize hlb:z1a s' now t=bb at *
   generalize z2m s' t=s2 at *
   clear hlb
   go_wp2_with fail
   refine DK.out.mono ?_
   rintro e1 w1 ⟨rfl,f1,sv2,hd2,ho2⟩
   have HD2:=hid hd2
   have HO2:=hid ho2
   have F1:=hid (F.out.step f1 (fun j hj=>by
    rcases List.mem_cons.1 hj with e|hm
    ·exact .inl (e ▸ .head _)
    ·rcases OWN.out _ hm with h1|h1
     ·exact .inl (.tail _ h1)
     ·exact .inr (by omega)))
   have Q1:=hid (Q.out.fr f1 QN.out)
   have BQ1:=hid (BQ.out.fr f1 BN.out)
   have hzz:=Q.out.lt
   have OWN2:=hid (show ∀j∈z2l sv2,j∈z2l sv∨w.heap.size+1≤j from fun j hj=>by
    rcases HO2.out j hj with h1|h1
    ·exact OWN.out j h1
    ·exact .inr (by omega))
   clear f1 xw hd2 ho2
   rcases bb with _|_
   all_goals
    go_wp2
    go_roundg (l.length - (k+1))
    case measure=>omega
    case rel=>first
     | exact⟨k+1,nk,sv2,s2,rfl,by omega,rfl,by go_num,by omega,by rw[←HDE.out,ST2.out];rfl,OK2.out,HD2.out,Q1.out,BQ1.out,F1.out,OWN2.out⟩
     | exact⟨k+1,nk+1,sv2,s2,rfl,by omega,by go_num,by go_num,by omega,by rw[←HDE.out,ST2.out];rfl,OK2.out,HD2.out,Q1.out,BQ1.out,F1.out,OWN2.out⟩
  ·obtain rfl:k=l.length:=by omega
   have ED:dd=(s',nk):=by
    rw[←HDE.out,List.drop_length]
    rfl
   go_wp2_with fail
   refine(z0j _ _).mono ?_
   rintro e1 w1 ⟨rfl,f1⟩
   have F1:=hid (F.out.trans f1.up)
   have Q1:=hid (Q.out.fr f1 (by simp))
   have HD1:=hid (HD.out.go f1)
   clear f1
   obtain⟨y0,y1,y2,y3⟩:=four Q1.out
   obtain⟨z0,z1,z2,z3⟩:=z0w Q1.out
   go_wp2
   refine bodyPost_ret (v:=.agg #[.int .i64 3,.string ⟨#[]⟩,.int .i64 nk,.slice none 0 0]) (by simp[results,Tryz.results175,go_sem,y0,y1,y2,y3]) rfl ?_
   rw[ED]
   exact⟨rfl,z1o F1.out (Nat.le_refl _) _ _ _ _,sk,HD1.out.set4W Q1.out (by have:=HLOW.out g (.head _);omega) _ _ _ _⟩
theorem zxl(g B0:Nat)(sv:Value)(now:Int)(lv:Value)(l:List ByteArray)(s:List Ent)(c0:ByteArray)(w:World)(ok:z1m s)(hn:1≤l.length)(h12:l.length≤11)(hz:∀t∈l,t.size≤60)(h:Dr g B0 sv now lv l s w) :
  Calls prog 129 #[.pointer (some ⟨g,0,none⟩),.string ⟨#[100,101,108]⟩] w (ChD g B0 B0 sv now lv l (doC .del s now (c0 :: l)) w):=by
 have hr:=ok.rise
 have hs16:=ok.le
 have DI:=zDI hr hs16 h
 have LS:=hid (z0a (z07 ok) now (wd l 0)).item
 have hzw:∀i,(wd l i).size≤60:=z0s hz
 have EP:doC .del s now (c0 :: l)=((z8c now l s 0).1,z0h ((z8c now l s 0).2:Nat)):=rfl
 have DT:=hid (fun W (hd:Dr g B0 sv now lv l s W) (hq:Whole W w.heap.size 115 [.pointer (some ⟨g,0,none⟩)])=>zm4 g B0 w.heap.size sv now lv l s W ok h12 hd hq (fun hm=>by have:=(h.low _ hm).2;omega))
 rw[EP]
 clear EP
 unfold zui at DT
 generalize z8c now l s 0=dd at *
 have LK:=hid (fun W (hW:Fr [] w W)=>z1g s sv now (wd l 0) W B0 hr (by omega) (h.e.fr hW))
 have H:=hid h
 have hlt:=h.lt
 have hbz:=h.bz
 obtain⟨SA,sc,rfl⟩:=h.sform
 obtain⟨LA,lc,rfl⟩:=h.lform
 obtain⟨b,off,rfl,hb,hc,hm,hat⟩:=h.word (by omega)
 have HAT:=hid hat
 have DG:=hid (fun W (hW:Fr [] w W)=>(h.go hW).three)
 unfold maxLen at hm
 clear h hr hat hzw ok
 generalize z00 s now (wd l 0)=y at *
 generalize z1a s now (wd l 0)=bb at *
 have ix0:(0:Int) < (l.length:Int):=by omega
 clear DI
 have F0:=zF2 w g
 have P0:=zP0 w g
 have Q0:=zQ0 w g
 have F1:=hid (F0.out.alloc (.cells #[.string ⟨#[]⟩,.int .i64 0,.string ⟨#[]⟩,.slice none 0 0,.slice none 0 0,.slice none 0 0,.int .i64 0] 45))
 have V1:=zV1 w g
 have hn1:¬g=w.heap.size+1+1:=by omega
 have hn2:¬w.heap.size+1+1=g:=by omega
 have hn3:¬b=w.heap.size+1+1:=by omega
 have hn4:¬w.heap.size+1+1=b:=by omega
 have hn5:¬w.heap.size=w.heap.size+1+1:=by omega
 have hn6:¬w.heap.size+1+1=w.heap.size:=by omega
 have ix0n:0 < l.length:=by omega
 have p0:=P0.out.cell 0
 have p1:=(P0.out.alloc (.cells #[.string ⟨#[]⟩,.int .i64 0,.string ⟨#[]⟩,.slice none 0 0,.slice none 0 0,.slice none 0 0,.int .i64 0] 45)).cell 0
 obtain⟨d0,d1,d2⟩:=DG.out _ F0.out
 obtain⟨d3,d4,d5⟩:=DG.out _ F1.out
 have d6:=F0.out.cell (HAT.out 0 (by omega)) (by simp)
 have d7:=F1.out.cell (HAT.out 0 (by omega)) (by simp)
 rw[Nat.add_zero] at d6 d7
 go_enter Tryz.func129,Tryz.ntmps129
 go_upto_region 1 with fail
 go_cut [5,6] (fun pb po wx=>po=.bool bb∧z87 B0 y ((w.alloc (.cells #[.pointer (some ⟨g,0,none⟩)] 115)).alloc (.cells #[.int .i64 0,.string ⟨#[]⟩,.int .i64 0,.slice none 0 0] 27)) pb wx)
 case first=>
  go_region_held3 (fun wx=>wx.cell? ⟨w.heap.size,0,none⟩=some (.pointer (some ⟨g,0,none⟩))∧wx.cell? ⟨g,0,none⟩=some (.slice SA s.length sc)∧wx.cell? ⟨g,1,none⟩=some (.int .i64 now)∧wx.cell? ⟨g,2,none⟩=some (.slice (some ⟨b,off,none⟩) l.length lc)∧wx.cell? ⟨b,off,none⟩=some (.string (wd l 0))) (go_keep) ((go_at_call 105;first|(refine(LK.out _ F0.out.drew).mono ?_;rintro e1 w1 ⟨A1,c1,A2,c2,A3,c3,rfl,hc,f1⟩;have F2:=hid (z01 f1);have F3:=hid (F0.out.trans F2.out);have HC:=hid hc;obtain⟨z0,z1,z2⟩:=DG.out _ F3.out;have z3:=F3.out.cell (HAT.out 0 (by omega)) (by simp);rw[Nat.add_zero] at z3;have z4:=(P0.out.fr F2.out (by simp)).cell 0;clear f1 hc)|(refine(LK.out _ F1.out.drew).mono ?_;rintro e1 w1 ⟨A1,c1,A2,c2,A3,c3,rfl,hc,f1⟩;have F2:=hid (z2g (z01 f1));have F3:=hid (F1.out.trans (z01 f1));have HC:=hid hc;have V2:=hid (V1.out.fr (z01 f1) (by simp));obtain⟨z0,z1,z2⟩:=DG.out _ F3.out;have z3:=F3.out.cell (HAT.out 0 (by omega)) (by simp);rw[Nat.add_zero] at z3;have z4:=((P0.out.alloc (.cells #[.string ⟨#[]⟩,.int .i64 0,.string ⟨#[]⟩,.slice none 0 0,.slice none 0 0,.slice none 0 0,.int .i64 0] 45)).fr (z01 f1) (by simp)).cell 0;have y7:=seven V2.out;have z7:=z3p V2.out;clear f1 hc)))
  all_goals
   go_wp2
   go_meet
   case rel=>first|with_reducible exact⟨rfl,z87.new HC.out F2.out⟩|exact⟨rfl,z87.put HC.out F2.out (by simp) V2.out⟩
 clear d0 d1 d2 d3 d4 d5 d6 d7 p0 p1
 obtain⟨rfl,gb,A1,c1,A2,c2,A3,c3,rfl,hgb,hw,hc,hf⟩:=hcut
 have HC:=hid hc
 have hgb2:w.heap.size+1 < gb:=by simp at hgb;omega
 have KW:=zKW H P0 Q0 F0 hf hw hgb2
 clear hf hw hc hgb hn1 hn2 hn3 hn4 hn5 hn6
 have p0:=(KW.out.bl _ (.head _)).cell 0
 go_wp2_with fail
 refine(DT.out _ KW.out.d (KW.out.bl _ (.head _))).mono ?_
 rintro e8 w8 ⟨rfl,f8,sv8,hd8⟩
 have WB8:=hid (KW.out.keep H.out f8)
 have F8:=hid (KW.out.f.up.trans f8)
 have HD8:=hid hd8
 clear f8 hd8 p0
 obtain⟨ds,dn⟩:=dd
 obtain⟨y0,y1,y2,y3⟩:=four (WB8.out _ (.tail _ (.head _)))
 obtain⟨z0,z1,z2,z3⟩:=z0w (WB8.out _ (.tail _ (.head _)))
 go_wp2
 refine bodyPost_ret (v:=.agg #[.int .i64 3,.string ⟨#[]⟩,.int .i64 (dn:Int),.slice none 0 0]) (by simp[results,Tryz.results129,go_sem,y0,y1,y2,y3]) rfl ?_
 exact ChD.fin4o (r:=z0h (dn:Int)) (Nat.le_succ _) (z1f.bare _ _ _ _ _) F8.out (WB8.out _ (.tail _ (.head _))) hbz (fun _=>⟨_,HD8.out⟩)
end Go.Proofs.YtamgdmiopinidaaGreatDoor
