/- Contracts; no condition but each theorem's own. -/
import Derived.Test.YtmkhmejempcimaaGreatDoorSlU16
import Derived.Test.YtmkhmejempcimaaGreatDoorSlU17
import Derived.Test.YtmkhmejempcimaaGreatDoorSlU22
set_option linter.unusedVariables false
set_option linter.unusedSimpArgs false
set_option maxHeartbeats 8000000
set_option maxRecDepth 100000
namespace Go.Proofs.YtmkhmejempcimaaGreatDoor
open Lib (hid)
open Go.Proofs.Tryz (prog)
open Go.RowKit
theorem z5r(l:List Ent)(v u:Value)(w:World)(B:Nat)(hs:∀e∈l,e.Small)(hl:l.length≤281474976710656)(hB:B≤w.heap.size)(h:z1g w B v l)(k:z1g w B u l):
  Calls prog 12 #[v,u] w fun e w'=>e=.returned (.bool true)∧Fr [] w w':=by
 obtain⟨A,c,rfl⟩:=h.form;obtain⟨A',c',rfl⟩:=k.form;have HV:=hid h;have KV:=hid k;have HS:=hid hs;clear h k hs;go_enter Tryz.func12,Tryz.ntmps12;go_wp2;go_loopg [5] l.length (fun g i wr=>∃(k:Nat),g=l.length - k∧k≤l.length∧i=.int .i64 k∧Fr [] w wr)
 case atStart=>exact⟨0,rfl,Nat.zero_le _,rfl,Fr.refl _ _⟩
 case round=>
  obtain⟨k,rfl,hk,rfl,hf⟩:=hrel;have HF:=hid hf;clear hf;by_cases hlt:k < l.length
  ·obtain⟨b,off,rfl,hb,hc,hmx,hat⟩:=HV.out.at_ (by omega);obtain⟨b2,off2,rfl,hb2,hc2,hmx2,hat2⟩:=KV.out.at_ (by omega);obtain⟨e,he⟩:∃e,l[k]? = some e:=⟨_,List.getElem?_eq_getElem hlt⟩;obtain⟨A1,A2,A3,c1,c2,c3,h7⟩:=hat k e he;obtain⟨B1,B2,B3,e1,e2,e3,k7⟩:=hat2 k e he;have P7:=hid (h7.fr HF.out hb hB (by simp));have Q7:=hid (k7.fr HF.out hb2 hB (by simp));have hem:=HS.out e (List.mem_of_getElem? he)
   have SI:=hid (show Calls prog 31 #[.agg #[.int .i64 e.item.kind,.string e.item.text,.slice A1 e.item.list.length c1,.slice A2 e.item.pairs.length c2,.slice A3 e.item.scores.length c3],.agg #[.int .i64 e.item.kind,.string e.item.text,.slice B1 e.item.list.length e1,.slice B2 e.item.pairs.length e2,.slice B3 e.item.scores.length e3]] wr.drew fun e w'=>e=.returned (.bool true)∧Fr [] wr.drew w' from by
    have:=z78 e.item e.item _ _ wr.drew B hem.item hem.item (Nat.le_trans hB HF.out.size) (P7.out.ent.fr (Fr.refl [] _).drew (Nat.le_trans hB HF.out.size) (by simp)).item (Q7.out.ent.fr (Fr.refl [] _).drew (Nat.le_trans hB HF.out.size) (by simp)).item;rw[z9g] at this;exact this)
   obtain⟨x0,x1,x2,x3,x4,x5,x6,-⟩:=P7.out;obtain⟨y0,y1,y2,y3,y4,y5,y6,-⟩:=Q7.out;have q1:=zf7 e.key;have q2:=q1.1;have q3:=q1.2;clear hat hat2 h7 k7 he hem q1;go_wp2;go_region_held3 (fun wx=>wx.cell? ⟨b,off+k * 7,none⟩=some (.string e.key)∧wx.cell? ⟨b,off+k * 7+1,none⟩=some (.int .i64 e.item.kind)∧wx.cell? ⟨b,off+k * 7+2,none⟩=some (.string e.item.text)∧wx.cell? ⟨b,off+k * 7+3,none⟩=some (.slice A1 e.item.list.length c1)∧wx.cell? ⟨b,off+k * 7+4,none⟩=some (.slice A2 e.item.pairs.length c2)∧wx.cell? ⟨b,off+k * 7+5,none⟩=some (.slice A3 e.item.scores.length c3)∧wx.cell? ⟨b,off+k * 7+6,none⟩=some (.int .i64 e.til)∧wx.cell? ⟨b2,off2+k * 7,none⟩=some (.string e.key)∧wx.cell? ⟨b2,off2+k * 7+1,none⟩=some (.int .i64 e.item.kind)∧wx.cell? ⟨b2,off2+k * 7+2,none⟩=some (.string e.item.text)∧wx.cell? ⟨b2,off2+k * 7+3,none⟩=some (.slice B1 e.item.list.length e1)∧wx.cell? ⟨b2,off2+k * 7+4,none⟩=some (.slice B2 e.item.pairs.length e2)∧wx.cell? ⟨b2,off2+k * 7+5,none⟩=some (.slice B3 e.item.scores.length e3)∧wx.cell? ⟨b2,off2+k * 7+6,none⟩=some (.int .i64 e.til)) (go_keep) ((go_at_call 31;refine SI.out.mono ?_;rintro e9 w2 ⟨rfl,f2⟩;have G2:=hid (z01 f2);have P72:=hid (P7.out.fr G2.out hb (Nat.le_trans hB HF.out.size) (by simp));have Q72:=hid (Q7.out.fr G2.out hb2 (Nat.le_trans hB HF.out.size) (by simp));clear f2 x0 x1 x2 x3 x4 x5 x6 y0 y1 y2 y3 y4 y5 y6;obtain⟨x0,x1,x2,x3,x4,x5,x6,-⟩:=P72.out;obtain⟨y0,y1,y2,y3,y4,y5,y6,-⟩:=Q72.out));go_wp2;go_roundg (l.length - (k+1))
   case measure=>omega
   case rel=>exact⟨k+1,rfl,by omega,by go_num,HF.out.trans G2.out⟩
  ·obtain rfl:k=l.length:=by omega
   go_wp2;go_ret;exact⟨rfl,HF.out⟩
def sevI:Itm:=⟨1,⟨#[55]⟩,[],[],[]⟩
def z5n:List Ent:=[⟨⟨#[108]⟩,zgr,0⟩,⟨⟨#[116]⟩,sevI,10⟩]
theorem zf6:zf1 z5n=0:=by kernel_rfl
def SomeS(l:List Ent)(w:World)(r:Ending)(w':World):Prop:=∃u,r=.returned u∧z1a w' w.heap.size u l∧Fr [] w w'
theorem zb8(w:World):Calls prog 19 #[] w (SomeS z5n w):=by
 go_enter Tryz.func19,Tryz.ntmps19;go_wp2_with fail;refine(zmu _).mono ?_;rintro e w1 ⟨v,rfl,hi,f1⟩;obtain⟨A1,c1,A2,c2,A3,c3,rfl⟩:=hi.form;have HI:=hid hi;have F1:=hid f1;have LT:=hid (World.ownsRow_lit (base:=w1.heap.size) (e:=74) (size:=7) w1 #[.string ⟨#[108]⟩,.int .i64 zgr.kind,.string zgr.text,.slice A1 zgr.list.length c1,.slice A2 zgr.pairs.length c2,.slice A3 zgr.scores.length c3,.int .i64 0,.string ⟨#[116]⟩,.int .i64 1,.string ⟨#[55]⟩,.slice none 0 0,.slice none 0 0,.slice none 0 0,.int .i64 10] 2 (Nat.le_refl _) (by decide) rfl);clear hi f1;go_wp2;go_ret;have FA:=(Fr.refl [] w1).alloc (.cells #[.string ⟨#[108]⟩,.int .i64 zgr.kind,.string zgr.text,.slice A1 zgr.list.length c1,.slice A2 zgr.pairs.length c2,.slice A3 zgr.scores.length c3,.int .i64 0,.string ⟨#[116]⟩,.int .i64 1,.string ⟨#[55]⟩,.slice none 0 0,.slice none 0 0,.slice none 0 0,.int .i64 10] 74);refine⟨_,rfl,⟨[z5q ⟨⟨#[108]⟩,zgr,0⟩ A1 c1 A2 c2 A3 c3,z5q ⟨⟨#[116]⟩,sevI,10⟩ none 0 none 0 none 0],rfl,fun i e he=>?_,z09 LT.out F1.out.size⟩,F1.out.trans FA⟩
 match i,he with
 | 0,he=>
  cases he;refine⟨_,rfl,?_⟩;obtain⟨L1,L2,L3,hv,o1,o2,o3⟩:=HI.out.go FA;cases hv;exact⟨_,_,_,_,_,_,rfl,o1,o2,o3⟩
 | 1,he=>
  cases he;exact⟨_,rfl,_,_,_,_,_,_,rfl,World.ownsRow_nil _ _ _ _,World.ownsRow_nil _ _ _ _,World.ownsRow_nil _ _ _ _⟩
 | i+2,he=>simp[z5n] at he
structure KpM(w:World)(base mid kb:Nat)(a b:Value)(s:Sto):Prop where
 k:Whole w kb 66 [a,b]
 m:base≤mid
 kb:base≤kb
 sl:z14 w base mid a s.slots
 sg:z44 w mid b s.segs
 mz:mid≤w.heap.size
def Kp(w:World)(base kb:Nat)(s:Sto):Prop:=∃mid a b,KpM w base mid kb a b s
section
variable {w w1:World} {base mid kb:Nat} {a b:Value} {s:Sto}
theorem KpM.go(h:KpM w base mid kb a b s)(f:Fr [] w w1):KpM w1 base mid kb a b s:=⟨h.k.fr f (by simp),h.m,h.kb,h.sl.go f,h.sg.go f,Nat.le_trans h.mz f.size⟩
end
def KpP(base kb:Nat)(c:Int)(t:Sto)(w:World)(e:Ending)(w':World):Prop:=e=.returned (.int .i64 c)∧FrB [] base w w'∧w.heap.size≤w'.heap.size∧(c=0→Kp w' base kb t)
def z94(s:Sto)(k:ByteArray)(c:Bool):Nat:=match (z25 s k c).1 with
 | some p=>p.1
 | none=>0
theorem zc8(s:Sto)(base mid kb:Nat)(a b:Value)(key:ByteArray)(c:Bool)(w:World)(hr:rises (ltK Slt.key) s.slots=true)(hl:s.slots.length≤281474976710656)(h:KpM w base mid kb a b s):
  Calls prog 42 #[.pointer (some ⟨kb,0,none⟩),.string key,.bool c] w fun e w'=>e=.returned (.tuple #[.int .i64 (z94 s key c),.int .i64 (z25 s key c).2])∧Fr [] w w':=by
 obtain⟨SA,sc,rfl⟩:=h.sl.form;obtain⟨g0,g1⟩:=two h.k;have FD:=hid (zb4 s.slots key SA sc w.heap.size b w hr hl (Nat.le_refl _) h.sl.o.v);unfold z2n at FD;have K:=hid h;have SV:=hid h.sl.o.v
 have EN:z94 s key c=match (z25 s key c).1 with
  | some p=>p.1
  | none=>0:=rfl
 have ES:z25 s key c=if z5e Slt.key s.slots key=false then ((none:Option (Nat×Slt)),(5:Int))
  else match s.slots[z1k Slt.key s.slots key]? with
   | none=>(none,5)
   | some x=>if x.cold=c then (some (z1k Slt.key s.slots key,x),0) else (none,4):=rfl
 cases hh:z5e Slt.key s.slots key with
 | false=>
  rw[hh,if_pos rfl] at ES;rw[ES] at EN ⊢;simp only at EN;rw[hh] at FD;rw[EN];clear ES EN h hr hh;go_enter Tryz.func42,Tryz.ntmps42;go_wp2_with fail;refine FD.out.mono ?_;rintro e1 w1 ⟨rfl,f1⟩;go_wp2;go_ret2;exact⟨rfl,f1⟩
 | true=>
  obtain⟨x,hx,hxk⟩:=(z2z Slt.key).1 hh;have hlow:=(List.getElem?_eq_some_iff.1 hx).1;rw[hh,if_neg (by decide),hx] at ES;simp only at ES;rw[hh] at FD;obtain⟨g,off,rfl,hg,hc,hmx,hat⟩:=SV.out.at_ (by omega);obtain⟨A1,A2,A3,c1,c2,c3,h10⟩:=hat _ x hx;have x1:=h10.k1;have HX1:=hid x1;unfold maxLen at hmx;clear hat h10 hx hh hr h;generalize z1k Slt.key s.slots key=m at *;by_cases hcc:x.cold=c
  ·rw[if_pos hcc] at ES;rw[ES] at EN ⊢;simp only at EN;rw[EN];have q1:(x.cold != c)=false:=by rw[hcc];cases c <;> rfl
   have q2:(x.cold==c)=true:=by rw[hcc];cases c <;> rfl
   clear ES EN hcc x1;go_enter Tryz.func42,Tryz.ntmps42;go_wp2_with fail;refine FD.out.mono ?_;rintro e1 w1 ⟨rfl,f1⟩;have F1:=hid f1;obtain⟨k0,k1⟩:=two (K.out.go f1).k;have x1:=f1.cell HX1.out (by simp);clear f1 g0 g1;go_wp2;go_ret2;exact⟨rfl,F1.out⟩
  ·rw[if_neg hcc] at ES;rw[ES] at EN ⊢;simp only at EN;rw[EN]
   have q1:(x.cold != c)=true:=by
    cases h1:x.cold <;> cases h2:c <;> first|rfl|(rw[h1,h2] at hcc;exact absurd rfl hcc)
   have q2:(x.cold==c)=false:=by
    cases h1:x.cold <;> cases h2:c <;> first|rfl|(rw[h1,h2] at hcc;exact absurd rfl hcc)
   clear ES EN hcc x1;go_enter Tryz.func42,Tryz.ntmps42;go_wp2_with fail;refine FD.out.mono ?_;rintro e1 w1 ⟨rfl,f1⟩;have F1:=hid f1;obtain⟨k0,k1⟩:=two (K.out.go f1).k;have x1:=f1.cell HX1.out (by simp);clear f1 g0 g1;go_wp2;go_ret2;exact⟨rfl,F1.out⟩
theorem zi5{α:Type}{l:List α}(h:0 < l.length):∃x,l[l.length - 1]? = some x:=⟨_,List.getElem?_eq_getElem (by omega)⟩
theorem zeu{ss:List (List ByteArray)}{l:List ByteArray}(h:ss[ss.length - 1]? = some l):z45 ss=l.length:=by unfold z45;rw[z1h h]
def RmP(base kb:Nat)(r:Bool)(t:Sto)(w:World)(e:Ending)(w':World):Prop:=e=.returned (.bool r)∧FrB [] base w w'∧w.heap.size≤w'.heap.size∧(r=true→Kp w' base kb t)
theorem zjw(s:Sto)(base mid kb:Nat)(a b:Value)(w:World)(h8:s.segs.length≤8)(h4:∀l∈s.segs,l.length≤4)(hb:base≤w.heap.size)(h:KpM w base mid kb a b s):
  Calls prog 43 #[.pointer (some ⟨kb,0,none⟩)] w (RmP base kb (zah s.segs) ⟨s.slots,z1c s.segs⟩ w):=by
 obtain⟨j0,hj,hjz0,hjz1,hjz2⟩:=info_parts z9t;obtain⟨RA,rc,rfl⟩:=h.sg.form;obtain⟨g0,g1⟩:=two h.k;have K:=hid h;have GV:=hid h.sg.o.v;have EB:zah s.segs=((decide (0 < s.segs.length)&&decide (z45 s.segs < 4))||decide (s.segs.length≠8)):=rfl
 have ER:z1c s.segs=if (decide (0 < s.segs.length)&&decide (z45 s.segs < 4))=true then s.segs else s.segs++[[]]:=rfl
 have hmz:=h.mz;have hmb:=h.m;by_cases hn:0 < s.segs.length
 ·obtain⟨l,hl⟩:=zi5 hn;have el:=zeu hl;have hl4:=h4 l (List.mem_of_getElem? hl);obtain⟨g,off,rfl,hg,hc,hmx,hat⟩:=GV.out.at_ hn;obtain⟨A1,c1,x0,-⟩:=hat _ l hl;have q0:(s.segs.length:Int) > 0:=by omega
  have q1:decide ((s.segs.length:Int) > 0)=true:=decide_eq_true q0;have ix:(((s.segs.length - 1:Nat):Nat):Int)=(s.segs.length:Int) - 1:=by omega
  have ix1:(0:Int)≤(s.segs.length:Int) - 1:=by omega
  have ix2:(s.segs.length:Int) - 1 < (s.segs.length:Int):=by omega
  have ix3:((s.segs.length:Int) - 1).toNat=s.segs.length - 1:=by omega
  have ix4:IntKind.i64.wrap ((s.segs.length:Int) - 1)=(s.segs.length:Int) - 1:=by rw[IntKind.wrap_i64];omega
  unfold maxLen at hmx;rw[el,decide_eq_true hn] at EB ER;simp only[Bool.true_and] at EB ER;by_cases h3:l.length < 4
  ·rw[decide_eq_true h3] at EB ER;rw[if_pos rfl] at ER;rw[EB,ER];simp only[Bool.true_or];have q3:(l.length:Int) < 4:=by omega
   clear EB ER hat h;go_enter Tryz.func43,Tryz.ntmps43;go_wp2;go_ret;exact⟨rfl,FrB.refl _ _ _,Nat.le_refl _,fun _=>⟨_,_,_,K.out⟩⟩
  ·have q3:¬(l.length:Int) < 4:=by omega
   rw[decide_eq_false h3] at EB ER;rw[if_neg (by decide)] at ER;rw[EB,ER];simp only[Bool.false_or];by_cases hn8:s.segs.length=8
   ·rw[decide_eq_false (by simpa using hn8)];have q8:((s.segs.length:Int)==8)=true:=by rw[hn8];rfl
    clear EB ER hat h hn8;go_enter Tryz.func43,Tryz.ntmps43;go_wp2;go_ret;exact⟨rfl,FrB.refl _ _ _,Nat.le_refl _,(fun hx=>by cases hx)⟩
   ·rw[decide_eq_true (by simpa using hn8)];have q8:((s.segs.length:Int)==8)=false:=by simp;omega
    clear EB ER hat h;go_enter Tryz.func43,Tryz.ntmps43;go_upto_region 6 with fail;obtain⟨vs,hv1,hv2,hv3⟩:=K.out.sg;have HV1:=hid hv1;have HV2:=hid hv2;have HV3:=hid hv3;have hO1:=hid (z0o (World.ownsRow_lit (base:=w.heap.size) (e:=41) (size:=1) w #[.slice none 0 0] 1 (Nat.le_refl _) (by decide) rfl));clear hv1 hv2 hv3;go_wp2_with (at_builtin;refine z0b _ rfl _ _ 23 rfl mid 41 j0 _ 1 24 Tryz.underlying23 hj hjz0 hjz1 hjz2 rfl (by decide) _ _ _ rfl (HV3.out.alloc _) _ _ 1 _ rfl hO1.out (by simp[Value.oneCell']) ?c1 ?c2 ?c3 ?_)
    case c1=>unfold maxLen;omega
    case c2=>omega
    case c3=>first|omega|(simp;omega)
    intro v' w5 hown hgrow hat5;have HO5:=hid hown;have HG5:=hid hgrow;obtain⟨A5,c5,rfl,-⟩:=z02 hown;have OQ:=hid (HV3.out.alloc (.cells #[.slice none 0 0] 41));have ga:=hid ((Fr.refl [] w).alloc (.cells #[.slice none 0 0] 41));have KB5:=hid (show Whole w5 kb 66 _ from((K.out.k.alloc _).grown HG5.out (fun e=>z0g OQ.out (K.out.k.alloc _) (by decide) e.symm)));have S5:=hid (show z14 w5 base mid a s.slots from(K.out.sl.go ga.out).row OQ.out ⟨z3w,by decide⟩ (z1q HG5.out));have G5:=hid (show z44 w5 mid (.slice A5 (s.segs.length+1) c5) (s.segs++[[]]) from z44.snoc (HV1.out.imp fun _ _ h=>z05 h ga.out (by simp)) HV2.out (World.ownsRow_nil _ _ _ _) (fun u _ k _=>by simp[Value.ownBlock]) rfl OQ.out HG5.out HO5.out);have F5:=hid (show FrB [] base w w5 from((ga.out.toB base).grown HG5.out (fun j hj=>.inr (Nat.le_trans hmb (OQ.out.lt j hj).1))));have hz5:=Nat.le_trans ga.out.size HG5.out.size;clear hown hgrow hat5 g0 g1;obtain⟨g0,g1⟩:=two KB5.out;obtain⟨f0,f1⟩:=zcs KB5.out;go_wp2;go_ret;refine⟨rfl,F5.out.setCell (p:=⟨kb,1,none⟩) (.inr K.out.kb) _,by simpa[World.setCell] using hz5,fun _=>⟨mid,_,_,KB5.out.set_ 1 _,hmb,K.out.kb,S5.out.far KB5.out (by decide) _,?_,by simpa[World.setCell] using Nat.le_trans hmz hz5⟩⟩;have:=G5.out.far KB5.out (i:=1) (by decide) (.slice A5 (s.segs.length+1) c5);exact this
 ·have hn0:s.segs.length=0:=by omega
  have q0:¬(s.segs.length:Int) > 0:=by omega
  rw[decide_eq_false hn] at EB ER;simp only[Bool.false_and,Bool.false_or] at EB ER;rw[if_neg (by decide)] at ER;rw[EB,ER,decide_eq_true (by omega)];have q8:((s.segs.length:Int)==8)=false:=by simp;omega
  clear EB ER h hn0 hn;go_enter Tryz.func43,Tryz.ntmps43;go_upto_region 6 with fail;obtain⟨vs,hv1,hv2,hv3⟩:=K.out.sg;have HV1:=hid hv1;have HV2:=hid hv2;have HV3:=hid hv3;have hO1:=hid (z0o (World.ownsRow_lit (base:=w.heap.size) (e:=41) (size:=1) w #[.slice none 0 0] 1 (Nat.le_refl _) (by decide) rfl));clear hv1 hv2 hv3;go_wp2_with (at_builtin;refine z0b _ rfl _ _ 23 rfl mid 41 j0 _ 1 24 Tryz.underlying23 hj hjz0 hjz1 hjz2 rfl (by decide) _ _ _ rfl (HV3.out.alloc _) _ _ 1 _ rfl hO1.out (by simp[Value.oneCell']) ?c1 ?c2 ?c3 ?_)
  case c1=>unfold maxLen;omega
  case c2=>omega
  case c3=>first|omega|(simp;omega)
  intro v' w5 hown hgrow hat5;have HO5:=hid hown;have HG5:=hid hgrow;obtain⟨A5,c5,rfl,-⟩:=z02 hown;have OQ:=hid (HV3.out.alloc (.cells #[.slice none 0 0] 41));have ga:=hid ((Fr.refl [] w).alloc (.cells #[.slice none 0 0] 41));have KB5:=hid (show Whole w5 kb 66 _ from((K.out.k.alloc _).grown HG5.out (fun e=>z0g OQ.out (K.out.k.alloc _) (by decide) e.symm)));have S5:=hid (show z14 w5 base mid a s.slots from(K.out.sl.go ga.out).row OQ.out ⟨z3w,by decide⟩ (z1q HG5.out));have G5:=hid (show z44 w5 mid (.slice A5 (s.segs.length+1) c5) (s.segs++[[]]) from z44.snoc (HV1.out.imp fun _ _ h=>z05 h ga.out (by simp)) HV2.out (World.ownsRow_nil _ _ _ _) (fun u _ k _=>by simp[Value.ownBlock]) rfl OQ.out HG5.out HO5.out);have F5:=hid (show FrB [] base w w5 from((ga.out.toB base).grown HG5.out (fun j hj=>.inr (Nat.le_trans hmb (OQ.out.lt j hj).1))));have hz5:=Nat.le_trans ga.out.size HG5.out.size;clear hown hgrow hat5 g0 g1;obtain⟨g0,g1⟩:=two KB5.out;obtain⟨f0,f1⟩:=zcs KB5.out;go_wp2;go_ret;refine⟨rfl,F5.out.setCell (p:=⟨kb,1,none⟩) (.inr K.out.kb) _,by simpa[World.setCell] using hz5,fun _=>⟨mid,_,_,KB5.out.set_ 1 _,hmb,K.out.kb,S5.out.far KB5.out (by decide) _,?_,by simpa[World.setCell] using Nat.le_trans hmz hz5⟩⟩;have:=G5.out.far KB5.out (i:=1) (by decide) (.slice A5 (s.segs.length+1) c5);exact this
inductive Cm where
 | ping|get|set_|append_|strlen|incrby|getrange|del|exists_|type_|keys_|expire|ttl|persist
 | lpush|rpush|lpop|rpop|lrange|ltrim|lrem|sadd|srem|sismember|smembers|sinter|sunion|sdiff
 | hset|hget|hdel|hgetall|zadd|zrem|zscore|zrank|zrange|zrangebyscore
deriving DecidableEq
def Cm.bs:Cm→List UInt8
 | .ping=>[112,105,110,103]
 | .get=>[103,101,116]
 | .set_=>[115,101,116]
 | .append_=>[97,112,112,101,110,100]
 | .strlen=>[115,116,114,108,101,110]
 | .incrby=>[105,110,99,114,98,121]
 | .getrange=>[103,101,116,114,97,110,103,101]
 | .del=>[100,101,108]
 | .exists_=>[101,120,105,115,116,115]
 | .type_=>[116,121,112,101]
 | .keys_=>[107,101,121,115]
 | .expire=>[101,120,112,105,114,101]
 | .ttl=>[116,116,108]
 | .persist=>[112,101,114,115,105,115,116]
 | .lpush=>[108,112,117,115,104]
 | .rpush=>[114,112,117,115,104]
 | .lpop=>[108,112,111,112]
 | .rpop=>[114,112,111,112]
 | .lrange=>[108,114,97,110,103,101]
 | .ltrim=>[108,116,114,105,109]
 | .lrem=>[108,114,101,109]
 | .sadd=>[115,97,100,100]
 | .srem=>[115,114,101,109]
 | .sismember=>[115,105,115,109,101,109,98,101,114]
 | .smembers=>[115,109,101,109,98,101,114,115]
 | .sinter=>[115,105,110,116,101,114]
 | .sunion=>[115,117,110,105,111,110]
 | .sdiff=>[115,100,105,102,102]
 | .hset=>[104,115,101,116]
 | .hget=>[104,103,101,116]
 | .hdel=>[104,100,101,108]
 | .hgetall=>[104,103,101,116,97,108,108]
 | .zadd=>[122,97,100,100]
 | .zrem=>[122,114,101,109]
 | .zscore=>[122,115,99,111,114,101]
 | .zrank=>[122,114,97,110,107]
 | .zrange=>[122,114,97,110,103,101]
 | .zrangebyscore=>[122,114,97,110,103,101,98,121,115,99,111,114,101]
def Cm.all:List Cm:=[.ping,.get,.set_,.append_,.strlen,.incrby,.getrange,.del,.exists_,.type_,.keys_,.expire,.ttl,.persist,.lpush,.rpush,.lpop,.rpop,.lrange,.ltrim,.lrem,.sadd,.srem,.sismember,.smembers,.sinter,.sunion,.sdiff,.hset,.hget,.hdel,.hgetall,.zadd,.zrem,.zscore,.zrank,.zrange,.zrangebyscore]
theorem Cm.mem_all(c:Cm):c∈Cm.all:=by cases c <;> decide
def cmOf(s:List UInt8):Option Cm:=Cm.all.find? fun c=>decide (c.bs=s)
theorem zbq{s:List UInt8}{c:Cm}(h:cmOf s=some c):s=c.bs:=by
 have:=List.find?_some h;exact(of_decide_eq_true this).symm
theorem zhh{s:List UInt8}(h:cmOf s=none)(c:Cm):s≠c.bs:=fun e=>by
 have:=List.find?_eq_none.1 h c c.mem_all;exact this (decide_eq_true e.symm)
def z8h(c:UInt8):UInt8:=if 65≤c.toNat∧c.toNat≤90 then c+32 else c
def znj(s:ByteArray):List UInt8:=s.data.toList.map z8h
def cmL(l:List ByteArray):Option Cm:=cmOf (znj (l.getD 0 ⟨#[]⟩))
structure Shp where
 least:Nat
 most:Option Nat
 pairs:Bool
 nums:Nat
def Cm.shp:Cm→Shp
 | .ping=>⟨0,some 0,false,0⟩
 | .get|.strlen|.type_|.ttl|.persist|.keys_|.lpop|.rpop|.smembers|.hgetall=>⟨1,some 1,false,0⟩
 | .set_|.append_|.lrem|.sismember|.hget|.zscore|.zrank=>⟨2,some 2,false,0⟩
 | .incrby|.expire=>⟨2,some 2,false,1⟩
 | .getrange|.lrange|.ltrim|.zrange|.zrangebyscore=>⟨3,some 3,false,2⟩
 | .del|.exists_|.sinter|.sunion|.sdiff=>⟨1,none,false,0⟩
 | .lpush|.rpush|.sadd|.srem|.hdel|.zrem=>⟨2,none,false,0⟩
 | .hset=>⟨3,none,true,0⟩
 | .zadd=>⟨3,none,true,3⟩
def Shp.num(s:Shp)(i:Nat):Bool:=match s.nums with
 | 0=>false
 | 1=>decide (i=1)
 | 2=>decide (i=1)||decide (i=2)
 | _=>decide (i % 2=1)
def Shp.bad(s:Shp)(n:Nat):Bool:=decide (n < s.least)||(match s.most with|some m=>decide (m < n)|none=>false)||(s.pairs&&decide (n % 2=0))
def isN(s:ByteArray):Bool:=(zcu s.data.toList).isSome
def z4w(s:Shp):Nat→List ByteArray→Bool
 | _,[]=>true
 | i,w :: l=>(!s.num i||isN w)&&z4w s (i+1) l
def z3d(l:List ByteArray):Int:=
 if z0v l≠0 then z0v l
 else match cmL l with
  | none=>5
  | some c=>if c.shp.bad (l.length - 1)=true then 1 else if z4w c.shp 0 (l.drop 1)=true then 0 else 3
def zh9(e:Int):Rep:=⟨2,⟨#[]⟩,e,[]⟩
def zh4(s:ByteArray):Rep:=⟨1,s,0,[]⟩
def z6i(n:Int):Rep:=⟨3,⟨#[]⟩,n,[]⟩
def ze6(s:ByteArray):Rep:=⟨4,s,0,[]⟩
def zl5:Rep:=⟨5,⟨#[]⟩,0,[]⟩
def z7e(l:List ByteArray):Rep:=⟨6,⟨#[]⟩,0,l.map fun s=>⟨4,s,0,0⟩⟩
def tOK:ByteArray:=⟨#[79,75]⟩
def tPong:ByteArray:=⟨#[80,79,78,71]⟩
def kindW(k:Int):ByteArray:=
 if k=0 then toB [110,111,110,101] else if k=1 then toB [115,116,114,105,110,103] else if k=2 then toB [108,105,115,116]
 else if k=3 then toB [115,101,116] else if k=4 then toB [104,97,115,104] else toB [122,115,101,116]
def fin(s:List Ent)(now:Int)(key:ByteArray)(y:Itm)(til:Int)(chg nn:Bool)(e:Int)(r:Rep):List Ent×Rep:=
 if e=0 then
  if chg=true then (if z7k s now key y til=0 then (zjc s now key y til,r) else (s,zh9 (z7k s now key y til))) else (s,r)
 else if e=5∧nn=true then (s,zl5) else (s,zh9 e)
def wd(l:List ByteArray)(i:Nat):ByteArray:=l.getD i ⟨#[]⟩
def wn(l:List ByteArray)(i:Nat):Int:=(zcu (wd l i).data.toList).getD 0
def zmj(s:List Ent)(now:Int)(k:ByteArray):Bool:=decide ((z0q s now k).item.kind≠0)
def delF(now:Int):List ByteArray→List Ent→Nat→List Ent×Nat
 | [],s,n=>(s,n)
 | k :: l,s,n=>delF now l (zjc s now k (z2l 0) 0) (n+if zmj s now k=true then 1 else 0)
def zae:List ByteArray→List (ByteArray×ByteArray)
 | a :: b :: l=>(a,b) :: zae l
 | _=>[]
def z7u:List ByteArray→List (Int×ByteArray)
 | a :: b :: l=>((zcu a.data.toList).getD 0,b) :: z7u l
 | _=>[]
def z4f(s:List Ent)(now:Int)(l:List ByteArray):List Itm:=l.map fun k=>(z0q s now k).item
def doC(c:Cm)(s:List Ent)(now:Int)(l:List ByteArray):List Ent×Rep:=
 let key:=wd l 1
 let was:=z0q s now key
 let x:=was.item
 let til:=was.til
 match c with
 | .ping=>(s,zh4 tPong)
 | .get=>if x.kind=0 then fin s now key x til false false (z0a 1 x) zl5 else fin s now key x til false false (z0a 1 x) (ze6 x.text)
 | .set_=>fin s now key (zo3 (wd l 2)) 0 true false 0 (zh4 tOK)
 | .append_=>fin s now key (apY x (wd l 2)) til true false (zj9 x (wd l 2)) (z6i (apN x (wd l 2)))
 | .strlen=>fin s now key x til false false (z0a 1 x) (z6i (lnN x))
 | .incrby=>fin s now key (adY x (wn l 2)) til true false (zk0 x (wn l 2)) (z6i (adN x (wn l 2)))
 | .getrange=>fin s now key x til false false (z0a 1 x) (ze6 (rgS x (wn l 2) (wn l 3)))
 | .del=>((delF now (l.drop 1) s 0).1,z6i (delF now (l.drop 1) s 0).2)
 | .exists_=>(s,z6i (((l.drop 1).filter fun k=>zmj s now k).length:Nat))
 | .type_=>(s,zh4 (kindW x.kind))
 | .keys_=>fin s now key x til false false (z8s key) (z7e (keysL s now key))
 | .expire=>if x.kind=0 then (s,z6i 0) else if wn l 2 < 1 then fin s now key (z2l 0) (now+wn l 2) true false 0 (z6i 1) else fin s now key x (now+wn l 2) true false (if 1000000 < now+wn l 2 then 3 else 0) (z6i 1)
 | .ttl=>(s,z6i (if x.kind=0 then -2 else if til=0 then -1 else til - now))
 | .persist=>if x.kind=0∨til=0 then (s,z6i 0) else fin s now key x 0 true false 0 (z6i 1)
 | .lpush=>fin s now key (z6t x true (l.drop 2)) til true false (z0r x (l.drop 2)) (z6i (z99 x true (l.drop 2)))
 | .rpush=>fin s now key (z6t x false (l.drop 2)) til true false (z0r x (l.drop 2)) (z6i (z99 x false (l.drop 2)))
 | .lpop=>fin s now key (popY x true) til true true (z9u x) (ze6 (popT x true))
 | .rpop=>fin s now key (popY x false) til true true (z9u x) (ze6 (popT x false))
 | .lrange=>fin s now key x til false false (z0a 2 x) (z7e (zd7 x.list (wn l 2) (wn l 3)))
 | .ltrim=>fin s now key (ofL (zd7 x.list (wn l 2) (wn l 3))) til true false (z0a 2 x) (zh4 tOK)
 | .lrem=>fin s now key (remY x (wd l 2)) til true false (z0a 2 x) (z6i (remK x (wd l 2)))
 | .sadd=>fin s now key (add3Y x (l.drop 2)) til true false (add3 x (l.drop 2)) (z6i (add3N x (l.drop 2)))
 | .srem=>fin s now key (zof 3 x (l.drop 2)) til true false (z0a 3 x) (z6i (zov 3 x (l.drop 2)))
 | .sismember=>fin s now key x til false false (z0a 3 x) (z6i (if hasT x.list (wd l 2)=true then 1 else 0))
 | .smembers=>fin s now key x til false false (z61 (z4f s now (l.drop 1))) (z7e (zmc zpz (z4f s now (l.drop 1))))
 | .sunion=>fin s now key x til false false (z61 (z4f s now (l.drop 1))) (z7e (zmc zpz (z4f s now (l.drop 1))))
 | .sinter=>fin s now key x til false false (z61 (z4f s now (l.drop 1))) (z7e (zmc (meetP (z4f s now (l.drop 1)).length) (z4f s now (l.drop 1))))
 | .sdiff=>fin s now key x til false false (z61 (z4f s now (l.drop 1))) (z7e (zmc lessP (z4f s now (l.drop 1))))
 | .hset=>fin s now key (putY x (zae (l.drop 2))) til true false (zdq x (zae (l.drop 2))) (z6i (putN x (zae (l.drop 2))))
 | .hget=>fin s now key x til false true (znf x (wd l 2)) (ze6 (getS x (wd l 2)))
 | .hdel=>fin s now key (dropY x (l.drop 2)) til true false (z0a 4 x) (z6i (dropN x (l.drop 2)))
 | .hgetall=>fin s now key x til false false (z0a 4 x) (z7e (x.pairs.flatMap fun p=>[p.1,p.2]))
 | .zadd=>fin s now key (put5Y x (z7u (l.drop 2))) til true false (put5 x (z7u (l.drop 2))) (z6i (put5N x (z7u (l.drop 2))))
 | .zrem=>fin s now key (zoi x (l.drop 2)) til true false (z0a 5 x) (z6i (zp8 x (l.drop 2)))
 | .zscore=>fin s now key x til false true (z7m x (wd l 2)) (z6i (numN x (wd l 2)))
 | .zrank=>fin s now key x til false true (z7m x (wd l 2)) (z6i (rankN x (wd l 2)))
 | .zrange=>fin s now key x til false false (z0a 5 x) (z7e (zpp x (wn l 2) (wn l 3)))
 | .zrangebyscore=>fin s now key x til false false (z0a 5 x) (z7e (znb x (wn l 2) (wn l 3)))
def doR(s:List Ent)(now:Int)(l:List ByteArray):List Ent×Rep:=
 if z3d l≠0 then (s,zh9 (z3d l))
 else match cmL l with
  | none=>(s,zh9 5)
  | some c=>doC c s now l
attribute [local go_sem] z0p
theorem z1g.go{w w':World}{v:Value}{l:List Ent}(h:z1g w w.heap.size v l)(hf:Fr [] w w'):z1g w' w'.heap.size v l:=(h.fr hf (Nat.le_refl _) (by simp)).more hf.size
section
variable {w0 wr w1:World} {bl:List (Nat×List Value)} {its:List (Value×Itm)} {rs:List (Nat×Value×Nat×List Value)} {es:List (Value×List Ent)}
end
end Go.Proofs.YtmkhmejempcimaaGreatDoor
