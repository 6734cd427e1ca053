/- Contracts; no condition but each theorem's own. -/
import Derived.Test.YtmkhmejempcimaaGreatDoorSlU16
import Derived.Test.YtmkhmejempcimaaGreatDoorSlU19
set_option linter.unusedVariables false
set_option linter.unusedSimpArgs false
set_option maxHeartbeats 8000000
set_option maxRecDepth 100000
namespace Go.Proofs.YtmkhmejempcimaaGreatDoor
open Lib (hid)
open Go.Proofs.Tryz (prog)
open Go.RowKit
section
variable {w w1 wr:World} {base:Nat} {v a b p q:Value} {cs:List Value} {e:Slt} {l:List Slt} {ls:List (List ByteArray)}
theorem z24.later(h:z24 w base cs e){p:Addr}(hp:p.block < base)(u:Value):z24 (w.setCell p u) base cs e:=by
 obtain⟨A1,c1,A2,c2,A3,c3,he,h1,h2,h3⟩:=h;exact⟨A1,c1,A2,c2,A3,c3,he,z03 h1 hp u,z03 h2 hp u,z03 h3 hp u⟩
theorem z3g.later(h:z3g w base v l){p:Addr}(hp:p.block < base)(u:Value):z3g (w.setCell p u) base v l:=by
 obtain⟨rs,h1,h2,h3⟩:=h
 exact⟨rs,h1,fun i e he=>by
  obtain⟨cs,h4,h5⟩:=h2 i e he;exact⟨cs,h4,h5.later hp u⟩,z03 h3 hp u⟩
theorem z14.later{mid:Nat}(h:z14 w base mid v l){p:Addr}(hp:p.block < base)(u:Value):z14 (w.setCell p u) base mid v l:=by
 obtain⟨rs,h1,h3⟩:=h;exact⟨rs,h1.imp fun _ _ h=>⟨h.1.later hp u,h.2⟩,z03 h3 hp u⟩
theorem z44.later(h:z44 w base v ls){p:Addr}(hp:p.block < base)(u:Value):z44 (w.setCell p u) base v ls:=by
 obtain⟨vs,h1,h2,h3⟩:=h;exact⟨vs,h1.imp fun _ _ h=>z03 h hp u,h2,z03 h3 hp u⟩
theorem z3g.snoc{w':World}{v':Value}{rs:List (List Value)}(hl:rs.length=l.length)(h:∀(i:Nat) (e:Slt),l[i]? = some e→∃cs:List Value,rs[i]? = some cs∧z24 w' base cs e)(he:z24 w' base cs e)(ho:w'.ownsRow base 50 10 v' (l.length+1) (rs.flatten++cs)):z3g w' base v' (l++[e]):=by
 refine⟨rs++[cs],by simp[hl],fun i x hx=>?_,by simpa using ho⟩;rcases Nat.lt_or_ge i l.length with h1|h1
 ·rw[List.getElem?_append_left h1] at hx;obtain⟨d,h2,h3⟩:=h i x hx;exact⟨d,by rw[List.getElem?_append_left (by omega)];exact h2,h3⟩
 ·have:i=l.length:=by have:=(List.getElem?_eq_some_iff.1 hx).1;simp at this;omega
  subst this;rw[List.getElem?_append_right (Nat.le_refl _),Nat.sub_self] at hx;simp at hx;subst hx;exact⟨cs,by rw[List.getElem?_append_right (by omega),hl,Nat.sub_self];rfl,he⟩
structure OwC(w:World)(a b:Value)(wr:World)(p q:Value):Prop where
 f:Fr [] w wr
 pa:Whole wr w.heap.size 25 [a,b]
 ra:Whole wr (w.heap.size+1) 25 [.slice none 0 0,.slice none 0 0]
 oa:Whole wr (w.heap.size+2) 25 [p,q]
theorem OwC.new(w:World)(a b:Value):OwC w a b (((w.alloc (.cells #[a,b] 25)).alloc (.cells #[.slice none 0 0,.slice none 0 0] 25)).alloc (.cells #[.slice none 0 0,.slice none 0 0] 25)) (.slice none 0 0) (.slice none 0 0):=
 ⟨(((Fr.refl [] w).alloc _).alloc _).alloc _,((Whole.new w _ [a,b]).alloc _).alloc _,by
  have:=(Whole.new (w.alloc (.cells #[a,b] 25)) 25 [.slice none 0 0,.slice none 0 0]).alloc (.cells #[.slice none 0 0,.slice none 0 0] 25);simpa using this,by
  have:=Whole.new ((w.alloc (.cells #[a,b] 25)).alloc (.cells #[.slice none 0 0,.slice none 0 0] 25)) 25 [.slice none 0 0,.slice none 0 0];simpa using this⟩
theorem OwC.go(h:OwC w a b wr p q)(k:Fr [] wr w1):OwC w a b w1 p q:=⟨h.f.trans k,h.pa.fr k (by simp),h.ra.fr k (by simp),h.oa.fr k (by simp)⟩
theorem OwC.grown{T size n base':Nat}{u:Value}{xs:List Value}(h:OwC w a b wr p q)(ho:wr.ownsRow base' T size u n xs)(hb:w.heap.size+3≤base')(hg:wr.grownBy w1 u.ownBlock):OwC w a b w1 p q:=
 have hk:∀j,u.ownBlock=some j→w.heap.size+3≤j:=fun j hj=>Nat.le_trans hb (ho.lt j hj).1
 ⟨h.f.grown hg (fun j hj=>.inr (by have:=hk j hj;omega)),h.pa.grown hg (fun e=>by have:=hk _ e.symm;omega),h.ra.grown hg (fun e=>by have:=hk _ e.symm;omega),h.oa.grown hg (fun e=>by have:=hk _ e.symm;omega)⟩
theorem OwC.put0(h:OwC w a b wr p q)(u:Value):OwC w a b (wr.setCell ⟨w.heap.size+2,0,none⟩ u) u q:=
 ⟨h.f.setCell (.inr (by show w.heap.size≤w.heap.size+2;omega)) u,h.pa.far (by show w.heap.size≠w.heap.size+2;omega) u,h.ra.far (by show w.heap.size+1≠w.heap.size+2;omega) u,h.oa.set_ 0 u⟩
theorem OwC.put1(h:OwC w a b wr p q)(u:Value):OwC w a b (wr.setCell ⟨w.heap.size+2,1,none⟩ u) p u:=
 ⟨h.f.setCell (.inr (by show w.heap.size≤w.heap.size+2;omega)) u,h.pa.far (by show w.heap.size≠w.heap.size+2;omega) u,h.ra.far (by show w.heap.size+1≠w.heap.size+2;omega) u,h.oa.set_ 1 u⟩
end
theorem zk5{w:World}{base:Nat}{vs:List Value}{ls:List (List ByteArray)}(h:z6h (TxO w base) vs ls):∀u∈vs,u.oneCell'=true:=fun u hu=>by
 obtain⟨x,-,hx⟩:=h.mem hu;exact hx.one
def StI(w:World)(base:Nat)(v:Value)(s:Sto):Prop:=∃mid a b,v=.agg #[a,b]∧base≤mid∧z14 w base mid a s.slots∧z44 w mid b s.segs
def OwnSt(base:Nat)(s:Sto)(w:World)(r:Ending)(w':World):Prop:=∃u,r=.returned u∧StI w' base u s∧Fr [] w w'
structure Bulk(s:Sto):Prop where
 it:∀e∈s.slots,e.item.list.length≤1000000∧e.item.pairs.length≤1000000∧e.item.scores.length≤1000000
 sl:s.slots.length≤1000000
 sg:s.segs.length≤1000000
 rw_:∀l∈s.segs,l.length≤1000000
theorem z3x(s:Sto)(v:Value)(w:World)(B:Nat)(hs:s.Small)(hk:Bulk s)(hB:B≤w.heap.size)(h:z2h w B v s):
  Calls prog 20 #[v] w (OwnSt (w.heap.size+3) s w):=by
 obtain⟨a,b,rfl,h1,h2⟩:=h;obtain⟨A,c,rfl⟩:=h1.form;obtain⟨RA,rc,rfl⟩:=h2.form;obtain⟨i0,hi,hz0,hz1,hz2⟩:=info_parts zii;obtain⟨j0,hj,hjz0,hjz1,hjz2⟩:=info_parts z9t;have HV:=hid h1;have HR:=hid h2;have HS:=hid hs;have HK:=hid hk;have hn1:=hk.sl;have hn2:=hk.sg;obtain⟨a0,ha0⟩:∃a0,a0=Value.slice A s.slots.length c:=⟨_,rfl⟩;obtain⟨b0,hb0⟩:∃b0,b0=Value.slice RA s.segs.length rc:=⟨_,rfl⟩;have O0:=hid (OwC.new w (.slice A s.slots.length c) (.slice RA s.segs.length rc));obtain⟨p0,p1⟩:=two O0.out.pa;have O0:=hid (show OwC w a0 b0 _ (.slice none 0 0) (.slice none 0 0) from by rw[ha0,hb0];exact O0.out);have HB0:=hid hb0;clear h1 h2 hs hk ha0 hb0;go_enter Tryz.func20,Tryz.ntmps20;go_wp2;clear p0 p1;go_loopg [11] s.slots.length (fun g i wr=>∃(k:Nat) (o:Value),g=s.slots.length - k∧k≤s.slots.length∧i=.int .i64 k∧z3g wr (w.heap.size+3) o (s.slots.take k)∧OwC w a0 b0 wr o (.slice none 0 0))
 case atStart=>exact⟨0,_,rfl,Nat.zero_le _,rfl,by rw[List.take_zero];exact z3g.nil _ _,O0.out⟩
 case round=>
  obtain⟨k,o,rfl,hk,rfl,hO,hW⟩:=hrel;have HO:=hid hO;have OC:=hid hW;have HF:=hid hW.f;have hlt0:(s.slots.take k).length=k:=by rw[List.length_take];omega
  obtain⟨Ao,co,hv⟩:=hO.form;rw[hlt0] at hv;subst hv;have hzr:w.heap.size+2 < wr.heap.size:=hW.oa.lt;clear hO hW hlt0;by_cases hlt:k < s.slots.length
  ·obtain⟨b,off,rfl,hb,hc,hmx,hat⟩:=HV.out.at_ (by omega);obtain⟨e,he⟩:∃e,s.slots[k]? = some e:=⟨_,List.getElem?_eq_getElem hlt⟩;obtain⟨A1,A2,A3,c1,c2,c3,h10⟩:=hat k e he;have hem:=List.mem_of_getElem? he;have P10:=hid (h10.fr HF.out hb hB (by simp));obtain⟨x0,x1,x2,x3,x4,x5,x6,x7,x8,x9,-⟩:=P10.out;have ET:=hid (show s.slots.take (k+1)=s.slots.take k++[e] from by rw[List.take_add_one,he];rfl);have LT:=hid (show(s.slots.take k).length=k from by rw[List.length_take];omega);have V1:=hid (Whole.new wr 50 [.string e.key,.bool e.cold,.int .i64 e.item.kind,.string e.item.text,.slice A1 e.item.list.length c1,.slice A2 e.item.pairs.length c2,.slice A3 e.item.scores.length c3,.int .i64 e.seg,.int .i64 e.rcd,.int .i64 e.til]);have F1:=hid ((Fr.refl [] wr).alloc (.cells #[.string e.key,.bool e.cold,.int .i64 e.item.kind,.string e.item.text,.slice A1 e.item.list.length c1,.slice A2 e.item.pairs.length c2,.slice A3 e.item.scores.length c3,.int .i64 e.seg,.int .i64 e.rcd,.int .i64 e.til] 50));obtain⟨n1,n2,n3⟩:=HK.out.it e hem;have OW:=hid (z5k e.item _ _ B (HS.out.slots e hem).item n1 n2 n3 (Nat.le_trans hB (Nat.le_trans HF.out.size F1.out.size)) ((P10.out.ent.fr F1.out (Nat.le_trans hB HF.out.size) (by simp)).item));clear hat h10 he hem n1 n2 n3;go_wp2_with fail;refine OW.out.mono ?_;rintro e2 w2 ⟨u,rfl,hi2,f2⟩;have V2:=hid (V1.out.fr f2 (by simp));have G2:=hid (F1.out.trans f2);have HI2:=hid hi2;obtain⟨P1,p1,P2,p2,P3,p3,rfl⟩:=hi2.form;have hzw2:=V2.out.lt;clear hi2 f2 x0 x1 x2 x3 x4 x5 x6 x7 x8 x9;obtain⟨y0,y1,y2,y3,y4,y5,y6,y7,y8,y9⟩:=ten V2.out;obtain⟨z0,z1,z2,z3,z4,z5,z6,z7,z8,z9⟩:=tenF V2.out;obtain⟨W3,hW3⟩:∃W3,W3=((((w2.setCell ⟨wr.heap.size,2,none⟩ (.int .i64 e.item.kind)).setCell ⟨wr.heap.size,3,none⟩ (.string e.item.text)).setCell ⟨wr.heap.size,4,none⟩ (.slice P1 e.item.list.length p1)).setCell ⟨wr.heap.size,5,none⟩ (.slice P2 e.item.pairs.length p2)).setCell ⟨wr.heap.size,6,none⟩ (.slice P3 e.item.scores.length p3):=⟨_,rfl⟩
   have G3:=hid (show Fr [] wr W3 from by
    rw[hW3];exact(((((G2.out.setCell (p:=⟨wr.heap.size,2,none⟩) (.inr (Nat.le_refl _)) _).setCell (p:=⟨wr.heap.size,3,none⟩) (.inr (Nat.le_refl _)) _).setCell (p:=⟨wr.heap.size,4,none⟩) (.inr (Nat.le_refl _)) _).setCell (p:=⟨wr.heap.size,5,none⟩) (.inr (Nat.le_refl _)) _).setCell (p:=⟨wr.heap.size,6,none⟩) (.inr (Nat.le_refl _)) _))
   have V3:=hid (show Whole W3 wr.heap.size 50 [.string e.key,.bool e.cold,.int .i64 e.item.kind,.string e.item.text,.slice P1 e.item.list.length p1,.slice P2 e.item.pairs.length p2,.slice P3 e.item.scores.length p3,.int .i64 e.seg,.int .i64 e.rcd,.int .i64 e.til] from by
    rw[hW3];exact(((((V2.out.set_ 2 _).set_ 3 _).set_ 4 _).set_ 5 _).set_ 6 _))
   have HI3:=hid (show z24 W3 (w.heap.size+3) (z1f e P1 p1 P2 p2 P3 p3) e from by
    rw[hW3];obtain⟨L1,L2,L3,hv,o1,o2,o3⟩:=HI2.out;cases hv;have hbz:wr.heap.size < (wr.alloc (.cells #[.string e.key,.bool e.cold,.int .i64 e.item.kind,.string e.item.text,.slice A1 e.item.list.length c1,.slice A2 e.item.pairs.length c2,.slice A3 e.item.scores.length c3,.int .i64 e.seg,.int .i64 e.rcd,.int .i64 e.til] 50)).heap.size:=by simp
    exact⟨_,_,_,_,_,_,rfl,z09 (z03 (z03 (z03 (z03 (z03 o1 hbz _) hbz _) hbz _) hbz _) hbz _) (by omega),z09 (z03 (z03 (z03 (z03 (z03 o2 hbz _) hbz _) hbz _) hbz _) hbz _) (by omega),z09 (z03 (z03 (z03 (z03 (z03 o3 hbz _) hbz _) hbz _) hbz _) hbz _) (by omega)⟩)
   have HO3:=hid (HO.out.fr G3.out);have OC3:=hid (OC.out.go G3.out);have HW3:=hid hW3;clear hW3;go_upto_region 6 with fail;rw[←HW3.out];clear HW3 y0 y1 y2 y3 y4 y5 y6 y7 y8 y9 z0 z1 z2 z3 z4 z5 z6 z7 z8 z9;obtain⟨y0,y1,y2,y3,y4,y5,y6,y7,y8,y9⟩:=ten V3.out;obtain⟨u0,u1⟩:=two OC3.out.oa;obtain⟨rs,hr1,hr2,hr3⟩:=HO3.out;have HR3:=hid (show W3.ownsRow (w.heap.size+3) 50 10 (.slice Ao k co) k rs.flatten from by have:=hr3;rw[LT.out] at this;exact this);have HR1:=hid hr1;have HR2:=hid hr2;have hzz:wr.heap.size≤W3.heap.size:=G3.out.size;have hO1:=hid (z0o (World.ownsRow_lit (base:=W3.heap.size) (e:=50) (size:=10) W3 #[.string e.key,.bool e.cold,.int .i64 e.item.kind,.string e.item.text,.slice P1 e.item.list.length p1,.slice P2 e.item.pairs.length p2,.slice P3 e.item.scores.length p3,.int .i64 e.seg,.int .i64 e.rcd,.int .i64 e.til] 1 (Nat.le_refl _) (by decide) rfl));clear hr1 hr2 hr3;go_wp2_with (at_builtin;refine z0b _ rfl _ _ 22 rfl (w.heap.size+3) 50 i0 _ 10 144 Tryz.underlying22 hi hz0 hz1 hz2 rfl (by decide) _ _ _ rfl (HR3.out.alloc _) _ _ 1 _ rfl hO1.out (z65 e P1 P2 P3 p1 p2 p3) ?c1 ?c2 ?c3 ?_)
   case c1=>unfold maxLen;omega
   case c2=>omega
   case c3=>first|omega|(simp;omega)
   intro v' w5 hown hgrow hat5;have HO5:=hid hown;have HG5:=hid hgrow;obtain⟨A5,c5,rfl,-⟩:=z02 hown;have OA:=hid (HR3.out.alloc (.cells #[.string e.key,.bool e.cold,.int .i64 e.item.kind,.string e.item.text,.slice P1 e.item.list.length p1,.slice P2 e.item.pairs.length p2,.slice P3 e.item.scores.length p3,.int .i64 e.seg,.int .i64 e.rcd,.int .i64 e.til] 50));have OC5:=hid ((OC3.out.go ((Fr.refl [] W3).alloc (.cells #[.string e.key,.bool e.cold,.int .i64 e.item.kind,.string e.item.text,.slice P1 e.item.list.length p1,.slice P2 e.item.pairs.length p2,.slice P3 e.item.scores.length p3,.int .i64 e.seg,.int .i64 e.rcd,.int .i64 e.til] 50))).grown OA.out (Nat.le_refl _) hgrow)
   have HE:=hid (show z3g w5 (w.heap.size+3) (.slice A5 (k+1) c5) (s.slots.take (k+1)) from by
    rw[ET.out];have ff:=z1q HG5.out;refine z3g.snoc HR1.out (fun i x hx=>?_) ((HI3.out.fr ((Fr.refl [] W3).alloc _)).row OA.out z2v ff) (by rw[LT.out];exact HO5.out);obtain⟨d,h3,h4⟩:=HR2.out i x hx;exact⟨d,h3,(h4.fr ((Fr.refl [] W3).alloc _)).row OA.out z2v ff⟩)
   clear hown hgrow hat5 u0 u1 y0 y1 y2 y3 y4 y5 y6 y7 y8 y9;obtain⟨u0,u1⟩:=two OC5.out.oa;obtain⟨v0,v1⟩:=zcs OC5.out.oa;go_wp2;go_roundg (s.slots.length - (k+1))
   case measure=>omega
   case rel=>exact⟨k+1,_,rfl,by omega,by go_num,HE.out.later (by show w.heap.size+2 < w.heap.size+3;omega) _,OC5.out.put0 _⟩
  obtain rfl:k=s.slots.length:=by omega
  rw[List.take_length] at HO;rw[HB0.out] at OC;obtain⟨p0,p1⟩:=two OC.out.pa;go_wp2;rw[←HB0.out] at OC;clear p0 p1;obtain⟨mid,hmid0⟩:∃mid,mid=wr.heap.size:=⟨_,rfl⟩;have hm3:w.heap.size+3≤mid:=by omega
  have HI0:=hid (show z14 wr (w.heap.size+3) mid (.slice Ao s.slots.length co) s.slots from by rw[hmid0];exact HO.out.i);have HM0:=hid hmid0;clear hmid0;go_loopg [29] s.segs.length (fun g i wx=>∃(k:Nat) (o:Value),g=s.segs.length - k∧k≤s.segs.length∧i=.int .i64 k∧z44 wx mid o (s.segs.take k)∧z14 wx (w.heap.size+3) mid (.slice Ao s.slots.length co) s.slots∧mid≤wx.heap.size∧OwC w a0 b0 wx (.slice Ao s.slots.length co) o)
  case atStart=>exact⟨0,_,rfl,Nat.zero_le _,rfl,by rw[List.take_zero];exact z44.nil _ _,HI0.out,by rw[HM0.out];exact Nat.le_refl _,OC.out⟩
  case round=>
  obtain⟨k,o,rfl,hk,rfl,hO,hSl,hmid,hW⟩:=hrel;obtain⟨wx,rfl⟩:∃wx,wx=wr:=⟨_,rfl⟩;have OC2:=hid hW;have HF2:=hid hW.f;have HSL:=hid hSl;have hlt0:(s.segs.take k).length=k:=by rw[List.length_take];omega
  obtain⟨Aq,cq,hv⟩:=hO.form;rw[hlt0] at hv;subst hv;have hzx:w.heap.size+2 < wx.heap.size:=hW.oa.lt;have HSEG:=hid hO;clear hO hW hSl hlt0;by_cases hlt:k < s.segs.length
  ·obtain⟨b,off,rfl,hb,hc,hmx,hat⟩:=HR.out.at_ (by omega);obtain⟨l,hl⟩:∃l,s.segs[k]? = some l:=⟨_,List.getElem?_eq_getElem hlt⟩;obtain⟨A1,c1,x0,s0⟩:=hat k l hl;have x1:=HF2.out.cell x0 (by simp);have hlm:=List.mem_of_getElem? hl;have hl1:=HK.out.rw_ l hlm;have CL:=hid (fun W (hW:Fr [] wx W)=>z6s l.length (z04 l) A1 c1 W B hl1 (Nat.le_trans hB (HF2.out.trans hW).size) (s0.fr (HF2.out.trans hW) hB (by simp)) (z3b l));have ET:=hid (show s.segs.take (k+1)=s.segs.take k++[l] from by rw[List.take_add_one,hl];rfl);have LT:=hid (show(s.segs.take k).length=k from by rw[List.length_take];omega);obtain⟨vs,hr1,hr2,hr3⟩:=HSEG.out;have HQ:=hid (show wx.ownsRow mid 41 1 (.slice Aq k cq) k vs from by have:=hr3;rw[LT.out] at this;exact this);have HR1:=hid hr1;have HR2:=hid hr2;have q1:k+1≤maxLen:=by unfold maxLen;omega
   have q2:(k+1) * 24≤140737488355328:=by omega
   obtain⟨u0,u1⟩:=two OC2.out.oa;have T3:=HK.out;unfold maxLen at hmx;clear hat hl x0 s0 hlm hl1 hr1 hr2 hr3 T3;go_wp2
   go_region_law (first
    | (refine z3r _ (by rfl) _ _ 23 (by rfl) mid 41 j0 _ 1 24 Tryz.underlying23 hj hjz0 hjz1 hjz2 rfl (by decide) _ _ _ (by rfl) (HQ4.out.alloc _) _ _ 1 _ (by rfl) hO4.out (by simp[Value.oneCell']) q1 q2 q4 ?_
       intro v' w5 hown hgrow hat5;obtain⟨A5,c5,rfl,-⟩:=z02 hown;have OQ:=hid (HQ4.out.alloc (.cells #[.slice U l.length cu] 41));have OC5:=hid ((OC4.out.go ((Fr.refl [] w4).alloc (.cells #[.slice U l.length cu] 41))).grown OQ.out hm3 hgrow);have HG5:=hid hgrow;have HO5:=hid hown;clear hown hgrow hat5 u0 u1 ua;obtain⟨u0,u1⟩:=two OC5.out.oa;obtain⟨v0,v1⟩:=zcs OC5.out.oa)
    | (go_simp
       go_at_call 40;refine(CL.out _ (Fr.refl [] _).drew).mono ?_;rintro e4 w4 ⟨u,rfl,ou,f4⟩;have F4:=hid (z01 f4);have HU:=hid (show w4.ownsRow wx.heap.size 9 1 u l.length (z04 l) from ou);obtain⟨U,cu,rfl,-⟩:=z02 ou;have OC4:=hid (OC2.out.go F4.out);have HQ4:=hid (z05 HQ.out F4.out (by simp));have HL4:=hid (HR1.out.imp fun _ _ h=>z05 h F4.out (by simp));have hz4:=F4.out.size;have hO4:=hid (z0o (World.ownsRow_lit (base:=w4.heap.size) (e:=41) (size:=1) w4 #[.slice U l.length cu] 1 (Nat.le_refl _) (by decide) rfl));have q4:mid≤(w4.alloc (.cells #[.slice U l.length cu] 41)).heap.size:=by simp;omega
       clear ou f4 u0 u1 x1;obtain⟨u0,u1⟩:=two OC4.out.oa;have ua:(w4.alloc (.cells #[.slice U l.length cu] 41)).cell? ⟨w.heap.size+2,1,none⟩=some (.slice Aq k cq):=(OC4.out.oa.alloc _).cell 1))
   all_goals
    have HE:=hid (show z44 w5 mid (.slice A5 (k+1) c5) (s.segs.take (k+1)) from by
     rw[ET.out];have ga:=(Fr.refl [] w4).alloc (.cells #[.slice U l.length cu] 41);refine z44.snoc (HL4.out.imp fun _ _ h=>z05 h ga (by simp)) HR2.out (z05 (z09 HU.out (by omega)) ga (by simp)) (fun y hy j hj hk=>?_) LT.out OQ.out HG5.out HO5.out;obtain⟨z,-,hz⟩:=HR1.out.mem hy;have h1:=(hz.lt j hj).2;have h2:=(HU.out.lt j hk).1;omega)
    have hm5:=hid (Nat.le_trans q4 HG5.out.size);have HS5:=hid (show z14 w5 (w.heap.size+3) mid (.slice Ao s.slots.length co) s.slots from((HSL.out.go F4.out).go ((Fr.refl [] w4).alloc _)).row OQ.out ⟨z3w,by decide⟩ (z1q HG5.out));go_wp2;go_roundg (s.segs.length - (k+1))
    case measure=>omega
    case rel=>exact⟨k+1,_,rfl,by omega,by go_num,HE.out.later (by show w.heap.size+2 < mid;omega) _,HS5.out.later (by show w.heap.size+2 < w.heap.size+3;omega) _,by show mid≤(w5.setCell _ _).heap.size;rw[show(w5.setCell ⟨w.heap.size+2,1,none⟩ (.slice A5 (k+1) c5)).heap.size=w5.heap.size from by simp[World.setCell]];exact hm5.out,OC5.out.put1 _⟩
  obtain rfl:k=s.segs.length:=by omega
  rw[List.take_length] at HSEG;obtain⟨u0,u1⟩:=two OC2.out.oa;obtain⟨r0,r1⟩:=two OC2.out.ra;obtain⟨f0,f1⟩:=zcs OC2.out.ra;go_wp2;refine bodyPost_ret (v:=.agg #[.slice Ao s.slots.length co,.slice Aq s.segs.length cq]) (by simp[results,Tryz.results20,go_sem,r0,r1]) rfl ?_;have hb1:w.heap.size+1 < w.heap.size+3:=by omega
  have hb2:w.heap.size+1 < mid:=by omega
  exact⟨_,rfl,⟨mid,_,_,rfl,hm3,(HSL.out.later (p:=⟨w.heap.size+1,0,none⟩) hb1 _).later (p:=⟨w.heap.size+1,1,none⟩) hb1 _,(HSEG.out.later (p:=⟨w.heap.size+1,0,none⟩) hb2 _).later (p:=⟨w.heap.size+1,1,none⟩) hb2 _⟩,(OC2.out.f.setCell (p:=⟨w.heap.size+1,0,none⟩) (.inr (by show w.heap.size≤w.heap.size+1;omega)) _).setCell (p:=⟨w.heap.size+1,1,none⟩) (.inr (by show w.heap.size≤w.heap.size+1;omega)) _⟩
end Go.Proofs.YtmkhmejempcimaaGreatDoor
