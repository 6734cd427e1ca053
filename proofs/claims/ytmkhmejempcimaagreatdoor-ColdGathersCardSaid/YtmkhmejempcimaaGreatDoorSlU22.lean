/- Contracts; no condition but each theorem's own. -/
import Derived.Test.YtmkhmejempcimaaGreatDoorSlU20
import Derived.Sort.KeysCollected
set_option linter.unusedVariables false
set_option linter.unusedSimpArgs false
set_option maxHeartbeats 8000000
set_option maxRecDepth 100000
namespace Go.Proofs.YtmkhmejempcimaaGreatDoor
open Lib (hid)
open Go.Proofs.Tryz (prog)
open Go.RowKit
def zo0(x:Itm)(l:List ByteArray):List ByteArray:=setU (x.list++l)
def pre3(x:Itm)(l:List ByteArray):Int:=if z0a 3 x≠0 then z0a 3 x else z19 l
def add3(x:Itm)(l:List ByteArray):Int:=if pre3 x l≠0 then pre3 x l else if 24 < (zo0 x l).length then 2 else 0
def add3Y(x:Itm)(l:List ByteArray):Itm:=if add3 x l=0 then ofK 3 (zo0 x l) else z2l 0
def add3N(x:Itm)(l:List ByteArray):Int:=if add3 x l=0 then ((zo0 x l).length:Int) - x.list.length else 0
theorem z58{w:World}{base e size n:Nat}{v:Value}{xs:List Value}(h:w.ownsRow base e size v n xs){p:Addr}(hp:p.block < base)(u:Value):(w.setCell p u).ownsRow base e size v n xs:=
 z0c u h (fun he=>by have:=(h.lt _ he).1;omega)
theorem zm7{w:World}{base e size n o:Nat}{v:Value}{xs:List Value}(h:w.ownsRow base e size v n xs)(ho:o < base)(a b c d:Value):(set4 w o a b c d).ownsRow base e size v n xs:=
 z58 (z58 (z58 (z58 h ho _) ho _) ho _) ho _
attribute [local go_sem] z0p
def z70(l:List Ent)(s:ByteArray):List Ent:=l.filter fun e=>decide (e.key≠s)
theorem zne(l:List Ent)(s:ByteArray):(z70 l s).length≤l.length:=List.length_filter_le _ _
theorem zhs{l:List Ent}(hr:rises (ltK Ent.key) l=true){s:ByteArray}(h:z5e Ent.key l s=false):z70 l s=l:=by
 unfold z70;rw[List.filter_eq_self];intro e he;refine decide_eq_true fun hk=>?_;obtain⟨j,hj⟩:=List.getElem?_of_mem he;have:=zcr Ent.key hr hj;rw[hk,h] at this;cases this
theorem zin{l:List Ent}(hr:rises (ltK Ent.key) l=true){s:ByteArray}(h:z5e Ent.key l s=true):z70 l s=l.take (z1k Ent.key l s)++l.drop (z1k Ent.key l s+1):=by
 obtain⟨e,he,rfl⟩:=(z2z Ent.key).1 h;have hk:=(List.getElem?_eq_some_iff.1 he).1
 have e1:l=l.take (z1k Ent.key l e.key)++e :: l.drop (z1k Ent.key l e.key+1):=by
  have h1:l.drop (z1k Ent.key l e.key)=e :: l.drop (z1k Ent.key l e.key+1):=by
   rw[List.drop_eq_getElem_cons hk];congr 1;rw[List.getElem?_eq_getElem hk] at he;exact Option.some.inj he
  rw[←h1,List.take_append_drop]
 have no:∀(i:Nat) (a:Ent),l[i]? = some a→i≠z1k Ent.key l e.key→a.key≠e.key:=fun i a ha hi hk=>by
  have h1:=zex Ent.key hr ha;rw[hk] at h1;exact hi h1.symm
 generalize z1k Ent.key l e.key=k at *;unfold z70
 conv=>lhs;rw[e1]
 rw[List.filter_append,List.filter_cons,if_neg (by simp)];congr 1
 ·rw[List.filter_eq_self];intro a ha;obtain⟨i,hi⟩:=List.getElem?_of_mem ha;rw[List.getElem?_take] at hi;split at hi
  ·exact decide_eq_true (no i a hi (by omega))
  ·cases hi
 ·rw[List.filter_eq_self];intro a ha;obtain⟨i,hi⟩:=List.getElem?_of_mem ha;rw[List.getElem?_drop] at hi;exact decide_eq_true (no _ a hi (by omega))
theorem zos{l:List Ent}{s:ByteArray}{k:Nat}(h1:∀(i:Nat) (a:Ent),i < k→l[i]? = some a→z36 a.key s < 0)(h2:∀a,l[k]? = some a→¬z36 a.key s < 0)(hk:k≤l.length):z1k Ent.key l s=k:=by
 rcases Nat.lt_trichotomy (z1k Ent.key l s) k with h|h|h
 ·obtain⟨a,ha⟩:∃a,l[z1k Ent.key l s]? = some a:=⟨_,List.getElem?_eq_getElem (by omega)⟩;exact absurd (h1 _ a h ha) (z9x Ent.key ha)
 ·exact h
 ·have hl:=z6j Ent.key l s;obtain⟨a,ha⟩:∃a,l[k]? = some a:=⟨_,List.getElem?_eq_getElem (by omega)⟩;exact absurd (z6q Ent.key h ha) (h2 a ha)
theorem znr{l:List Ent}(hr:rises (ltK Ent.key) l=true)(s:ByteArray):z1k Ent.key (z70 l s) s=z1k Ent.key l s:=by
 have hle:=z6j Ent.key l s;rcases hh:z5e Ent.key l s with _|_
 ·rw[zhs hr hh]
 ·rw[zin hr hh];obtain⟨e,he,hk⟩:=(z2z Ent.key).1 hh;have hlt:=(List.getElem?_eq_some_iff.1 he).1;refine zos (fun i a hi ha=>?_) (fun a ha=>?_) (by rw[List.length_append,List.length_take];omega)
  ·rw[List.getElem?_append_left (by rw[List.length_take];omega),List.getElem?_take,if_pos hi] at ha;exact z6q Ent.key hi ha
  ·rw[List.getElem?_append_right (by rw[List.length_take];omega),List.length_take,Nat.min_eq_left hle,Nat.sub_self,List.getElem?_drop] at ha;exact ze9 Ent.key hr (by omega) ha
def zlq(l:List Ent)(e:Ent):List Ent:=zi1 l e (z1k Ent.key l e.key)
def zmh(l:List Ent)(now:Int)(s:ByteArray)(x:Itm)(u:Int):List Ent:=if 16 < (zlq (z70 l s) ⟨s,x,u⟩).length then zj5 (zlq (z70 l s) ⟨s,x,u⟩) now else zlq (z70 l s) ⟨s,x,u⟩
def z7k(l:List Ent)(now:Int)(s:ByteArray)(x:Itm)(u:Int):Int:=if z0m x=true then 0 else if 16 < (zmh l now s x u).length then 2 else 0
def zjc(l:List Ent)(now:Int)(s:ByteArray)(x:Itm)(u:Int):List Ent:=if z0m x=true then z70 l s else if 16 < (zmh l now s x u).length then [] else zmh l now s x u
theorem zcf{w:World}{base:Nat}{rs:List (List Value)}{l:List Ent}(h:Rel (z1n w base) rs l):∀c∈rs,c.length=7:=fun c hc=>by
 obtain⟨e,_,he⟩:=h.mem hc;exact he.len
theorem zel{w:World}{base:Nat}{rs:List (List Value)}{l:List Ent}(h:Rel (z1n w base) rs l):∀u∈rs.flatten,u.oneCell'=true:=fun u hu=>by
 obtain⟨c,hc,huc⟩:=List.mem_flatten.1 hu;obtain⟨e,_,A1,c1,A2,c2,A3,c3,rfl,_⟩:=h.mem hc;exact z7q _ _ _ _ _ _ _ u huc
def zeh(l:List Ent)(base:Nat)(v:Value)(w:World)(r:Ending)(w':World):Prop:=∃v',r=.returned v'∧z1a w' base v' l∧Fr (z1o v) w w'∧∀k,k∈z1o v'→k∈z1o v∨w.heap.size≤k
theorem z7v{v v':Value}(h:v'.ownBlock=v.ownBlock):z1o v'=z1o v:=by
 unfold Value.ownBlock at h;unfold z1o;split at h <;> split at h <;> simp_all
theorem zni(l:List Ent)(k:Nat)(base:Nat)(v:Value)(w:World)(hl:l.length≤1000000)(hk:k < l.length)(h:z1a w base v l):
  Calls prog 231 #[v,.int .i64 k,.int .i64 (k+1)] w (zeh (l.take k++l.drop (k+1)) base v w):=by
 obtain⟨rs,h1,h2,h3⟩:=h;have R:Rel (z1n w base) rs l:=⟨h1,h2⟩;have a7:=zcf R;have D:=zm2 l.length k (k+1) rs.flatten base v w (by omega) (by omega) (by omega) h3 (zel R);rw[show((k+1:Nat):Int)=(k:Int)+1 from by omega] at D;refine D.mono ?_;rintro e w1 ⟨v',rfl,ho,hg,hb⟩;have hf:=z1q hg;rw[z56 7 rs k a7,z6r 7 rs (k+1) a7,←List.flatten_append] at ho;have R2:=((R.take k).append (R.drop (k+1))).imp (fun cs e he=>he.row h3 z1d hf);refine⟨v',rfl,⟨_,R2.len,R2.at_,?_⟩,hf,fun q hq=>.inl (by rw[z7v hb] at hq;exact hq)⟩;have e:(l.take k++l.drop (k+1)).length=k+(l.length - (k+1)):=by rw[List.length_append,List.length_take,List.length_drop];omega
 rw[e];exact ho
theorem znu(l:List Ent)(e:Ent)(cs:List Value)(k gv:Nat)(base:Nat)(v:Value)(w:World)(hl:l.length≤1000000)(hk:k≤l.length)(h:z1a w base v l)(he:z1n w base cs e)(hgv:Whole w gv 74 cs)(hne:v.ownBlock≠some gv)(hb:base≤w.heap.size):
  Calls prog 232 #[v,.int .i64 k,.slice (some ⟨gv,0,none⟩) 1 1] w (zeh (zi1 l e k) base v w):=by
 obtain⟨rs,h1,h2,h3⟩:=h;have R:Rel (z1n w base) rs l:=⟨h1,h2⟩;have a7:=zcf R
 have one:∀u∈cs,u.oneCell'=true:=by
  obtain⟨A1,c1,A2,c2,A3,c3,rfl,_⟩:=he;exact z7q _ _ _ _ _ _ _
 refine(zlf l.length k rs.flatten cs base gv v w (by omega) hk h3 (zel R) one he.len hgv hne hb).mono ?_;rintro r w1 ⟨v',rfl,ho,hg,hbl⟩;have hf:=z1q hg;unfold z2d at ho;rw[z56 7 rs k a7,z6r 7 rs k a7,show(rs.take k).flatten++cs++(rs.drop k).flatten=(rs.take k++cs :: rs.drop k).flatten from by simp] at ho;have R2:=((R.take k).append (Rel.cons he (R.drop k))).imp (fun cs e he=>he.row h3 z1d hf);refine⟨v',rfl,⟨_,R2.len,R2.at_,?_⟩,hf,fun q hq=>?_⟩
 ·rw[z7a l e hk];exact ho
 ·rcases hbl with h5|h5
  ·rw[z7v h5] at hq;exact .inl hq
  ·refine .inr ?_;unfold z1o at hq;split at hq
   ·simp at hq;subst hq;simp[Value.ownBlock] at h5;omega
   ·cases hq
def znk(l:List Ent)(c:Int)(base:Nat)(v:Value)(w:World)(r:Ending)(w':World):Prop:=∃u,r=.returned (.tuple #[u,.int .i64 c])∧z1a w' base u l∧Fr (z1o v) w w'
theorem zj6{w w':World}{base base' T size n:Nat}{v xv:Value}{xs:List Value}{x:Itm}(h:z0l w base xv x)(ho:w.ownsRow base' T size v n xs)(hT:9≠T∧108≠T∧110≠T)(hf:Fr (z1o v) w w'):z0l w' base xv x:=by
 obtain⟨L1,L2,L3,he,h1,h2,h3⟩:=h;exact⟨L1,L2,L3,he,z05 h1 hf (z0i h1 ho hT.1),z05 h2 hf (z0i h2 ho hT.2.1),z05 h3 hf (z0i h3 ho hT.2.2)⟩
def CutR(l':List Ent)(base:Nat)(v:Value)(xv:Value)(x:Itm)(cells:List Value)(w:World)(sv:Value)(wx:World):Prop:=
 ∃A c,sv=.slice A l'.length c∧z1a wx base (.slice A l'.length c) l'∧Fr (z1o v) w wx∧(∀k,k∈z1o (.slice A l'.length c)→k∈z1o v∨w.heap.size≤k)∧Whole wx w.heap.size 46 cells∧z0l wx base xv x
def zq0(l':List Ent)(base:Nat)(v:Value)(w:World)(sv:Value)(wx:World):Prop:=
 ∃A c,sv=.slice A l'.length c∧z1a wx base (.slice A l'.length c) l'∧Fr (z1o v) w wx
theorem zco(l:List Ent)(v:Value)(now:Int)(s:ByteArray)(x:Itm)(xv:Value)(u:Int)(base:Nat)(w:World)(hr:rises (ltK Ent.key) l=true)(hl:l.length≤1000)(hsx:x.Small)(h:z1a w base v l)(hx:z0l w base xv x)(hb:base≤w.heap.size):
  Calls prog 182 #[v,.int .i64 now,.string s,xv,.int .i64 u] w (znk (zjc l now s x u) (z7k l now s x u) base v w):=by
 obtain⟨A,c,rfl⟩:=h.form;obtain⟨X1,x1,X2,x2,X3,x3,rfl⟩:=hx.form;have D0:=hid (BX.new w (.int .i64 x.kind) (.string x.text) (.slice X1 x.list.length x1) (.slice X2 x.pairs.length x2) (.slice X3 x.scores.length x3));have FD:=hid (fun W (hW:Fr [] w W)=>zc6 l s A c w.heap.size W hr (by omega) hW.size ((h.v.fr hW (Nat.le_refl _) (by simp))));unfold z2n at FD;have HO:=hid h;have HX:=hid hx;have HSX:=hid hsx;have HKL:=hid (znr hr s);have HKE:=hid (z6j Ent.key (z70 l s) s);have LOFF:=zne l s
 have HLT:∀k,k∈z1o (.slice A l.length c)→k < w.heap.size:=fun k hk=>by
  obtain⟨rs0,_,_,h30⟩:=h;exact zd0 h30 k hk
 have HLT2:=hid HLT;have HR:=hid hr;clear h hx hsx HLT hr;go_enter Tryz.func182,Tryz.ntmps182;go_wp2_with fail;refine(FD.out _ D0.out.f).mono ?_;rintro e1 w1 ⟨rfl,f1⟩;have D1:=hid (D0.out.go f1);have HO1:=hid (HO.out.fr D1.out.f);have HX1:=hid (HX.out.go D1.out.f);clear f1
 go_upto_if 20 with fail
 go_cut [0,13] (fun sv _ wx=>CutR (z70 l s) base (.slice A l.length c) (.agg #[.int .i64 x.kind,.string x.text,.slice X1 x.list.length x1,.slice X2 x.pairs.length x2,.slice X3 x.scores.length x3]) x [.int .i64 x.kind,.string x.text,.slice X1 x.list.length x1,.slice X2 x.pairs.length x2,.slice X3 x.scores.length x3] w sv wx)
 case first=>
  rcases hh:z5e Ent.key l s with _|_
  ·have E:=hid (zhs HR.out hh);go_wp2;go_meet
   case rel=>
    rw[E.out];exact⟨A,c,rfl,HO1.out,D1.out.f.up,fun k hk=>.inl hk,D1.out.b,HX1.out⟩
  ·have E:=hid (zin HR.out hh)
   have hkl:z1k Ent.key l s < l.length:=by
    obtain⟨e,he,_⟩:=(z2z Ent.key).1 hh;exact(List.getElem?_eq_some_iff.1 he).1
   have DE:=hid (zni l (z1k Ent.key l s) base (.slice A l.length c) w1 (by omega) hkl HO1.out);rw[←E.out] at DE;generalize z1k Ent.key l s=k at *;go_wp2_with fail;refine DE.out.mono ?_;rintro e2 w2 ⟨v2,rfl,ho,f2,hb2⟩;obtain⟨A2,c2,hv2⟩:=ho.form
   have HH:=hid (show CutR (z70 l s) base (.slice A l.length c) (.agg #[.int .i64 x.kind,.string x.text,.slice X1 x.list.length x1,.slice X2 x.pairs.length x2,.slice X3 x.scores.length x3]) x [.int .i64 x.kind,.string x.text,.slice X1 x.list.length x1,.slice X2 x.pairs.length x2,.slice X3 x.scores.length x3] w v2 w2 from by
    subst hv2;obtain⟨rs1,_,_,hr1⟩:=HO1.out;exact⟨A2,c2,rfl,ho,D1.out.f.up.trans f2,fun q hq=>(hb2 q hq).imp id (fun h=>Nat.le_trans D1.out.f.size h),D1.out.b.fr f2 (fun hm=>by have:=HLT2.out _ hm;omega),zj6 HX1.out hr1 z1d f2⟩)
   clear ho f2 hb2 hv2;go_wp2;go_meet
   case rel=>exact HH.out
 case rest=>
  obtain⟨A2,c2,rfl,ho,f2,hb2,hbx,hix⟩:=hcut;have HO2:=hid ho;have F2:=hid f2;have HB2:=hid hb2;have BX2:=hid hbx;have HX2:=hid hix;have hz2:=hbx.lt;clear ho f2 hb2 hbx hix FD HO HO1 HX HX1 D0 D1;obtain⟨d0,d1,d2,d3,d4⟩:=five BX2.out;have NO:=hid (z5l x (.agg #[.int .i64 x.kind,.string x.text,.slice X1 x.list.length x1,.slice X2 x.pairs.length x2,.slice X3 x.scores.length x3]) _ _ HSX.out (Nat.le_refl _) HX2.out.item);by_cases hn:z0m x=true
  ·have E1:=hid (show zjc l now s x u=z70 l s from if_pos hn);have E2:=hid (show z7k l now s x u=0 from if_pos hn);rw[hn] at NO;clear hn;go_wp2_with fail;refine NO.out.mono ?_;rintro e3 w3 ⟨rfl,f3⟩;have F3:=hid f3;clear f3;go_wp2;go_ret2;rw[E1.out,E2.out];exact⟨_,rfl,HO2.out.fr F3.out,F2.out.trans F3.out.up⟩
  ·have hn':z0m x=false:=by simpa using hn
   have E1:=hid (show zjc l now s x u=if 16 < (zmh l now s x u).length then [] else zmh l now s x u from if_neg hn);have E2:=hid (show z7k l now s x u=if 16 < (zmh l now s x u).length then 2 else 0 from if_neg hn);rw[hn'] at NO;clear hn hn';go_wp2_with fail;refine NO.out.mono ?_;rintro e3 w3 ⟨rfl,f3⟩;have F3:=hid (F2.out.trans f3.up);have HO3:=hid (HO2.out.fr f3);have BX3:=hid (BX2.out.fr f3 (by simp));have HX3:=hid (HX2.out.go f3);have hz3:=f3.size;clear f3 d0 d1 d2 d3 d4;obtain⟨d0,d1,d2,d3,d4⟩:=five BX3.out;have G3:=hid ((Fr.refl [] w3).alloc (.cells #[.string s,.int .i64 x.kind,.string x.text,.slice X1 x.list.length x1,.slice X2 x.pairs.length x2,.slice X3 x.scores.length x3,.int .i64 u] 74));have W3:=hid (Whole.new w3 74 [.string s,.int .i64 x.kind,.string x.text,.slice X1 x.list.length x1,.slice X2 x.pairs.length x2,.slice X3 x.scores.length x3,.int .i64 u])
   have IN:=hid (znu (z70 l s) ⟨s,x,u⟩ [.string s,.int .i64 x.kind,.string x.text,.slice X1 x.list.length x1,.slice X2 x.pairs.length x2,.slice X3 x.scores.length x3,.int .i64 u] (z1k Ent.key (z70 l s) s) w3.heap.size base (.slice A2 (z70 l s).length c2) (w3.alloc (.cells #[.string s,.int .i64 x.kind,.string x.text,.slice X1 x.list.length x1,.slice X2 x.pairs.length x2,.slice X3 x.scores.length x3,.int .i64 u] 74)) (by omega) HKE.out (HO3.out.fr G3.out) (by
    obtain⟨L1,L2,L3,hv,o1,o2,o3⟩:=HX3.out.go G3.out;cases hv;exact⟨_,_,_,_,_,_,rfl,o1,o2,o3⟩) W3.out (by
    intro hq;obtain⟨rs1,_,_,hr1⟩:=HO3.out;have:=(hr1.lt _ hq).2;omega) (by simp;omega))
   rw[show zi1 (z70 l s) ⟨s,x,u⟩ (z1k Ent.key (z70 l s) s)=zlq (z70 l s) ⟨s,x,u⟩ from rfl,HKL.out] at IN;have HL2:=hid (show(zlq (z70 l s) ⟨s,x,u⟩).length=(z70 l s).length+1 from z7a _ _ (z6j _ _ _));have EP:=hid (show zmh l now s x u=if 16 < (zlq (z70 l s) ⟨s,x,u⟩).length then zj5 (zlq (z70 l s) ⟨s,x,u⟩) now else zlq (z70 l s) ⟨s,x,u⟩ from rfl);generalize z1k Ent.key l s=k at *;generalize z70 l s=lo at *;generalize zlq lo ⟨s,x,u⟩=L2 at *;go_wp2_with fail;refine IN.out.mono ?_;rintro e4 w4 ⟨v4,rfl,ho4,f4,hb4⟩;obtain⟨A4,c4,rfl⟩:=ho4.form;have HO4:=hid ho4;have F4:=hid ((F3.out.trans G3.out.up).step f4 (fun q hq=>HB2.out q hq));have HB4:=hid (fun q hq=>(hb4 q hq).elim (fun h=>HB2.out q h) (fun h=>Or.inr (Nat.le_trans (Nat.le_trans F3.out.size G3.out.size) h)));have hl2:L2.length≤1001:=by have:=HL2.out;omega
   clear ho4 f4 hb4 d0 d1 d2 d3 d4 HO3 HO2;generalize zmh l now s x u=P2 at *
   go_upto_if 39 with fail
   go_cut [0,39] (fun sv _ wx=>zq0 P2 base (.slice A l.length c) w sv wx)
   case first=>
    by_cases h16:16 < L2.length
    ·have E3:=hid (EP.out.trans (if_pos h16));have SW:=hid (zi2 L2 (.slice A4 L2.length c4) now base w4 (by omega) HO4.out);rw[←E3.out] at SW;have q16:(L2.length:Int) > 16:=by omega
     clear h16 E3;go_wp2_with fail;refine SW.out.mono ?_;rintro e5 w5 ⟨v5,rfl,ho5,f5⟩;obtain⟨A5,c5,rfl⟩:=ho5.form;have HH:=hid (show zq0 P2 base (.slice A l.length c) w (.slice A5 P2.length c5) w5 from⟨A5,c5,rfl,ho5,F4.out.step f5 (fun q hq=>HB4.out q hq)⟩);clear ho5 f5;go_wp2;go_meet
     case rel=>exact HH.out
    ·have E3:=hid (EP.out.trans (if_neg h16));have q16:¬(L2.length:Int) > 16:=by omega
     clear h16;go_wp2;go_meet
     case rel=>
      rw[E3.out];exact⟨A4,c4,rfl,HO4.out,F4.out⟩
   case rest=>
    obtain⟨A5,c5,rfl,ho5,f5⟩:=hcut;have HO5:=hid ho5;have F5:=hid f5;clear ho5 f5 EP;by_cases h17:16 < P2.length
    ·have E3:=hid (E1.out.trans (if_pos h17));have E4:=hid (E2.out.trans (if_pos h17));have q17:(P2.length:Int) > 16:=by omega
     clear h17;go_wp2;go_ret2;rw[E3.out,E4.out];exact⟨_,rfl,z1a.nil _ _,F5.out⟩
    ·have E3:=hid (E1.out.trans (if_neg h17));have E4:=hid (E2.out.trans (if_neg h17));have q17:¬(P2.length:Int) > 16:=by omega
     clear h17;go_wp2;go_ret2;rw[E3.out,E4.out];exact⟨_,rfl,HO5.out,F5.out⟩
theorem zec(s:Sto):z07 s=if z63 s≠0 then z63 s else zgg s.segs none s.slots:=by
 unfold z07 z63;by_cases h:z4m s=true
 ·simp only[if_pos h];rfl
 ·simp only[if_neg h]
theorem z27(s:Sto)(v:Value)(w:World)(B:Nat)(hs:s.Small)(hB:B≤w.heap.size)(h:z2h w B v s):
  Calls prog 11 #[v] w fun e w'=>e=.returned (.int .i64 (z07 s))∧Fr [] w w':=by
 have RC:=hid (fun W (hW:Fr [] w W)=>zdd s v W B hs (Nat.le_trans hB hW.size) (h.fr hW hB (by simp)));obtain⟨a,b,rfl,h1,h2⟩:=h;obtain⟨SA,sc,rfl⟩:=h1.form;obtain⟨RA,rc,rfl⟩:=h2.form;have F1:=hid ((Fr.refl [] w).alloc (.cells #[.slice SA s.slots.length sc,.slice RA s.segs.length rc] 25));have W1:=hid (Whole.new w 25 [.slice SA s.slots.length sc,.slice RA s.segs.length rc]);obtain⟨x0,x1⟩:=two W1.out;have ER:=zec s;have hle:=hs.le;have hsle:=hs.sle;have HSM:=hid hs;have HV:=hid h1;have HR:=hid h2;clear hs h1 h2;by_cases h0:z63 s=0
 ·rw[if_neg (by simpa using h0)] at ER;rw[h0] at RC;have E0:=hid (show z07 s=zgg s.segs (z5c s.slots 0) (s.slots.drop 0) from ER)
  have hl16:s.slots.length≤16:=by
   unfold z63 at h0;by_cases hm:z4m s=true
   ·rw[if_pos hm] at h0;cases h0
   ·have hm:z4m s=false:=by simpa using hm
    unfold z4m at hm;simp only[Bool.or_eq_false_iff,decide_eq_false_iff_not] at hm;omega
  clear ER h0;go_enter Tryz.func11,Tryz.ntmps11;go_wp2_with fail;refine(RC.out _ F1.out).mono ?_;rintro e1 w1 ⟨rfl,f1⟩;have F2:=hid (F1.out.trans f1);have W2:=hid (W1.out.fr f1 (by simp));clear f1 x0 x1;obtain⟨x0,x1⟩:=two W2.out;go_wp2;clear x0 x1;go_loopg [15] s.slots.length (fun g i wr=>∃(k:Nat),g=s.slots.length - k∧k≤s.slots.length∧i=.int .i64 k∧Hid (z07 s=zgg s.segs (z5c s.slots k) (s.slots.drop k))∧Fr [] w1 wr)
  case atStart=>exact⟨0,rfl,Nat.zero_le _,rfl,E0,Fr.refl _ _⟩
  case round=>
   obtain⟨k,rfl,hk,rfl,HE,hf⟩:=hrel;have HF:=hid (F2.out.trans hf);have HG:=hid hf;have WR:=hid (W2.out.fr hf (by simp));clear hf;by_cases hlt:k < s.slots.length
   ·obtain⟨b,off,rfl,hb,hc,hmx,hat⟩:=HV.out.at_ (by omega);obtain⟨e,he⟩:∃e,s.slots[k]? = some e:=⟨_,List.getElem?_eq_getElem hlt⟩;obtain⟨A1,A2,A3,c1,c2,c3,h10⟩:=hat k e he;have hem:=List.mem_of_getElem? he;have P10:=hid (h10.fr HF.out hb hB (by simp));obtain⟨x0,x1,x2,x3,x4,x5,x6,x7,x8,x9,-⟩:=P10.out;have hes:=HSM.out.slots e hem;have hek:=hes.key;have ST:=hid (HE.out.trans (zj8 he));have SL:=hid (fun W (hW:Fr [] wr W)=>zm8 s.segs (.slice (some ⟨b,off,none⟩) s.slots.length sc) RA rc e A1 A2 A3 c1 c2 c3 W B hes (fun l hl=>(HSM.out.segs l hl).1) hsle rfl (Nat.le_trans hB (HF.out.trans hW).size) (HR.out.fr (HF.out.trans hW) hB (by simp)) (P10.out.ent.fr hW (Nat.le_trans hB HF.out.size) (by simp)))
    have HAT:=hid (fun(j:Nat) (p:Slt) (hj:s.slots[j]? = some p)=>(show wr.cell? ⟨b,off+j * 10,none⟩=some (.string p.key) from by
     obtain⟨_,_,_,_,_,_,g7⟩:=hat j p hj;exact(g7.fr HF.out hb hB (by simp)).k0))
    have HSZ:=hid (fun(j:Nat) (p:Slt) (hj:s.slots[j]? = some p)=>(HSM.out.slots p (List.mem_of_getElem? hj)).key);unfold maxLen at hmx;clear hat h10 HE;have V1:=hid (Whole.new wr 50 [.string e.key,.bool e.cold,.int .i64 e.item.kind,.string e.item.text,.slice A1 e.item.list.length c1,.slice A2 e.item.pairs.length c2,.slice A3 e.item.scores.length c3,.int .i64 e.seg,.int .i64 e.rcd,.int .i64 e.til]);have G1:=hid ((Fr.refl [] wr).alloc (.cells #[.string e.key,.bool e.cold,.int .i64 e.item.kind,.string e.item.text,.slice A1 e.item.list.length c1,.slice A2 e.item.pairs.length c2,.slice A3 e.item.scores.length c3,.int .i64 e.seg,.int .i64 e.rcd,.int .i64 e.til] 50));have WA:=hid (WR.out.alloc (.cells #[.string e.key,.bool e.cold,.int .i64 e.item.kind,.string e.item.text,.slice A1 e.item.list.length c1,.slice A2 e.item.pairs.length c2,.slice A3 e.item.scores.length c3,.int .i64 e.seg,.int .i64 e.rcd,.int .i64 e.til] 50));obtain⟨r0,r1⟩:=two WA.out;by_cases h1:z5d s.segs e=0
    ·rw[if_neg (by simpa using h1)] at ST;rw[h1] at SL;clear h1;go_wp2_with fail;refine(SL.out _ G1.out).mono ?_;rintro e2 w2 ⟨rfl,f2⟩;have V2:=hid (V1.out.fr f2 (by simp));have WB:=hid (WA.out.fr f2 (by simp));have G2:=hid (G1.out.trans f2);have F3:=hid (HF.out.trans G2.out);clear f2 x0 x1 x2 x3 x4 x5 x6 x7 x8 x9 r0 r1;have y0:=V2.out.cell 0;obtain⟨r0,r1⟩:=two WB.out;rcases Nat.eq_zero_or_pos k with hk0|hk0
     ·subst hk0;have NX:Hid (z07 s=zgg s.segs (z5c s.slots (0+1)) (s.slots.drop (0+1))):=hid (by rw[ST.out,if_neg (show ¬z1t (z5c s.slots 0) e.key=true by rw[zgy,zb2];decide)]);clear ST SL HAT HSZ;go_wp2;go_quiet (fail);go_wp2;go_roundg (s.slots.length - (0+1))
      case measure=>omega
      case rel=>exact⟨0+1,rfl,by omega,by go_num,NX,by first|exact HG.out.trans G2.out|exact(HG.out.trans G2.out).drewN _|exact((HG.out.trans G2.out).drewN _).drewN _⟩
     ·obtain⟨j,rfl⟩:∃j,k=j+1:=⟨k - 1,by omega⟩;obtain⟨p,hp⟩:∃p,s.slots[j]? = some p:=⟨_,List.getElem?_eq_getElem (show j < s.slots.length by omega)⟩;have hpk:z5c s.slots (j+1)=some p.key:=zfw hp;have m1:=G2.out.cell (HAT.out j p hp) (by simp);have hps:=HSZ.out j p hp;have hw1:IntKind.i64.wrap (((j+1:Nat):Int) - 1)=(j:Int):=by rw[IntKind.wrap_i64];omega
      have hw2:IntKind.i64.wrap ((j:Int)+1 - 1)=(j:Int):=by rw[IntKind.wrap_i64];omega
      have hw3:IntKind.i64.wrap (j:Int)=(j:Int):=by rw[IntKind.wrap_i64];omega
      have jx0:(0:Int)≤(j:Int):=by omega
      have jx1:(j:Int) < (s.slots.length:Int):=by omega
      have jx2:(0:Int)≤(j:Int)+1:=by omega
      have jx3:(j:Int)+1 < (s.slots.length:Int):=by omega
      have jx4:((j:Int)+1).toNat=j+1:=by omega
      have jx5:decide ((0:Int) < (j:Int)+1)=true:=decide_eq_true (by omega);rcases zgb p.key e.key with⟨ho,hlt3⟩|⟨ho,hlt3⟩|⟨ho,hlt3⟩
      ·have NX:Hid (z07 s=zgg s.segs (z5c s.slots (j+1+1)) (s.slots.drop (j+1+1))):=hid (by rw[ST.out,if_neg (show ¬z1t (z5c s.slots (j+1)) e.key=true by rw[hpk,z77,hlt3];decide)]);obtain⟨z1,z2⟩:=zkz ho;clear ST SL HAT HSZ hp hpk ho hlt3;go_wp2;go_quiet (fail);go_wp2;go_roundg (s.slots.length - (j+1+1))
       case measure=>omega
       case rel=>exact⟨j+1+1,rfl,by omega,by go_num,NX,by first|exact HG.out.trans G2.out|exact(HG.out.trans G2.out).drewN _|exact((HG.out.trans G2.out).drewN _).drewN _⟩
      all_goals
       have E:=hid (show z07 s=4 from by rw[ST.out,if_pos (show z1t (z5c s.slots (j+1)) e.key=true by rw[hpk,z77,hlt3];rfl)])
       first
        | (have z1:(e.key.toList==p.key.toList)=true:=by rw[ho];exact(zf7 e.key).1)
        | have z1:=lessT ho
       clear ST SL HAT HSZ hp hpk ho hlt3;go_wp2;go_quiet (fail);go_wp2;go_ret;rw[E.out];exact⟨rfl,by first|exact F3.out|exact F3.out.drewN _|exact(F3.out.drewN _).drewN _⟩
    ·have E:=hid (show z07 s=z5d s.segs e from by rw[ST.out,if_pos (by simpa using h1)]);have q2:(z5d s.segs e != 0)=true:=by simpa using h1
     clear ST HAT HSZ h1;generalize z5d s.segs e=r at *;go_wp2_with fail;refine(SL.out _ G1.out).mono ?_;rintro e2 w2 ⟨rfl,f2⟩;have F3:=hid (HF.out.trans (G1.out.trans f2));clear f2;go_wp2;go_ret;rw[E.out];exact⟨rfl,F3.out⟩
   ·obtain rfl:k=s.slots.length:=by omega
    have E:=hid (show z07 s=0 from by rw[HE.out,List.drop_length];rfl);go_wp2;go_ret;rw[E.out];exact⟨rfl,HF.out⟩
 ·have E:=hid (show z07 s=z63 s from by rw[ER,if_pos h0]);have q:(z63 s != 0)=true:=by simpa using h0
  rw[E.out];clear E ER h0;generalize z63 s=r at *;go_enter Tryz.func11,Tryz.ntmps11;go_wp2_with fail;refine(RC.out _ F1.out).mono ?_;rintro e1 w1 ⟨rfl,f1⟩;go_wp2;go_ret;exact⟨rfl,F1.out.trans f1⟩
def meetP(m:Nat)(n:Nat)(_:Bool):Bool:=decide (n=m)
def zpz(_:Nat)(_:Bool):Bool:=true
def lessP(n:Nat)(b:Bool):Bool:=b&&decide (n=1)
attribute [local go_sem] z0p
theorem z4x.set4{w:World}{base o:Nat}{v:Value}{r:Rep}(h:z4x w base v r)(ho:o < base)(a b c d:Value):z4x (set4 w o a b c d) base v r:=by
 obtain⟨h0,u,rfl,hw⟩:=h;exact⟨h0,_,rfl,zm7 hw ho _ _ _ _⟩
theorem ze7(l:List Ent)(now:Int)(s:ByteArray):(z0q l now s=newE∧zag l now s=false)∨(z0q l now s∈l∧zag l now s=true∧(z0q l now s).key=s∧z3n (z0q l now s).til now=false):=by
 unfold z0q zag;rcases h:z91 l now s with _|e
 ·exact .inl ⟨rfl,rfl⟩
 ·refine .inr ?_;unfold z91 at h;have h1:=List.find?_some h;simp at h1;exact⟨List.mem_of_find?_eq_some h,rfl,h1.1,h1.2⟩
theorem zds:(z2l 0).Small:=z3v 0 (by decide)
theorem zda{l:List Ent}(h:∀e∈l,e.Small)(now:Int)(s:ByteArray):(z0q l now s).Small:=by
 rcases ze7 l now s with⟨h1,_⟩|⟨h1,_⟩
 ·rw[h1];exact⟨by show(⟨#[]⟩:ByteArray).size≤_;decide,zds,by show -9223372036854775808≤(0:Int)∧_;decide⟩
 ·exact h _ h1
attribute [local go_sem] z0p
theorem z1a.atO{w:World}{base:Nat}{A:Option Addr}{c:Nat}{l:List Ent}(h:z1a w base (.slice A l.length c) l)(hn:0 < l.length):
  ∃b off,A=some ⟨b,off,none⟩∧b < w.heap.size∧l.length≤c∧c≤maxLen∧∀(i:Nat) (e:Ent),l[i]? = some e→∃A1 A2 A3 c1 c2 c3,At7 w w.heap.size b (off+i * 7) e A1 A2 A3 c1 c2 c3∧z1n w base (z5q e A1 c1 A2 c2 A3 c3) e:=by
 obtain⟨rs,hl,hi,hs⟩:=h;obtain⟨b,off,rfl,hb,hc,hm,hcell⟩:=(z0o hs).at_ hn;refine⟨b,off,rfl,hb,hc,hm,fun i e he=>?_⟩;obtain⟨cs,hcs,hE⟩:=hi i e he;have all7:=zc4 hl (fun cs e h=>z1n.len h) hi;have hC:=hE.c;obtain⟨A1,c1,A2,c2,A3,c3,rfl,s1,s2,s3⟩:=hE
 have g:∀j u,j < 7→(z5q e A1 c1 A2 c2 A3 c3)[j]? = some u→w.cell? ⟨b,off+(i * 7+j),none⟩=some u:=fun j u hj hu=>
  hcell _ _ (by rw[z1w 7 rs i j _ all7 hcs hj];exact hu)
 exact⟨A1,A2,A3,c1,c2,c3,⟨g 0 _ (by decide) rfl,by rw[Nat.add_assoc];exact g 1 _ (by decide) rfl,by rw[Nat.add_assoc];exact g 2 _ (by decide) rfl,by rw[Nat.add_assoc];exact g 3 _ (by decide) rfl,by rw[Nat.add_assoc];exact g 4 _ (by decide) rfl,by rw[Nat.add_assoc];exact g 5 _ (by decide) rfl,by rw[Nat.add_assoc];exact g 6 _ (by decide) rfl,hC⟩,⟨A1,c1,A2,c2,A3,c3,rfl,s1,s2,s3⟩⟩
def zan(e:Ent)(b:Bool)(base:Nat)(w:World)(r:Ending)(w':World):Prop:=
 ∃A1 c1 A2 c2 A3 c3,r=.returned (.tuple #[.agg #[.string e.key,.int .i64 e.item.kind,.string e.item.text,.slice A1 e.item.list.length c1,.slice A2 e.item.pairs.length c2,.slice A3 e.item.scores.length c3,.int .i64 e.til],.bool b])∧z1n w' base (z5q e A1 c1 A2 c2 A3 c3) e∧Fr [] w w'
theorem zme(w:World)(base:Nat):z1n w base (z5q newE none 0 none 0 none 0) newE:=⟨none,0,none,0,none,0,rfl,World.ownsRow_nil _ _ _ _,World.ownsRow_nil _ _ _ _,World.ownsRow_nil _ _ _ _⟩
theorem z69(l:List Ent)(v:Value)(now:Int)(s:ByteArray)(w:World)(B0:Nat)(hr:rises (ltK Ent.key) l=true)(hl:l.length≤281474976710656)(ho:z1a w B0 v l):
  Calls prog 136 #[v,.int .i64 now,.string s] w (zan (z0q l now s) (zag l now s) B0 w):=by
 obtain⟨B,hB,h⟩:∃B,B≤w.heap.size∧z1g w B v l:=⟨_,Nat.le_refl _,ho.v⟩;obtain⟨A,c,rfl⟩:=h.form;have F0:=hid ((Fr.refl [] w).alloc (.cells #[.string ⟨#[]⟩,.int .i64 0,.string ⟨#[]⟩,.slice none 0 0,.slice none 0 0,.slice none 0 0,.int .i64 0] 74));have W0:=hid (Whole.new w 74 [.string ⟨#[]⟩,.int .i64 0,.string ⟨#[]⟩,.slice none 0 0,.slice none 0 0,.slice none 0 0,.int .i64 0]);have FD:=hid (fun W (hW:Fr [] w W)=>zc6 l s A c B W hr hl (Nat.le_trans hB hW.size) (h.fr hW hB (by simp)));have HV:=hid ho;have HR:=hid hr;unfold z2n at FD;clear h hr ho;by_cases hh:z5e Ent.key l s=true
 ·obtain⟨e,he,hk⟩:=(z2z Ent.key).1 hh;subst hk;have hlt:=(List.getElem?_eq_some_iff.1 he).1;obtain⟨b,off,rfl,hb,hc,hmx,hat⟩:=HV.out.atO (by omega);obtain⟨A1,A2,A3,c1,c2,c3,h7,o7⟩:=hat _ e he;have H7:=hid h7;have O7:=hid o7;have EL:=hid (zlg HR.out he now);have GO:=hid (fun W=>zet e.til now W);rw[hh] at FD;clear hat h7 o7 he hh;generalize z1k Ent.key l e.key=k at *;have ix0:(0:Int)≤(k:Int):=by omega
  have ix1:(k:Int) < (l.length:Int):=by omega
  unfold maxLen at hmx;by_cases hg:z3n e.til now=true
  ·have E1:=hid (show z91 l now e.key=none from EL.out.trans (if_pos hg));rw[hg] at GO;clear EL hg;go_enter Tryz.func136,Tryz.ntmps136;go_wp2_with fail;refine(FD.out _ F0.out).mono ?_;rintro e1 w1 ⟨rfl,f1⟩;have F1:=hid (F0.out.trans f1);have W1:=hid (W0.out.f0 f1);have P7:=hid (H7.out.fr F1.out hb (Nat.le_refl _) (by simp));obtain⟨x0,x1,x2,x3,x4,x5,x6,-⟩:=P7.out;clear f1;go_wp2_with fail;refine(GO.out _).mono ?_;rintro e2 w2 ⟨rfl,rfl⟩;obtain⟨a0,a1,a2,a3,a4,a5,a6⟩:=seven W1.out;obtain⟨b0,b1,b2,b3,b4,b5,b6⟩:=z9m W1.out;go_wp2;refine bodyPost_ret (v:=.tuple #[.agg #[.string ⟨#[]⟩,.int .i64 0,.string ⟨#[]⟩,.slice none 0 0,.slice none 0 0,.slice none 0 0,.int .i64 0],.bool false]) (by simp[results,Tryz.results136,go_sem,a0,a1,a2,a3,a4,a5,a6]) rfl ?_;unfold z0q zag zan;rw[E1.out];exact⟨none,0,none,0,none,0,rfl,zme _ _,z8o F1.out (Nat.le_refl _) _ _ _ _ _ _ _⟩
  ·have hg':z3n e.til now=false:=by simpa using hg
   have E1:=hid (show z91 l now e.key=some e from EL.out.trans (if_neg hg));rw[hg'] at GO;clear EL hg hg';go_enter Tryz.func136,Tryz.ntmps136;go_wp2_with fail;refine(FD.out _ F0.out).mono ?_;rintro e1 w1 ⟨rfl,f1⟩;have F1:=hid (F0.out.trans f1);have W1:=hid (W0.out.f0 f1);have P7:=hid (H7.out.fr F1.out hb (Nat.le_refl _) (by simp));obtain⟨x0,x1,x2,x3,x4,x5,x6,-⟩:=P7.out;clear f1;go_wp2_with fail;refine(GO.out _).mono ?_;rintro e2 w2 ⟨rfl,rfl⟩;obtain⟨a0,a1,a2,a3,a4,a5,a6⟩:=seven W1.out;obtain⟨b0,b1,b2,b3,b4,b5,b6⟩:=z9m W1.out;go_wp2;refine bodyPost_ret (v:=.tuple #[.agg (z5q e A1 c1 A2 c2 A3 c3).toArray,.bool true]) (by simp[results,Tryz.results136,go_sem,z5q,a0,a1,a2,a3,a4,a5,a6]) rfl ?_;unfold z0q zag zan;rw[E1.out];exact⟨A1,c1,A2,c2,A3,c3,rfl,O7.out.fr (z8o F1.out (Nat.le_refl _) _ _ _ _ _ _ _),z8o F1.out (Nat.le_refl _) _ _ _ _ _ _ _⟩
 ·have hh':z5e Ent.key l s=false:=by simpa using hh
  have E1:=hid (zn6 HR.out hh' now);rw[hh'] at FD;clear hh hh';generalize z1k Ent.key l s=k at *;go_enter Tryz.func136,Tryz.ntmps136;go_wp2_with fail;refine(FD.out _ F0.out).mono ?_;rintro e1 w1 ⟨rfl,f1⟩;have F1:=hid (F0.out.trans f1);have W1:=hid (W0.out.f0 f1);clear f1;obtain⟨a0,a1,a2,a3,a4,a5,a6⟩:=seven W1.out;obtain⟨b0,b1,b2,b3,b4,b5,b6⟩:=z9m W1.out;go_wp2;refine bodyPost_ret (v:=.tuple #[.agg #[.string ⟨#[]⟩,.int .i64 0,.string ⟨#[]⟩,.slice none 0 0,.slice none 0 0,.slice none 0 0,.int .i64 0],.bool false]) (by simp[results,Tryz.results136,go_sem,a0,a1,a2,a3,a4,a5,a6]) rfl ?_;unfold z0q zag zan;rw[E1.out];exact⟨none,0,none,0,none,0,rfl,zme _ _,z8o F1.out (Nat.le_refl _) _ _ _ _ _ _ _⟩
theorem zib{l:List ByteArray}(hl:l.length≤1000000)(ht:∀s∈l,s.size≤281474976710656):(ofL l).Small:=by
 unfold ofL;split
 ·exact z3v 0 (by decide)
 ·exact z8d hl ht
theorem ze0(x:Itm)(left:Bool)(l:List ByteArray):(z6t x left l).Small:=by
 unfold z6t;by_cases hc:z0r x l=0
 ·rw[if_pos hc];unfold z0r at hc;by_cases ha:z0a 2 x=0
  ·rw[if_neg (by simpa using ha)] at hc;by_cases hb:z19 l=0
   ·rw[if_neg (by simpa using hb)] at hc;have hok:=zjq ha;have hos:=z9n hb;have hm:¬24 < x.list.length+l.length:=fun h=>by rw[if_pos h] at hc;cases hc
    refine zib (by rw[z49];omega) (fun s hs=>?_);rcases zfk hs with h|h
    ·have:=hok.texts s h;omega
    ·have:=hos s h;omega
   ·rw[if_pos hb] at hc;exact absurd hc hb
  ·rw[if_pos ha] at hc;exact absurd hc ha
 ·rw[if_neg hc];exact z3v 0 (by decide)
def keyM(p:ByteArray)(now:Int)(e:Ent):Bool:=zlh p e.key&&!z3n e.til now
def keysL(l:List Ent)(now:Int)(p:ByteArray):List ByteArray:=(l.filter (keyM p now)).map Ent.key
end Go.Proofs.YtmkhmejempcimaaGreatDoor
