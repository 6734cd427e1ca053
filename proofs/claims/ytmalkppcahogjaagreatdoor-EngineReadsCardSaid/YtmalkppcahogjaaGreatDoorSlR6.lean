/- Contracts; no condition but each theorem's own. -/
import Derived.Test.YtmalkppcahogjaaGreatDoorSlR5
import Derived.Laws.EntriesVeiled
set_option linter.unusedVariables false
set_option linter.unusedSimpArgs false
set_option maxHeartbeats 8000000
set_option maxRecDepth 100000
namespace Go.Proofs.YtmalkppcahogjaaGreatDoor
open Lib (hid)
open Go.Proofs.Tryz (prog)
open Go.RowKit
theorem zkz{l:List Ent}{k:Nat}{e:Ent}(q:Ent→Bool)(h:l[k]? = some e):(l.take (k+1)).filter q=(l.take k).filter q++(if q e=true then [e] else []):=by
 rw[List.take_add_one,h,List.filter_append];congr 1;simp[List.filter_cons]
theorem zeb{l:List Ent}(k:Nat)(q:Ent→Bool):((l.take k).filter q).length≤l.length:=Nat.le_trans (List.length_filter_le _ _) (List.length_take_le' _ _)
theorem za6:∀a b:List UInt8,Op.bytesLess a b=decide (Lib.compareBytes a b < 0)
 | [],[]=>rfl
 | [],y :: s=>rfl
 | x :: r,[]=>rfl
 | x :: r,y :: s=>by
  show(decide (x < y)||(x==y&&Op.bytesLess r s))=decide ((if x < y then -1 else if y < x then 1 else Lib.compareBytes r s) < (0:Int))
  rw[za6 r s];by_cases h1:x < y
  ·rw[if_pos h1];simp[h1]
  ·rw[if_neg h1];by_cases h2:y < x
   ·rw[if_pos h2];have hne:¬x=y:=by rintro rfl;exact UInt8.lt_irrefl _ h2
    simp[h1,hne]
   ·rw[if_neg h2]
    have e:x=y:=by
     apply UInt8.toNat_inj.1;rw[UInt8.lt_iff_toNat_lt] at h1 h2;omega
    subst e;simp[h1]
theorem zid(a b:ByteArray):Op.bytesLess a.toList b.toList=decide (z4k a b < 0):=by
 rw[ByteArray.toList_eq,ByteArray.toList_eq,za6];rfl
theorem zue{a b:ByteArray}(h:z4k a b < 0):Op.bytesLess b.toList a.toList=false∧(b.toList==a.toList)=false:=by
 have h2:=z63 a b;refine⟨by rw[zid];exact decide_eq_false (by omega),?_⟩;refine neqB' ?_;rintro rfl;rw[z57] at h;exact absurd h (by decide)
theorem zmw(a b:ByteArray):(z4k a b < 0∧ltS a b=true)∨(a=b∧ltS a b=false)∨(z4k b a < 0∧ltS a b=false):=by
 have h2:=z63 a b;rcases Int.lt_trichotomy (z4k a b) 0 with h|h|h
 ·exact .inl ⟨h,decide_eq_true h⟩
 ·exact .inr (.inl ⟨z8q h,decide_eq_false (by omega)⟩)
 ·exact .inr (.inr ⟨by omega,decide_eq_false (by omega)⟩)
theorem lessT{a b:ByteArray}(h:z4k a b < 0):Op.bytesLess a.toList b.toList=true:=by rw[zid];exact decide_eq_true h
theorem zoh{l:List Ent}{j:Nat}(h:j < l.length):∃p,l[j]? = some p∧z79 l (j+1)=some p.key:=by
 refine⟨_,List.getElem?_eq_getElem h,?_⟩;unfold z79;rw[if_neg (by omega),Nat.add_sub_cancel,List.getElem?_eq_getElem h];rfl
theorem zhk(s:ByteArray):z4l none s=false:=rfl
theorem z7f(k s:ByteArray):z4l (some k) s=!ltS k s:=rfl
theorem zy7{p:Option ByteArray}{e:Ent}(h:60 < e.key.size):z35 p e=2:=if_pos h
theorem zym{p:Option ByteArray}{e:Ent}(h:¬60 < e.key.size)(h2:z0e e.item≠0):z35 p e=z0e e.item:=by unfold z35;rw[if_neg h,if_pos h2]
theorem zx8{p:Option ByteArray}{e:Ent}(h:¬60 < e.key.size)(h2:z0e e.item=0)(h3:z3e e.til=false):z35 p e=3:=by unfold z35;rw[if_neg h,if_neg (fun hn=>hn h2),if_pos h3]
theorem zx9{p:Option ByteArray}{e:Ent}(h:¬60 < e.key.size)(h2:z0e e.item=0)(h3:z3e e.til=true):z35 p e=if z4l p e.key=true then 4 else 0:=by unfold z35;rw[if_neg h,if_neg (fun hn=>hn h2),if_neg (by rw[h3];decide)]
def z0u(l:List Ent)(n:Int)(s:ByteArray):Int:=if z1q l≠0 then z1q l else if z3e n=false then 3 else if 60 < s.size then 2 else 0
theorem q0n{l:List Ent}{n:Int}{s:ByteArray}(h:z0u l n s=0):z1q l=0∧(0≤n∧n≤1000000)∧s.size≤60:=by
 unfold z0u at h;split at h
 ·rename_i h1;exact absurd h h1
 ·rename_i h1;split at h
  ·cases h
  ·rename_i h2;split at h
   ·cases h
   ·have h2':z3e n=true:=by simpa using h2
    unfold z3e at h2';exact⟨by simpa using h1,by simpa using h2',by omega⟩
theorem z4a(l:List Ent)(v:Value)(w:World)(B:Nat)(hs:∀e∈l,e.Small)(hl:l.length≤281474976710656)(hB:B≤w.heap.size)(h:z1l w B v l):
  Calls prog 36 #[v] w fun e w'=>e=.returned (.int .i64 (z1q l))∧Fr [] w w':=by
 obtain⟨A,c,rfl⟩:=h.form;by_cases h16:16 < l.length
 ·have E:z1q l=2:=if_pos h16;have q:(l.length:Int) > 16:=by omega
  rw[E];clear E h16 h;go_enter Tryz.func36,Tryz.ntmps36;go_wp2;go_ret;exact⟨rfl,Fr.refl _ _⟩
 ·have q:¬(l.length:Int) > 16:=by omega
  have HV:=hid h;have HS:=hid hs;have E0:=hid (show z1q l=zou (z79 l 0) (l.drop 0) from if_neg h16);have hl16:l.length≤16:=by omega
  clear h hs h16;go_enter Tryz.func36,Tryz.ntmps36;go_wp2;go_loopg [11] l.length (fun g i wr=>∃(k:Nat),g=l.length - k∧k≤l.length∧i=.int .i64 k∧Hid (z1q l=zou (z79 l k) (l.drop k))∧Fr [] w wr)
  case atStart=>exact⟨0,rfl,Nat.zero_le _,rfl,E0,Fr.refl _ _⟩
  case round=>
   obtain⟨k,rfl,hk,rfl,HE,hf⟩:=hrel;have HF:=hid hf;clear hf;by_cases hlt:k < l.length
   ·obtain⟨b,off,rfl,hb,hc,hmx,hat⟩:=HV.out.at_ (by omega);obtain⟨e,he⟩:∃e,l[k]? = some e:=⟨_,List.getElem?_eq_getElem hlt⟩;obtain⟨A1,A2,A3,c1,c2,c3,h7⟩:=hat k e he;have hem:=List.mem_of_getElem? he;have P7:=hid (h7.fr HF.out hb hB (by simp));obtain⟨x0,x1,x2,x3,x4,x5,x6,-⟩:=P7.out;have hes:=(HS.out e hem);have hek:=hes.key;have ST:=hid (HE.out.trans (zqd he));have IC:=hid (fun W (hW:Fr [] wr W)=>z6x e.item _ W B hes.item (Nat.le_trans hB (Nat.le_trans HF.out.size hW.size)) ((P7.out.ent.fr hW (Nat.le_trans hB HF.out.size) (by simp)).item))
    have HAT:=hid (fun(j:Nat) (p:Ent) (hj:l[j]? = some p)=>(show wr.cell? ⟨b,off+j * 7,none⟩=some (.string p.key) from by
     obtain⟨_,_,_,_,_,_,g7⟩:=hat j p hj;exact(g7.fr HF.out hb hB (by simp)).k0))
    have HSZ:=hid (fun(j:Nat) (p:Ent) (hj:l[j]? = some p)=>(HS.out p (List.mem_of_getElem? hj)).key);unfold maxLen at hmx;clear hat h7 he hes HE;have V1:=hid (Whole.new wr 81 [.string e.key,.int .i64 e.item.kind,.string e.item.text,.slice A1 e.item.list.length c1,.slice A2 e.item.pairs.length c2,.slice A3 e.item.scores.length c3,.int .i64 e.til]);have F1:=hid ((Fr.refl [] wr).alloc (.cells #[.string e.key,.int .i64 e.item.kind,.string e.item.text,.slice A1 e.item.list.length c1,.slice A2 e.item.pairs.length c2,.slice A3 e.item.scores.length c3,.int .i64 e.til] 81));by_cases h1:60 < e.key.size
    ·have E:=hid (show z1q l=2 from by rw[ST.out,zy7 h1,if_pos (by decide)]);clear ST IC HAT HSZ;have q1:decide (60 < e.key.size)=true:=decide_eq_true h1;go_wp2_with fail;refine(z2r e.key _).mono ?_;rintro e9 w9 ⟨rfl,hw9⟩;subst hw9;go_wp2;go_ret;rw[E.out];exact⟨rfl,HF.out.trans F1.out⟩
    ·have q1:decide (60 < e.key.size)=false:=decide_eq_false h1;by_cases h2:z0e e.item=0
     ·rw[h2] at IC;by_cases h3:z3e e.til=true
      ·have EC:=hid (zx9 (p:=z79 l k) h1 h2 h3);have q3:=h3;clear h1 h2 h3;go_wp2_with fail;refine(z2r e.key _).mono ?_;rintro e9 w9 ⟨rfl,hw9⟩;subst hw9;go_wp2_with fail;refine(IC.out _ F1.out).mono ?_;rintro e2 w2 ⟨rfl,f2⟩;have V2:=hid (V1.out.fr f2 (by simp));have G2:=hid (F1.out.trans f2);obtain⟨y0,y1,y2,y3,y4,y5,y6⟩:=seven V2.out;clear f2;go_wp2_with fail;refine(z82 e.til _).mono ?_;rintro e3 w3 ⟨rfl,rfl⟩;rw[q3];clear q3;rcases Nat.eq_zero_or_pos k with hk0|hk0
       ·subst hk0;have NX:Hid (z1q l=zou (z79 l (0+1)) (l.drop (0+1))):=hid (by rw[ST.out,EC.out,if_neg (show ¬z4l (z79 l 0) e.key=true by rw[zn5,zhk];decide),if_neg (by decide)]);clear ST EC IC HAT HSZ;go_wp2;go_quiet (fail);go_wp2;go_roundg (l.length - (0+1))
        case measure=>omega
        case rel=>exact⟨0+1,rfl,by omega,by go_num,NX,by first|exact HF.out.trans G2.out|exact(HF.out.trans G2.out).drewN _|exact((HF.out.trans G2.out).drewN _).drewN _⟩
       ·obtain⟨j,rfl⟩:∃j,k=j+1:=⟨k - 1,by omega⟩;obtain⟨p,hp,hpk⟩:=zoh (show j < l.length by omega);have m1:=G2.out.cell (HAT.out j p hp) (by simp);have hps:=HSZ.out j p hp;skip;have hw1:IntKind.i64.wrap (((j+1:Nat):Int) - 1)=(j:Int):=by rw[IntKind.wrap_i64];omega
        have hw2:IntKind.i64.wrap ((j:Int)+1 - 1)=(j:Int):=by rw[IntKind.wrap_i64];omega
        have hw3:IntKind.i64.wrap (j:Int)=(j:Int):=by rw[IntKind.wrap_i64];omega
        have jx0:(0:Int)≤(j:Int):=by omega
        have jx1:(j:Int) < (l.length:Int):=by omega
        have jx2:(0:Int)≤(j:Int)+1:=by omega
        have jx3:(j:Int)+1 < (l.length:Int):=by omega
        have jx4:((j:Int)+1).toNat=j+1:=by omega
        have jx5:decide ((0:Int) < (j:Int)+1)=true:=decide_eq_true (by omega);rcases zmw p.key e.key with⟨ho,hlt3⟩|⟨ho,hlt3⟩|⟨ho,hlt3⟩
        ·have NX:Hid (z1q l=zou (z79 l (j+1+1)) (l.drop (j+1+1))):=hid (by rw[ST.out,EC.out,if_neg (show ¬z4l (z79 l (j+1)) e.key=true by rw[hpk,z7f,hlt3];decide),if_neg (by decide)]);obtain⟨z1,z2⟩:=zue ho;clear ST EC IC HAT HSZ hp hpk ho hlt3;go_wp2;go_quiet (fail);go_wp2;go_roundg (l.length - (j+1+1))
         case measure=>omega
         case rel=>exact⟨j+1+1,rfl,by omega,by go_num,NX,by first|exact HF.out.trans G2.out|exact(HF.out.trans G2.out).drewN _|exact((HF.out.trans G2.out).drewN _).drewN _⟩
        ·have E:=hid (show z1q l=4 from by rw[ST.out,EC.out,if_pos (show z4l (z79 l (j+1)) e.key=true by rw[hpk,z7f,hlt3];rfl),if_pos (by decide)]);have z1:(e.key.toList==p.key.toList)=true:=by rw[ho];exact(zyy e.key).1
         clear ST EC IC HAT HSZ hp hpk ho hlt3;go_wp2;go_quiet (fail);go_wp2;go_ret;rw[E.out];exact⟨rfl,by first|exact HF.out.trans G2.out|exact(HF.out.trans G2.out).drewN _|exact((HF.out.trans G2.out).drewN _).drewN _⟩
        ·have E:=hid (show z1q l=4 from by rw[ST.out,EC.out,if_pos (show z4l (z79 l (j+1)) e.key=true by rw[hpk,z7f,hlt3];rfl),if_pos (by decide)]);have z1:=lessT ho;clear ST EC IC HAT HSZ hp hpk ho hlt3;go_wp2;go_quiet (fail);go_wp2;go_ret;rw[E.out];exact⟨rfl,by first|exact HF.out.trans G2.out|exact(HF.out.trans G2.out).drewN _|exact((HF.out.trans G2.out).drewN _).drewN _⟩
      ·have h3':z3e e.til=false:=by simpa using h3
       have E:=hid (show z1q l=3 from by rw[ST.out,zx8 h1 h2 h3',if_pos (by decide)]);have q3:=h3';clear ST HAT HSZ h1 h2 h3 h3';go_wp2_with fail;refine(z2r e.key _).mono ?_;rintro e9 w9 ⟨rfl,hw9⟩;subst hw9;go_wp2_with fail;refine(IC.out _ F1.out).mono ?_;rintro e2 w2 ⟨rfl,f2⟩;have V2:=hid (V1.out.fr f2 (by simp));have G2:=hid (F1.out.trans f2);obtain⟨y0,y1,y2,y3,y4,y5,y6⟩:=seven V2.out;clear f2;go_wp2_with fail;refine(z82 e.til _).mono ?_;rintro e3 w3 ⟨rfl,rfl⟩;rw[q3];clear q3;go_wp2;go_ret;rw[E.out];exact⟨rfl,HF.out.trans G2.out⟩
     ·have E:=hid (show z1q l=z0e e.item from by rw[ST.out,zym h1 h2,if_pos h2]);have q2:(z0e e.item != 0)=true:=by simpa using h2
      clear ST HAT HSZ h1 h2;generalize z0e e.item=r at *;go_wp2_with fail;refine(z2r e.key _).mono ?_;rintro e9 w9 ⟨rfl,hw9⟩;subst hw9;go_wp2_with fail;refine(IC.out _ F1.out).mono ?_;rintro e2 w2 ⟨rfl,f2⟩;have V2:=hid (V1.out.fr f2 (by simp));have G2:=hid (F1.out.trans f2);obtain⟨y0,y1,y2,y3,y4,y5,y6⟩:=seven V2.out;clear f2;go_wp2;go_ret;rw[E.out];exact⟨rfl,HF.out.trans G2.out⟩
   ·obtain rfl:k=l.length:=by omega
    have E:=hid (show z1q l=0 from by rw[HE.out,List.drop_length];rfl);go_wp2;go_ret;rw[E.out];exact⟨rfl,HF.out⟩
theorem z36(l:List Ent)(v:Value)(n:Int)(s:ByteArray)(w:World)(B:Nat)(hs:∀e∈l,e.Small)(hl:l.length≤281474976710656)(hz:s.size≤281474976710656)(hB:B≤w.heap.size)(h:z1l w B v l):
  Calls prog 161 #[v,.int .i64 n,.string s] w fun e w'=>e=.returned (.int .i64 (z0u l n s))∧Fr [] w w':=by
 have CS:=hid (z4a l v w B hs hl hB h);have EA:=hid (show z0u l n s=if z1q l≠0 then z1q l else if z3e n=false then 3 else if 60 < s.size then 2 else 0 from rfl);obtain⟨A,c,rfl⟩:=h.form;clear h hs;by_cases h1:z1q l=0
 ·rw[h1] at CS EA;rw[if_neg (by decide)] at EA;by_cases h2:z3e n=true
  ·rw[if_neg (by rw[h2];decide)] at EA;by_cases h3:60 < s.size
   ·have E:=hid (EA.out.trans (if_pos h3));have q2:=h2;have q3:decide (60 < s.size)=true:=decide_eq_true h3;rw[E.out];clear E EA h1 h2 h3;go_enter Tryz.func161,Tryz.ntmps161;go_wp2_with fail;refine CS.out.mono ?_;rintro e w1 ⟨rfl,f1⟩;go_wp2_with fail;refine(z82 n _).mono ?_;rintro e w2 ⟨rfl,rfl⟩;rw[q2];go_wp2_with fail;refine(z2r s _).mono ?_;rintro e w3 ⟨rfl,hw3⟩;subst hw3;go_wp2;go_ret;exact⟨rfl,f1⟩
   ·have E:=hid (EA.out.trans (if_neg h3));have q2:=h2;have q3:decide (60 < s.size)=false:=decide_eq_false h3;rw[E.out];clear E EA h1 h2 h3;go_enter Tryz.func161,Tryz.ntmps161;go_wp2_with fail;refine CS.out.mono ?_;rintro e w1 ⟨rfl,f1⟩;go_wp2_with fail;refine(z82 n _).mono ?_;rintro e w2 ⟨rfl,rfl⟩;rw[q2];go_wp2_with fail;refine(z2r s _).mono ?_;rintro e w3 ⟨rfl,hw3⟩;subst hw3;go_wp2;go_ret;exact⟨rfl,f1⟩
  ·have h2':z3e n=false:=by simpa using h2
   have E:=hid (EA.out.trans (if_pos h2'));have q2:=h2';rw[E.out];clear E EA h1 h2 h2';go_enter Tryz.func161,Tryz.ntmps161;go_wp2_with fail;refine CS.out.mono ?_;rintro e w1 ⟨rfl,f1⟩;go_wp2_with fail;refine(z82 n _).mono ?_;rintro e w2 ⟨rfl,rfl⟩;rw[q2];go_wp2;go_ret;exact⟨rfl,f1⟩
 ·have E:=hid (EA.out.trans (if_pos h1));have q1:(z1q l != 0)=true:=by simpa using h1
  have q1':(z1q l==0)=false:=by simpa using h1
  rw[E.out];clear E EA h1;generalize z1q l=r at *;go_enter Tryz.func161,Tryz.ntmps161;go_wp2_with fail;refine CS.out.mono ?_;rintro e w1 ⟨rfl,f1⟩;go_wp2;go_ret;exact⟨rfl,f1⟩
theorem zx0{x:Itm}(h:z0e x=0):x.list.length≤1000000∧x.pairs.length≤1000000∧x.scores.length≤1000000:=by
 have:=(z4x h).many;unfold many at this;exact⟨by omega,by omega,by omega⟩
theorem q0t{x:Itm}(h:z0t x=true):x.list.length≤1000000∧x.pairs.length≤1000000∧x.scores.length≤1000000:=by
 rw[z7r] at h;simp at h;have:=h.2.2;unfold many at this;exact⟨by omega,by omega,by omega⟩
theorem z5d(l:List Ent)(now:Int)(s:ByteArray):(z00 l now s=q07∧z18 l now s=false)∨(z00 l now s∈l∧z18 l now s=true∧(z00 l now s).key=s∧z4o (z00 l now s).til now=false):=by
 unfold z00 z18;rcases h:zbx l now s with _|e
 ·exact .inl ⟨rfl,rfl⟩
 ·refine .inr ?_;unfold zbx at h;have h1:=List.find?_some h;simp at h1;exact⟨List.mem_of_find?_eq_some h,rfl,h1.1,h1.2⟩
theorem z6v:(z2p 0).Small:=z1c 0 (by decide)
theorem z0b{l:List Ent}(h:∀e∈l,e.Small)(now:Int)(s:ByteArray):(z00 l now s).Small:=by
 rcases z5d l now s with⟨h1,_⟩|⟨h1,_⟩
 ·rw[h1];exact⟨by show(⟨#[]⟩:ByteArray).size≤_;decide,z6v,by show -9223372036854775808≤(0:Int)∧_;decide⟩
 ·exact h _ h1
theorem zr0{l:List Ent}(h:z1y l)(now:Int)(s:ByteArray):(z00 l now s).item.list.length≤1000000∧(z00 l now s).item.pairs.length≤1000000∧(z00 l now s).item.scores.length≤1000000:=by
 rcases z5d l now s with⟨h1,_⟩|⟨h1,_⟩
 ·rw[h1];exact⟨by show(0:Nat)≤_;omega,by show(0:Nat)≤_;omega,by show(0:Nat)≤_;omega⟩
 ·exact zx0 (h.items _ h1)
theorem ziq{l:List Ent}(h:z1y l):∀e∈l,e.item.list.length≤1000000∧e.item.pairs.length≤1000000∧e.item.scores.length≤1000000:=fun e he=>zx0 (h.items e he)
def getI(l:List Ent)(now:Int)(s:ByteArray):Itm:=if z0u l now s=0 then (z00 l now s).item else z2p 0
def IEP(y:Itm)(c:Int)(w:World)(r:Ending)(w':World):Prop:=∃u,r=.returned (.tuple #[u,.int .i64 c])∧z0q w' w.heap.size u y∧Fr [] w w'
def zqz(l:List Ent)(now:Int)(s:ByteArray):Int:=if z0u l now s=0 then (if z18 l now s=true then (z00 l now s).til else 0) else 0
def zrh(l:List Ent)(now:Int)(s:ByteArray):Int:=if z0u l now s=0 then (if z18 l now s=true then 0 else 5) else z0u l now s
theorem zbg(l:List Ent)(v:Value)(now:Int)(s:ByteArray)(w:World)(B:Nat)(hs:∀e∈l,e.Small)(hl:l.length≤281474976710656)(hz:s.size≤281474976710656)(hB:B≤w.heap.size)(h:z1l w B v l):
  Calls prog 105 #[v,.int .i64 now,.string s] w (IEP (getI l now s) (z0u l now s) w):=by
 obtain⟨A,c,rfl⟩:=h.form;have F0:=hid ((Fr.refl [] w).alloc (.cells #[.int .i64 0,.string ⟨#[]⟩,.slice none 0 0,.slice none 0 0,.slice none 0 0] 65));have W0:=hid (Whole.new w 65 [.int .i64 0,.string ⟨#[]⟩,.slice none 0 0,.slice none 0 0,.slice none 0 0]);have RD:=hid (fun W (hW:Fr [] w W)=>z36 l _ now s W B hs hl hz (Nat.le_trans hB hW.size) (h.fr hW hB (by simp)));have HV:=hid h;have HS:=hid (z0b hs now s);have EG:=hid (show getI l now s=if z0u l now s=0 then (z00 l now s).item else z2p 0 from rfl);clear h hs;by_cases ha:z0u l now s=0
 ·have ok:=zwu (q0n ha).1;have LK:=hid (fun W (hW:Fr [] w W)=>z96 l _ now s W B ok.rise hl (Nat.le_trans hB hW.size) (HV.out.fr hW hB (by simp)));have HN:=hid (zr0 ok now s);rw[ha] at RD EG ⊢;rw[EG.out,if_pos rfl];clear ha EG ok;generalize z00 l now s=y at *;generalize z18 l now s=bb at *;go_enter Tryz.func105,Tryz.ntmps105;go_wp2_with fail;refine(RD.out _ F0.out).mono ?_;rintro e1 w1 ⟨rfl,f1⟩;have F1:=hid (F0.out.trans f1);have W1:=hid (W0.out.fr f1 (by simp));clear f1;go_wp2_with fail;refine(LK.out _ F1.out).mono ?_;rintro e2 w2 ⟨cs,rfl,hc,f2⟩;have F2:=hid (F1.out.trans f2);have W2:=hid (W1.out.fr f2 (by simp));have HC:=hid hc;obtain⟨A1,c1,A2,c2,A3,c3,hcs,-⟩:=hc;obtain rfl:cs=(z8f y A1 c1 A2 c2 A3 c3).toArray:=by rw[←hcs]
  clear f2 hcs;have F3:=hid ((Fr.refl [] w2).alloc (.cells #[.string y.key,.int .i64 y.item.kind,.string y.item.text,.slice A1 y.item.list.length c1,.slice A2 y.item.pairs.length c2,.slice A3 y.item.scores.length c3,.int .i64 y.til] 81));have OW:=hid (z8t y.item _ _ B HS.out.item HN.out.1 HN.out.2.1 HN.out.2.2 (Nat.le_trans hB (Nat.le_trans F2.out.size F3.out.size)) ((show zgk w2 B (z8f y A1 c1 A2 c2 A3 c3) y from HC.out).fr F3.out (Nat.le_trans hB F2.out.size) (by simp)).item);unfold z8f;go_wp2_with fail;refine OW.out.mono ?_;rintro e4 w4 ⟨u,rfl,hi4,f4⟩;have F4:=hid ((F2.out.trans F3.out).trans f4);have W4:=hid ((W2.out.alloc (.cells #[.string y.key,.int .i64 y.item.kind,.string y.item.text,.slice A1 y.item.list.length c1,.slice A2 y.item.pairs.length c2,.slice A3 y.item.scores.length c3,.int .i64 y.til] 81)).fr f4 (by simp));have HI:=hid hi4;obtain⟨P1,p1,P2,p2,P3,p3,rfl⟩:=hi4.form;have hzw:=W2.out.lt;clear hi4 f4;obtain⟨a0,a1,a2,a3,a4⟩:=five W4.out;obtain⟨b0,b1,b2,b3,b4⟩:=z12 W4.out;go_wp2;refine bodyPost_ret (v:=.tuple #[.agg #[.int .i64 y.item.kind,.string y.item.text,.slice P1 y.item.list.length p1,.slice P2 y.item.pairs.length p2,.slice P3 y.item.scores.length p3],.int .i64 0]) (by simp[results,Tryz.results105,go_sem,a0,a1,a2,a3,a4]) rfl ?_;exact⟨_,rfl,(z1n HI.out (by simp;omega) _ _ _ _ _).less (by simp;omega),z42 F4.out (Nat.le_refl _) _ _ _ _ _⟩
 ·have q1:(z0u l now s != 0)=true:=by simpa using ha
  rw[EG.out,if_neg ha];clear ha EG;generalize z0u l now s=r at *;go_enter Tryz.func105,Tryz.ntmps105;go_wp2_with fail;refine(RD.out _ F0.out).mono ?_;rintro e1 w1 ⟨rfl,f1⟩;have F1:=hid (F0.out.trans f1);have W1:=hid (W0.out.fr f1 (by simp));clear f1;obtain⟨a0,a1,a2,a3,a4⟩:=five W1.out;obtain⟨b0,b1,b2,b3,b4⟩:=z12 W1.out;go_wp2;refine bodyPost_ret (v:=.tuple #[.agg #[.int .i64 0,.string ⟨#[]⟩,.slice none 0 0,.slice none 0 0,.slice none 0 0],.int .i64 r]) (by simp[results,Tryz.results105,go_sem,a0,a1,a2,a3,a4]) rfl ?_;exact⟨_,rfl,z0q.nothing _ _,z42 F1.out (Nat.le_refl _) _ _ _ _ _⟩
theorem ze4(l:List Ent)(v:Value)(now:Int)(s:ByteArray)(w:World)(B:Nat)(hs:∀e∈l,e.Small)(hl:l.length≤281474976710656)(hz:s.size≤281474976710656)(hB:B≤w.heap.size)(h:z1l w B v l):
  Calls prog 108 #[v,.int .i64 now,.string s] w fun e w'=>e=.returned (.tuple #[.int .i64 (zqz l now s),.int .i64 (zrh l now s)])∧Fr [] w w':=by
 obtain⟨A,c,rfl⟩:=h.form;have RD:=hid (z36 l _ now s w B hs hl hz hB h);have HV:=hid h;have EN:=hid (show zqz l now s=if z0u l now s=0 then (if z18 l now s=true then (z00 l now s).til else 0) else 0 from rfl);have EC:=hid (show zrh l now s=if z0u l now s=0 then (if z18 l now s=true then 0 else 5) else z0u l now s from rfl);clear h hs;by_cases ha:z0u l now s=0
 ·have ok:=zwu (q0n ha).1;have LK:=hid (fun W (hW:Fr [] w W)=>z96 l _ now s W B ok.rise hl (Nat.le_trans hB hW.size) (HV.out.fr hW hB (by simp)));rw[ha] at RD EN EC;rw[if_pos rfl] at EN EC;rw[EN.out,EC.out];clear ha EN EC ok;generalize z00 l now s=y at *;rcases hb:z18 l now s with _|_
  all_goals
   rw[hb] at LK;clear hb;go_enter Tryz.func108,Tryz.ntmps108;go_wp2_with fail;refine RD.out.mono ?_;rintro e1 w1 ⟨rfl,f1⟩;go_wp2_with fail;refine(LK.out _ f1).mono ?_;rintro e2 w2 ⟨cs,rfl,hc,f2⟩;obtain⟨A1,c1,A2,c2,A3,c3,hcs,-⟩:=hc;obtain rfl:cs=(z8f y A1 c1 A2 c2 A3 c3).toArray:=by rw[←hcs]
   clear hcs;unfold z8f;go_wp2;go_ret2;exact⟨rfl,(f1.trans f2).alloc _⟩
 ·have q1:(z0u l now s != 0)=true:=by simpa using ha
  rw[EN.out,EC.out,if_neg ha,if_neg ha];clear ha EN EC;generalize z0u l now s=r at *;go_enter Tryz.func108,Tryz.ntmps108;go_wp2_with fail;refine RD.out.mono ?_;rintro e1 w1 ⟨rfl,f1⟩;go_wp2;go_ret2;exact⟨rfl,f1⟩
def SNC(l:List Ent)(n c:Int)(w:World)(r:Ending)(w':World):Prop:=∃u,r=.returned (.tuple #[u,.int .i64 n,.int .i64 c])∧z1s w' w.heap.size u l∧Fr [] w w'
def swL(l:List Ent)(now:Int):List Ent:=if z0u l now ⟨#[]⟩=0 then z9r l now else []
def swN(l:List Ent)(now:Int):Int:=if z0u l now ⟨#[]⟩=0 then (l.length:Int) - (z9r l now).length else 0
theorem zem(l:List Ent)(v:Value)(now:Int)(w:World)(B:Nat)(hs:∀e∈l,e.Small)(hl:l.length≤281474976710656)(hB:B≤w.heap.size)(h:z1l w B v l):
  Calls prog 110 #[v,.int .i64 now] w (SNC (swL l now) (swN l now) (z0u l now ⟨#[]⟩) w):=by
 obtain⟨A,c,rfl⟩:=h.form;have RD:=hid (z36 l _ now ⟨#[]⟩ w B hs hl (by decide) hB h);have HV:=hid h;have HS:=hid hs;have EL:=hid (show swL l now=if z0u l now ⟨#[]⟩=0 then z9r l now else [] from rfl);have EN:=hid (show swN l now=if z0u l now ⟨#[]⟩=0 then (l.length:Int) - (z9r l now).length else 0 from rfl);clear h hs;by_cases ha:z0u l now ⟨#[]⟩=0
 ·have ok:=zwu (q0n ha).1;have OW:=hid (fun W (hW:Fr [] w W)=>z2y l _ W B HS.out (ziq ok) (by have:=ok.le;omega) (Nat.le_trans hB hW.size) (HV.out.fr hW hB (by simp)));have hl16:=ok.le;have hsw:(z9r l now).length≤l.length:=List.length_filter_le _ _;rw[ha] at RD EL EN ⊢;rw[EL.out,EN.out,if_pos rfl,if_pos rfl];have SW:=hid (fun W u base (h:z1s W base u l)=>zh6 l u now base W (by omega) h);clear ha EL EN ok;generalize z9r l now=l2 at *;go_enter Tryz.func110,Tryz.ntmps110;go_wp2_with fail;refine RD.out.mono ?_;rintro e1 w1 ⟨rfl,f1⟩;have F1:=hid f1;clear f1;go_wp2_with fail;refine(OW.out _ F1.out).mono ?_;rintro e2 w2 ⟨u2,rfl,ho2,f2⟩;have F2:=hid (F1.out.trans f2);have HO2:=hid ho2;obtain⟨A2,c2,rfl⟩:=ho2.form;clear ho2 f2;go_wp2_with fail;refine(SW.out _ _ _ HO2.out).mono ?_;rintro e3 w3 ⟨u3,rfl,ho3,f3⟩;obtain⟨A3,c3,rfl⟩:=ho3.form;have HO3:=hid ho3
  have F3:=hid (F2.out.step f3 (fun k hk=>.inr (by
   obtain⟨rs,_,_,hr⟩:=HO2.out;have:=z1f hr hk;have:=F1.out.size;omega)))
  clear ho3 f3;go_wp2;refine bodyPost_ret (v:=.tuple #[.slice A3 l2.length c3,.int .i64 ((l.length:Int) - (l2.length:Int)),.int .i64 0]) (by simp[results,Tryz.results110,go_sem]) rfl ?_;exact⟨_,rfl,HO3.out.base F1.out.size,F3.out⟩
 ·have q1:(z0u l now ⟨#[]⟩ != 0)=true:=by simpa using ha
  rw[EL.out,EN.out,if_neg ha,if_neg ha];clear ha EL EN;generalize z0u l now ⟨#[]⟩=r at *;go_enter Tryz.func110,Tryz.ntmps110;go_wp2_with fail;refine RD.out.mono ?_;rintro e1 w1 ⟨rfl,f1⟩;go_wp2;refine bodyPost_ret (v:=.tuple #[.slice none 0 0,.int .i64 0,.int .i64 r]) (by simp[results,Tryz.results110,go_sem]) rfl ?_;exact⟨_,rfl,z1s.nil _ _,f1⟩
attribute [local go_sem] z1k
def PSt(w:World)(pb:Nat)(p:ByteArray)(k:Nat):Prop:=Whole w pb 329 [.string p,.int .i64 k]
theorem PSt.facts{w:World}{pb:Nat}{p:ByteArray}{k:Nat}(h:PSt w pb p k):
  w.cell? ⟨pb,0,none⟩=some (.string p)∧w.cell? ⟨pb,1,none⟩=some (.int .i64 k)∧w.frozen? ⟨pb,0,none⟩=false∧w.frozen? ⟨pb,1,none⟩=false∧pb < w.heap.size:=
 ⟨h.cell 0,h.cell 1,h.frozen 0,h.frozen 1,h.lt⟩
theorem PSt.set{w:World}{pb:Nat}{p:ByteArray}{k:Nat}(h:PSt w pb p k)(k':Nat){z:Int}(e:z=k'):PSt (w.setCell ⟨pb,1,none⟩ (.int .i64 z)) pb p k':=by
 subst e;exact Whole.set_ h 1 _
def zda:Value:=.iface 325 (.agg #[])
theorem z6m(p:ByteArray)(pb k:Nat)(w:World)(hs:p.size≤281474976710656)(h:PSt w pb p k)(hk:k < p.size):
  Calls prog 364 #[.pointer (some ⟨pb,0,none⟩)] w fun e w'=>e=.returned (.int .u8 (z03 p k))∧PSt w' pb p (k+1)∧Fr [pb] w w':=by
 obtain⟨c0,c1,f0,f1,hlt⟩:=h.facts;have ht:((k:Int)==p.size)=false:=by simp;omega
 have b0:=z1u p k;go_enter Tryz.func364,Tryz.ntmps364;go_wp2;go_quiet (fail);go_wp2;go_quiet (fail);go_wp2;go_ret;exact⟨rfl,PSt.set h (k+1) (by omega),(((Fr.refl _ _).drewN _).setCell (.inl (by simp)) _).drewN _⟩
theorem zme(p:ByteArray)(pb k:Nat)(w:World)(hs:p.size≤281474976710656)(h:PSt w pb p k)(hk:k=p.size):
  Calls prog 364 #[.pointer (some ⟨pb,0,none⟩)] w fun e w'=>e=.panicked [{ v:=zda,recovered:=false }]∧Fr [pb] w w':=by
 obtain⟨c0,c1,f0,f1,hlt⟩:=h.facts;have ht:((k:Int)==p.size)=true:=by simp;omega
 clear hk;go_enter Tryz.func364,Tryz.ntmps364;go_wp2;go_quiet (fail);go_wp2;exact⟨rfl,rfl,(Fr.refl _ _).drewN _⟩
theorem zy2(p:ByteArray)(pb k:Nat)(m c:Nat)(w:World)(hs:p.size≤281474976710656)(hm:m≤1)(hc:c < 256)(h:PSt w pb p k)(hk:k+m < p.size):
  Calls prog 377 #[.pointer (some ⟨pb,0,none⟩),.int .i64 m,.int .u8 c] w fun e w'=>e=.returned (.bool (decide (z03 p (k+m)=c)))∧∃n,w'=w.drewN n:=by
 obtain⟨c0,c1,f0,f1,hlt⟩:=h.facts;have ht:(k:Int)+m < p.size:=by omega
 have b0:=z1u p (k+m);have E:=hid (show decide (z03 p (k+m)=c)=((z03 p (k+m):Int)==c) by rw[Bool.eq_iff_iff];simp;omega);have e1:((k:Int)+m).toNat=k+m:=by omega
 go_enter Tryz.func377,Tryz.ntmps377;go_wp2;go_quiet (fail);go_wp2;go_ret;rw[E.out];exact⟨rfl,_,rfl⟩
theorem zv0(p:ByteArray)(pb k:Nat)(m c:Nat)(w:World)(hs:p.size≤281474976710656)(hm:m≤1)(hc:c < 256)(h:PSt w pb p k)(hk:¬k+m < p.size)(hk2:k≤p.size):
  Calls prog 377 #[.pointer (some ⟨pb,0,none⟩),.int .i64 m,.int .u8 c] w fun e w'=>e=.returned (.bool false)∧∃n,w'=w.drewN n:=by
 obtain⟨c0,c1,f0,f1,hlt⟩:=h.facts;have ht:decide ((k:Int)+m < p.size)=false:=by simp;omega
 go_enter Tryz.func377,Tryz.ntmps377;go_wp2;go_quiet (fail);go_wp2;go_ret;exact⟨rfl,_,rfl⟩
def z48(p:ByteArray)(k c:Nat):Bool:=decide (k < p.size)&&decide (z03 p k=c)
theorem z5m(p:ByteArray)(pb k:Nat)(m c:Nat)(w:World)(hs:p.size≤281474976710656)(hm:m≤1)(hc:c < 256)(h:PSt w pb p k)(hk2:k≤p.size):
  Calls prog 377 #[.pointer (some ⟨pb,0,none⟩),.int .i64 m,.int .u8 c] w fun e w'=>e=.returned (.bool (z48 p (k+m) c))∧∃n,w'=w.drewN n:=by
 by_cases hk:k+m < p.size
 ·have e:z48 p (k+m) c=decide (z03 p (k+m)=c):=by simp[z48,hk]
  rw[e];exact zy2 p pb k m c w hs hm hc h hk
 ·have e:z48 p (k+m) c=false:=by simp[z48,hk]
  rw[e];exact zv0 p pb k m c w hs hm hc h hk hk2
theorem zvg(c:Nat)(w:World):Calls prog 365 #[.int .u8 c] w fun e w'=>e=.returned (.bool true)∧w=w':=by
 go_enter Tryz.func365,Tryz.ntmps365;go_wp2;go_ret;exact⟨rfl,rfl⟩
theorem zvx(c x b:Nat)(w:World)(h:w.cell? ⟨b,0,none⟩=some (.int .u8 x)):
  Calls prog 379 #[.int .u8 c,.pointer (some ⟨b,0,none⟩)] w fun e w'=>e=.returned (.bool (decide (c=x)))∧w=w':=by
 have E:=hid (show decide (c=x)=((c:Int)==x) by rw[Bool.eq_iff_iff];simp;omega);go_enter Tryz.func379,Tryz.ntmps379;go_wp2;go_ret;rw[E.out];exact⟨rfl,rfl⟩
theorem ztd(c b b2:Nat)(m neg:Bool)(w:World)(hc:c < 256)(h:w.cell? ⟨b,c,none⟩=some (.bool m))(h2:w.cell? ⟨b2,0,none⟩=some (.bool neg)):
  Calls prog 378 #[.int .u8 c,.pointer (some ⟨b,0,none⟩),.pointer (some ⟨b2,0,none⟩)] w fun e w'=>e=.returned (.bool (m != neg))∧∃n,w'=w.drewN n:=by
 go_enter Tryz.func378,Tryz.ntmps378;go_wp2;go_quiet (fail);go_wp2;go_ret;exact⟨rfl,_,rfl⟩
def z5j(w:World)(L B:Nat):Part→Value→Value→Prop
 | .star,a,f=>a=.bool true∧f=.nilFunc
 | .any,a,f=>a=.bool false∧f=.func (.func 365) #[] #[]
 | .lit x,a,f=>a=.bool false∧∃b,L≤b∧b < B∧f=.func (.func 379) #[] #[.pointer (some ⟨b,0,none⟩)]∧Whole w b 5 [.int .u8 x]
 | .cls neg rs,a,f=>a=.bool false∧∃b b2,L≤b∧b < B∧L≤b2∧b2 < B∧f=.func (.func 378) #[] #[.pointer (some ⟨b,0,none⟩),.pointer (some ⟨b2,0,none⟩)] ∧
   w.rowIs b 351 256 (fun c=>.bool (z2j rs c))∧Whole w b2 4 [.bool neg]
theorem zvk{w w':World}{b t n:Nat}{f:Nat→Value}(h:w.rowIs b t n f)(hk:∀cs,w.heap[b]? = some (.cells cs t (0,0))→w'.heap[b]? = w.heap[b]?):w'.rowIs b t n f:=by
 obtain⟨c,hc,h2⟩:=h;exact⟨c,(hk c hc).trans hc,h2⟩
theorem z5j.keep{w w':World}{L L' B B':Nat}{P:Part}{a f:Value}(h:z5j w L B P a f)
  (hb:∀(g:Nat) (t:TypeId) (cs:Array Value),L≤g→g < B→t≠286→w.heap[g]? = some (.cells cs t (0,0))→w'.heap[g]? = w.heap[g]?) (hL:L'≤L) (hB:B≤B'):z5j w' L' B' P a f:=by
 cases P with
 | star=>exact h
 | any=>exact h
 | lit x=>
  obtain⟨h1,b,hl,hlt,h2,h3⟩:=h;exact⟨h1,b,by omega,by omega,h2,(hb b _ _ hl hlt (by decide) h3).trans h3⟩
 | cls neg rs=>
  obtain⟨h1,b,b2,hl,hlt,hl2,hlt2,h2,h3,h4⟩:=h;exact⟨h1,b,b2,by omega,by omega,by omega,by omega,h2,zvk h3 (fun cs hc=>hb b _ cs hl hlt (by decide) hc),(hb b2 _ _ hl2 hlt2 (by decide) h4).trans h4⟩
theorem z5j.one{w:World}{L B:Nat}{P:Part}{a f:Value}(h:z5j w L B P a f):a.oneCell'=true∧f.oneCell'=true:=by
 cases P with
 | star=>obtain⟨rfl,rfl⟩:=h;exact⟨rfl,rfl⟩
 | any=>obtain⟨rfl,rfl⟩:=h;exact⟨rfl,rfl⟩
 | lit x=>obtain⟨rfl,b,_,_,rfl,_⟩:=h;exact⟨rfl,rfl⟩
 | cls neg rs=>obtain⟨rfl,b,b2,_,_,_,_,rfl,_⟩:=h;exact⟨rfl,rfl⟩
theorem zf1(x:Nat)(w:World):
  Calls prog 367 #[.int .u8 x] w fun e w'=>(∃f,e=.returned (.agg #[.bool false,f])∧z5j w' w.heap.size w'.heap.size (.lit x) (.bool false) f)∧Fr [] w w':=by
 have hmf:∀(fn:Fn) (first cap:Array Value) (w:World),(Instr.makeFunc fn first cap).run prog w=.ok (.func fn first cap) w:=fun _ _ _ _=>rfl;go_enter Tryz.func367,Tryz.ntmps367;go_wp2;refine bodyPost_ret (v:=.agg #[.bool false,.func (.func 379) #[] #[.pointer (some ⟨w.heap.size,0,none⟩)]]) (by simp[results,Tryz.results367,go_sem]) rfl ⟨⟨_,rfl,?_⟩,?_⟩
 ·exact⟨rfl,w.heap.size,Nat.le_refl _,by simp;omega,rfl,(Whole.new w 5 [.int .u8 x]).alloc _⟩
 ·exact((Fr.refl _ _).alloc _).alloc _
theorem PSt.drewN{w:World}{pb:Nat}{p:ByteArray}{k:Nat}(h:PSt w pb p k)(n:Nat):PSt (w.drewN n) pb p k:=h
theorem PSt.alloc{w:World}{pb:Nat}{p:ByteArray}{k:Nat}(h:PSt w pb p k)(o:Obj):PSt (w.alloc o) pb p k:=Whole.alloc h o
theorem PSt.lt{w:World}{pb:Nat}{p:ByteArray}{k:Nat}(h:PSt w pb p k):pb < w.heap.size:=Whole.lt h
theorem PSt.far{w:World}{pb:Nat}{p:ByteArray}{k:Nat}(h:PSt w pb p k){q:Addr}(hp:pb≠q.block)(u:Value):PSt (w.setCell q u) pb p k:=Whole.far h hp u
def ClsIn(w wc:World)(pb:Nat)(p:ByteArray)(m:Nat)(neg:Bool):Prop:=
 PSt wc pb p m∧Whole wc w.heap.size 286 [.bool false,.nilFunc]∧Whole wc (w.heap.size+1) 4 [.bool neg]∧Fr [pb] w wc∧wc.heap.size=w.heap.size+2
def zrm(w:World)(pb:Nat)(p:ByteArray)(m:Nat)(neg:Bool)(e:Ending)(w':World):Prop:=
 (∃(x:List (Nat×Nat)×Nat) (f:Value),cls p m=some x∧x.1≠[]∧e=.returned (.agg #[.bool false,f])∧z5j w' w.heap.size w'.heap.size (.cls neg x.1) (.bool false) f∧PSt w' pb p (x.2+1)∧Fr [pb] w w') ∨
 ((∀x,cls p m=some x→x.1=[])∧e=.panicked [{ v:=zda,recovered:=false }]∧Fr [pb] w w')
structure zjd(w wr:World)(pb:Nat)(p:ByteArray)(neg:Bool)(k:Nat)(f:Nat→Bool):Prop where
 st:PSt wr pb p k
 c0:Whole wr w.heap.size 286 [.bool false,.nilFunc]
 c1:Whole wr (w.heap.size+1) 4 [.bool neg]
 tab:wr.rowIs (w.heap.size+2) 351 256 (fun c=>.bool (f c))
 fr:Fr [pb] w wr
 sz:w.heap.size+3≤wr.heap.size
theorem zjd.drewN{w wr:World}{pb:Nat}{p:ByteArray}{neg:Bool}{k:Nat}{f:Nat→Bool}(h:zjd w wr pb p neg k f)(n:Nat):zjd w (wr.drewN n) pb p neg k f:=
 ⟨h.st,h.c0,h.c1,h.tab,h.fr.drewN n,h.sz⟩
theorem zjd.next{w wr w1:World}{pb:Nat}{p:ByteArray}{neg:Bool}{k k':Nat}{f:Nat→Bool}(h:zjd w wr pb p neg k f)(hpb:pb < w.heap.size)(h1:PSt w1 pb p k')(hf:Fr [pb] wr w1):zjd w w1 pb p neg k' f:=
 ⟨h1,h.c0.fr hf (by simp;omega),h.c1.fr hf (by simp;omega),h.tab.of_block (hf.block _ (by have:=h.sz;omega) (by simp;omega)),h.fr.trans hf,Nat.le_trans h.sz hf.size⟩
theorem zjd.at_{w wr:World}{pb:Nat}{p:ByteArray}{neg:Bool}{k:Nat}{f:Nat→Bool}(h:zjd w wr pb p neg k f)(hpb:pb < w.heap.size)(k':Nat){z:Int}(e:z=k'):zjd w (wr.setCell ⟨pb,1,none⟩ (.int .i64 z)) pb p neg k' f:=
 ⟨h.st.set k' e,h.c0.far (by simp;omega) _,h.c1.far (by simp;omega) _,h.tab.setOther (by simp;omega) _,h.fr.setCell (.inl (by simp)) _,by simpa[World.setCell] using h.sz⟩
theorem zjd.put{w wr:World}{pb:Nat}{p:ByteArray}{neg:Bool}{k:Nat}{f g:Nat→Bool}(h:zjd w wr pb p neg k f)(hpb:pb < w.heap.size)(i:Nat)(hg:∀c,c < 256→g c=if c=i then true else f c):
  zjd w (wr.setCell ⟨w.heap.size+2,i,none⟩ (.bool true)) pb p neg k g:=
 ⟨h.st.far (by simp;omega) _,h.c0.far (by simp) _,h.c1.far (by simp) _,(h.tab.set i _).congr (fun c hc=>by rw[hg c hc];split <;> rfl),h.fr.setCell (.inr (by simp)) _,by simpa[World.setCell] using h.sz⟩
theorem z9z(ds:List (Nat×Nat))(a b c:Nat):z2j (ds++[(a,b)]) c=(z2j ds c||(decide (a≤c)&&decide (c≤b))):=by simp[z2j]
theorem zr4(p:ByteArray)(pb k m:Nat)(neg:Bool)(w:World)(hs:p.size≤281474976710656)(h:PSt w pb p k)(hk:k≤p.size)
  (hneg:z48 p (k+0) 94=neg) (hm:m=if neg then k+1 else k):
  Calls prog 366 #[.pointer (some ⟨pb,0,none⟩)] w (zrm w pb p m neg):=by
 have hmf:∀(fn:Fn) (first cap:Array Value) (w:World),(Instr.makeFunc fn first cap).run prog w=.ok (.func fn first cap) w:=fun _ _ _ _=>rfl;have hlt:=h.lt
 have hmle:m≤p.size:=by
  subst hm;cases neg with
  | false=>exact hk
  | true=>simp[z48] at hneg;simp;omega
 have H:=hid h;have HM:=hid hm;have HN:=hid hneg;clear h hm hneg;go_enter Tryz.func366,Tryz.ntmps366;go_wp2_with fail;refine(z5m p pb k 0 94 _ hs (by omega) (by omega) (H.out.alloc _) hk).mono ?_;rw[HN.out];rintro e w' ⟨rfl,n,rfl⟩
 go_upto_if 10 with fail
 go_cut [] (fun wc=>ClsIn w wc pb p m neg)
 case first=>
  have hp:=H.out;obtain⟨c0,c1,f0,f1,_⟩:=H.out.facts;cases neg with
  | true=>
   go_wp2;go_meet
   case rel=>
    have e:m=k+1:=by simpa using HM.out
    subst e
    exact⟨(((hp.alloc _).drewN n).set (k+1) (by omega)).alloc _,((((Whole.new w _ _).drewN n).far (p:=⟨pb,1,none⟩) (by simp;omega) _).alloc _),
     by simpa using Whole.new ((((w.alloc (Obj.cells #[Value.bool false,Value.nilFunc] 286)).drewN n).setCell ⟨pb,1,none⟩ (Value.int .i64 (↑k+1)))) 4 [.bool true],
     ((((Fr.refl _ w).alloc _).drewN n).setCell (.inl (by simp)) _).alloc _,by simp⟩
  | false=>
   go_wp2;go_meet
   case rel=>
    have e:m=k:=by simpa using HM.out
    subst e
    exact⟨((hp.alloc _).drewN n).alloc _,(((Whole.new w _ _).drewN n).alloc _),
     by simpa using Whole.new (((w.alloc (Obj.cells #[Value.bool false,Value.nilFunc] 286)).drewN n)) 4 [.bool false],
     (((Fr.refl _ w).alloc _).drewN n).alloc _,by simp⟩
 case rest=>
  obtain⟨hp,hg0,hg1,hfr,hsz⟩:=hcut;cases h93:z48 p (m+0) 93 with
  | true=>
   have hno:∀x,cls p m=some x→x.1=[]:=by
    intro x hx;simp[z48] at h93;rw[z8d,if_pos h93.1,if_pos h93.2] at hx;cases hx;rfl
   have H93:=hid h93;have HNO:=hid hno;clear h93 hno;go_wp2_with fail;refine(z5m p pb m 0 93 _ hs (by omega) (by omega) hp hmle).mono ?_;rw[H93.out];rintro e w' ⟨rfl,n',rfl⟩;go_wp2;exact⟨rfl,.inr ⟨HNO.out,rfl,hfr.drewN _⟩⟩
  | false=>
   have H93:=hid h93;clear h93;go_wp2_with fail;refine(z5m p pb m 0 93 _ hs (by omega) (by omega) hp hmle).mono ?_;rw[H93.out];rintro e w' ⟨rfl,n',rfl⟩;go_wp2_with fail
   have hL0:zjd w ((wc.drewN n').alloc (.cells (List.replicate 256 (Value.bool false)).toArray 351)) pb p neg m (fun c=>z2j [] c):=
    ⟨hp.alloc _,hg0.alloc _,hg1.alloc _,by
     have:=World.rowIs_alloc (wc.drewN n') (List.replicate 256 (Value.bool false)).toArray 351 (fun c=>.bool (z2j [] c)) (fun i hi=>by
      rw[List.size_toArray,List.length_replicate] at hi;rw[List.getElem?_toArray,List.getElem?_replicate,if_pos hi];rfl)
     simpa[hsz] using this,(hfr.drewN _).alloc _,by simp[hsz]⟩
   go_loopg [5,6,7] (p.size+1 - m) (fun g _ _ _ wr=>∃(k:Nat) (ds:List (Nat×Nat)),g=p.size+1 - k∧k≤p.size∧zjd w wr pb p neg k (z2j ds)∧cls p m=(cls p k).map (fun y=>(ds++y.1,y.2))∧(ds=[]→k=m))
   case atStart=>exact⟨m,[],rfl,hmle,hL0,by simp,fun _=>rfl⟩
   case round=>
    clear hL0 hp hg0 hg1 hfr hsz;obtain⟨k,ds,rfl,hkle,hL,hR,hds⟩:=hrel;have HR:=hid hR;have HD:=hid hds;have HL:=hid hL;have hp:=hL.st;clear hR hds hL;cases h93:z48 p (k+0) 93 with
    | true=>
     have HK:=hid h93;clear h93;go_wp2_with fail;refine(z5m p pb k 0 93 _ hs (by omega) (by omega) hp hkle).mono ?_;rw[HK.out];rintro e w' ⟨rfl,n',rfl⟩;obtain⟨c0,c1,f0,f1,_⟩:=hp.facts;have q0:=HL.out.c0.cell 0;have q1:=HL.out.c0.cell 1;have r0:=HL.out.c0.frozen 0;have r1:=HL.out.c0.frozen 1;simp at q0 q1;go_wp2;refine bodyPost_ret (v:=.agg #[.bool false,.func (.func 378) #[] #[.pointer (some ⟨w.heap.size+2,0,none⟩),.pointer (some ⟨w.heap.size+1,0,none⟩)]]) (by simp[results,Tryz.results366,go_sem,q0,q1]) rfl ?_;have hL:=HL.out;have hk93:=HK.out;simp[z48] at hk93;have hcls:cls p k=some ([],k):=by rw[z8d,if_pos hk93.1,if_pos hk93.2]
     have hR:=HR.out;rw[hcls] at hR;simp at hR;refine .inl ⟨(ds,k),_,hR,?_,rfl,?_,?_,?_⟩
     ·intro hd;have hkm:=HD.out hd;have:=H93.out;rw[←hkm,HK.out] at this;cases this
     ·refine⟨rfl,w.heap.size+2,w.heap.size+1,by omega,?_,by omega,?_,rfl,?_,?_⟩
      ·have:=hL.sz;simp[World.setCell];omega
      ·have:=hL.sz;simp[World.setCell];omega
      ·have t:=(((hL.tab.setOther (a:=⟨pb,1,none⟩) (by simp;omega) (Value.int .i64 (↑k+1))).setOther (a:=⟨w.heap.size,0,none⟩) (by simp) (Value.bool false)).setOther (a:=⟨w.heap.size,1,none⟩) (by simp)
        (.func (.func 378) #[] #[.pointer (some ⟨w.heap.size+2,0,none⟩),.pointer (some ⟨w.heap.size+1,0,none⟩)]))
       exact t
      ·have t:=(((hL.c1.far (p:=⟨pb,1,none⟩) (by simp;omega) (Value.int .i64 (↑k+1))).far (p:=⟨w.heap.size,0,none⟩) (by simp) (Value.bool false)).far (p:=⟨w.heap.size,1,none⟩) (by simp)
        (.func (.func 378) #[] #[.pointer (some ⟨w.heap.size+2,0,none⟩),.pointer (some ⟨w.heap.size+1,0,none⟩)]))
       exact t
     ·exact((hL.st.set (k+1) (by omega)).far (q:=⟨w.heap.size,0,none⟩) (by simp;omega) _).far (q:=⟨w.heap.size,1,none⟩) (by simp;omega) _
     ·exact(((hL.fr.drewN _).setCell (.inl (by simp)) _).setCell (.inr (by simp)) _).setCell (.inr (by simp)) _
    | false=>
     have HK:=hid h93;by_cases hend:k < p.size
     ·have hne:z03 p k≠93:=by simp[z48] at h93;exact h93 hend
      clear h93;have b0:=z1u p k;go_wp2_with fail;refine(z5m p pb k 0 93 _ hs (by omega) (by omega) hp hkle).mono ?_;rw[HK.out];rintro e w' ⟨rfl,n',rfl⟩;go_wp2_with fail;refine(z6m p pb k _ hs (hp.drewN _) hend).mono ?_;rintro e w1 ⟨rfl,hp1,hf1⟩;have HL1:=hid ((HL.out.drewN n').next hlt hp1 hf1);obtain⟨c0,c1,f0,f1,_⟩:=hp1.facts;clear hf1
      have hA:∀n:Nat,Calls prog 377 #[.pointer (some ⟨pb,0,none⟩),.int .i64 0,.int .u8 45] (w1.drewN n) fun e w'=>e=.returned (.bool (z48 p (k+1+0) 45))∧∃m,w'=(w1.drewN n).drewN m:=
       fun n=>z5m p pb (k+1) 0 45 _ hs (by omega) (by omega) (hp1.drewN _) (by omega)
      have hB:∀n:Nat,Calls prog 377 #[.pointer (some ⟨pb,0,none⟩),.int .i64 1,.int .u8 93] (w1.drewN n) fun e w'=>e=.returned (.bool (z48 p (k+1+1) 93))∧∃m,w'=(w1.drewN n).drewN m:=
       fun n=>z5m p pb (k+1) 1 93 _ hs (by omega) (by omega) (hp1.drewN _) (by omega)
      have HA:=hid hA;have HB:=hid hB;clear hA hB;have ek:((k+1:Nat):Int)=(k:Int)+1:=by omega
      by_cases hc:k+2 < p.size∧z03 p (k+1)=45∧z03 p (k+2)≠93
      ·obtain⟨h2,h45,h932⟩:=hc;have HAe:z48 p (k+1+0) 45=true:=by simp[z48];exact⟨by omega,h45⟩
       have HBe:z48 p (k+1+1) 93=false:=by simp[z48];exact fun _=>h932
       rw[HAe] at HA;rw[HBe] at HB
       have hstep:cls p k=if z03 p (k+2) < z03 p k then none else (cls p (k+3)).map fun x=>((z03 p k,z03 p (k+2)) :: x.1,x.2):=by
        rw[z8d,if_pos hend,if_neg hne,if_pos ⟨h2,h45,h932⟩]
       have HS:=hid hstep;have d2:(k:Int)+1+1 < p.size:=by omega
       have bb:=z1u p (k+2);clear hstep hne h45 h932 HAe HBe;go_wp2_with fail;go_cut [47] (fun t wx=>t=.bool true∧∃n,wx=w1.drewN n)
       case first=>
        go_quiet ((first|(with_reducible exact Calls.quiet_of (HA.out _))|(with_reducible exact Calls.quiet_of (HB.out _))))
        go_wp2;go_meet
        case rel=>exact⟨rfl,_,rfl⟩
       case rest=>
        obtain⟨rfl,n2,rfl⟩:=hcut;go_wp2_with fail;refine(z6m p pb (k+2) _ hs ((hp1.drewN n2).set (k+2) (by omega)) h2).mono ?_;rintro e w2 ⟨rfl,hp2,hf2⟩;have HL2:=hid (((HL1.out.drewN n2).at_ hlt (k+2) (z:=(k:Int)+1+1) (by omega)).next hlt hp2 hf2);clear hf2;by_cases hlt3:z03 p (k+2) < z03 p k
        ·have hcn:∀x,cls p m=some x→x.1=[]:=by
          intro x hx;rw[HR.out,HS.out,if_pos hlt3] at hx;simp at hx
         have HCN:=hid hcn;clear hcn;go_wp2;exact⟨rfl,.inr ⟨HCN.out,rfl,HL2.out.fr⟩⟩
        ·have hcs:cls p k=(cls p (k+3)).map fun x=>((z03 p k,z03 p (k+2)) :: x.1,x.2):=by rw[HS.out,if_neg hlt3]
         have HC:=hid hcs;clear hcs;go_wp2;go_loopg [7] (z03 p (k+2)+1 - z03 p k) (fun g c wi=>∃i:Nat,g=z03 p (k+2)+1 - i∧c=.int .i64 i∧z03 p k≤i∧i≤z03 p (k+2)+1∧zjd w wi pb p neg (k+3) (fun c=>z2j ds c||(decide (z03 p k≤c)&&decide (c < i))))
         case atStart=>
          refine⟨z03 p k,rfl,rfl,Nat.le_refl _,by omega,?_⟩;have:=HL2.out
          exact⟨this.st,this.c0,this.c1,this.tab.congr (fun c _=>by
           have:(decide (z03 p k≤c)&&decide (c < z03 p k))=false:=by simp
           simp[this]),this.fr,this.sz⟩
         case round=>
          obtain⟨i,rfl,rfl,hi1,hi2,hI⟩:=hrel;have bB:=z1u p (k+2);have HI:=hid hI;have hcell:=hI.tab.cell (i:=i);have hfz:=hI.tab.frozen i;clear hI;by_cases hle:i≤z03 p (k+2)
          ·have hc1:=hcell (by omega);have hi256:(i:Int) < 256:=by omega
           clear hcell;go_wp2;go_roundg (z03 p (k+2)+1 - (i+1))
           case measure=>omega
           case rel=>
            exact⟨i+1,rfl,by go_num,by omega,by omega,HI.out.put hlt i (fun c _=>by
             by_cases hci:c=i
             ·subst hci;simp;right;omega
             ·rw[if_neg hci,decide_eq_decide.2 (show c < i+1↔c < i by omega)])⟩
          ·clear hcell;go_wp2;go_roundg (p.size+1 - (k+3))
           case measure=>omega
           case rel=>
            refine⟨(k+3),ds++[(z03 p k,z03 p (k+2))],rfl,by omega,?_,?_,by simp⟩
            ·have:=HI.out
             exact⟨this.st,this.c0,this.c1,this.tab.congr (fun c _=>by
              have e:i=z03 p (k+2)+1:=by omega
              subst e;rw[z9z];congr 2;rw[decide_eq_decide.2 (show c < z03 p (k+2)+1↔c≤z03 p (k+2) by omega)]),this.fr,this.sz⟩
            ·rw[HR.out,HC.out];cases cls p (k+3) <;> simp
      ·have hcs:cls p k=(cls p (k+1)).map fun x=>((z03 p k,z03 p k) :: x.1,x.2):=by rw[z8d,if_pos hend,if_neg hne,if_neg hc]
       have HC:=hid hcs;clear hcs hne;go_wp2_with fail;go_cut [47] (fun t wx=>t=.bool false∧∃n,wx=w1.drewN n)
       case first=>
        cases h45:z48 p (k+1+0) 45 with
        | false=>
         rw[h45] at HA;clear h45;go_quiet ((go_at_call 377;exact Calls.quiet_of (HA.out _)));go_wp2;go_meet
         case rel=>exact⟨rfl,_,rfl⟩
        | true=>
         rw[h45] at HA;by_cases hl2:k+2 < p.size
         ·have h93':z48 p (k+1+1) 93=true:=by
           simp[z48] at h45 ⊢;exact⟨hl2,Decidable.byContradiction fun h=>hc ⟨hl2,h45.2,h⟩⟩
          rw[h93'] at HB;have d2:(k:Int)+1+1 < p.size:=by omega
          clear h45 h93' hc;go_quiet ((first|(with_reducible exact Calls.quiet_of (HA.out _))|(with_reducible exact Calls.quiet_of (HB.out _))))
          go_wp2;go_meet
          case rel=>exact⟨rfl,_,rfl⟩
         ·have d2:decide ((k:Int)+1+1 < p.size)=false:=by simp;omega
          clear h45 hc;go_quiet ((first|(with_reducible exact Calls.quiet_of (HA.out _))|(with_reducible exact Calls.quiet_of (HB.out _))))
          go_wp2;go_meet
          case rel=>exact⟨rfl,_,rfl⟩
       case rest=>
        obtain⟨rfl,n2,rfl⟩:=hcut;have HL2:=hid (HL1.out.drewN n2);go_wp2;go_loopg [7] (z03 p (k)+1 - z03 p k) (fun g c wi=>∃i:Nat,g=z03 p (k)+1 - i∧c=.int .i64 i∧z03 p k≤i∧i≤z03 p (k)+1∧zjd w wi pb p neg (k+1) (fun c=>z2j ds c||(decide (z03 p k≤c)&&decide (c < i))))
        case atStart=>
         refine⟨z03 p k,rfl,rfl,Nat.le_refl _,by omega,?_⟩;have:=HL2.out
         exact⟨this.st,this.c0,this.c1,this.tab.congr (fun c _=>by
          have:(decide (z03 p k≤c)&&decide (c < z03 p k))=false:=by simp
          simp[this]),this.fr,this.sz⟩
        case round=>
         obtain⟨i,rfl,rfl,hi1,hi2,hI⟩:=hrel;have bB:=z1u p k;have HI:=hid hI;have hcell:=hI.tab.cell (i:=i);have hfz:=hI.tab.frozen i;clear hI;by_cases hle:i≤z03 p (k)
         ·have hc1:=hcell (by omega);have hi256:(i:Int) < 256:=by omega
          clear hcell;go_wp2;go_roundg (z03 p (k)+1 - (i+1))
          case measure=>omega
          case rel=>
           exact⟨i+1,rfl,by go_num,by omega,by omega,HI.out.put hlt i (fun c _=>by
            by_cases hci:c=i
            ·subst hci;simp;right;omega
            ·rw[if_neg hci,decide_eq_decide.2 (show c < i+1↔c < i by omega)])⟩
         ·clear hcell;go_wp2;go_roundg (p.size+1 - (k+1))
          case measure=>omega
          case rel=>
           refine⟨(k+1),ds++[(z03 p k,z03 p (k))],rfl,by omega,?_,?_,by simp⟩
           ·have:=HI.out
            exact⟨this.st,this.c0,this.c1,this.tab.congr (fun c _=>by
             have e:i=z03 p (k)+1:=by omega
             subst e;rw[z9z];congr 2;rw[decide_eq_decide.2 (show c < z03 p (k)+1↔c≤z03 p (k) by omega)]),this.fr,this.sz⟩
           ·rw[HR.out,HC.out];cases cls p (k+1) <;> simp
     ·have hke:k=p.size:=by omega
      have hcn:∀x,cls p m=some x→x.1=[]:=by
       intro x hx;rw[HR.out,z8d,if_neg hend] at hx;simp at hx
      have HCN:=hid hcn;clear hcn h93;go_wp2_with fail;refine(z5m p pb k 0 93 _ hs (by omega) (by omega) hp hkle).mono ?_;rw[HK.out];rintro e w' ⟨rfl,n',rfl⟩;go_wp2_with fail;refine(zme p pb k _ hs (hp.drewN _) hke).mono ?_;rintro e w1 ⟨rfl,hf1⟩;go_wp2;exact⟨rfl,.inr ⟨HCN.out,rfl,(HL.out.fr.drewN _).trans hf1⟩⟩
end Go.Proofs.YtmalkppcahogjaaGreatDoor
