/- Contracts that the proof of E3 uses. No condition beyond those in each theorem. -/
import Derived.Test.YtamgdmiopinidaaGreatDoorSlE315
set_option linter.unusedVariables false
set_option linter.unusedSimpArgs false
set_option maxHeartbeats 8000000
set_option maxRecDepth 100000
namespace Go.Proofs.YtamgdmiopinidaaGreatDoor
open Lib (hid)
open Tryz (prog)
open Go.RowKit
theorem zjn{l:List Ent}{k:Nat}{e:Ent}(q:Ent→Bool)(h:l[k]? = some e):(l.take (k+1)).filter q=(l.take k).filter q++(if q e=true then [e] else []):=by
 rw[List.take_add_one,h,List.filter_append]
 congr 1
 simp[List.filter_cons]
theorem zdx{l:List Ent}(k:Nat)(q:Ent→Bool):((l.take k).filter q).length≤l.length:=Nat.le_trans (List.length_filter_le _ _) (List.length_take_le' _ _)
theorem z92:∀a b:List UInt8,Op.bytesLess a b=decide (Lib.compareBytes a b < 0)
 | [],[]=>rfl
 | [],y :: s=>rfl
 | x :: r,[]=>rfl
 | x :: r,y :: s=>by
  show(decide (x < y)||(x==y&&Op.bytesLess r s))=decide ((if x < y then -1 else if y < x then 1 else Lib.compareBytes r s) < (0:Int))
  rw[z92 r s]
  by_cases h1:x < y
  ·rw[if_pos h1];simp[h1]
  ·rw[if_neg h1]
   by_cases h2:y < x
   ·rw[if_pos h2]
    have hne:¬x=y:=by rintro rfl;exact UInt8.lt_irrefl _ h2
    simp[h1,hne]
   ·rw[if_neg h2]
    have e:x=y:=by
     apply UInt8.toNat_inj.1
     rw[UInt8.lt_iff_toNat_lt] at h1 h2
     omega
    subst e
    simp[h1]
theorem zgv(a b:ByteArray):Op.bytesLess a.toList b.toList=decide (z4m a b < 0):=by
 rw[ByteArray.toList_eq,ByteArray.toList_eq,z92]
 rfl
theorem zsx{a b:ByteArray}(h:z4m a b < 0):Op.bytesLess b.toList a.toList=false∧(b.toList==a.toList)=false:=by
 have h2:=z69 a b
 refine⟨by rw[zgv];exact decide_eq_false (by omega),?_⟩
 refine neqB' ?_
 rintro rfl
 rw[z4l] at h
 exact absurd h (by decide)
theorem zlw(a b:ByteArray):(z4m a b < 0∧ltS a b=true)∨(a=b∧ltS a b=false)∨(z4m b a < 0∧ltS a b=false):=by
 have h2:=z69 a b
 rcases Int.lt_trichotomy (z4m a b) 0 with h|h|h
 ·exact .inl ⟨h,decide_eq_true h⟩
 ·exact .inr (.inl ⟨z8s h,decide_eq_false (by omega)⟩)
 ·exact .inr (.inr ⟨by omega,decide_eq_false (by omega)⟩)
theorem lessT{a b:ByteArray}(h:z4m a b < 0):Op.bytesLess a.toList b.toList=true:=by rw[zgv];exact decide_eq_true h
theorem zmj{l:List Ent}{j:Nat}(h:j < l.length):∃p,l[j]? = some p∧z7a l (j+1)=some p.key:=by
 refine⟨_,List.getElem?_eq_getElem h,?_⟩
 unfold z7a
 rw[if_neg (by omega),Nat.add_sub_cancel,List.getElem?_eq_getElem h]
 rfl
theorem zhn(s:ByteArray):z4o none s=false:=rfl
theorem z7n(k s:ByteArray):z4o (some k) s=!ltS k s:=rfl
theorem zvb{p:Option ByteArray}{e:Ent}(h:60 < e.key.size):z3b p e=2:=if_pos h
theorem zup{p:Option ByteArray}{e:Ent}(h:¬60 < e.key.size)(h2:z0d e.item≠0):z3b p e=z0d e.item:=by unfold z3b;rw[if_neg h,if_pos h2]
theorem zwb{p:Option ByteArray}{e:Ent}(h:¬60 < e.key.size)(h2:z0d e.item=0)(h3:z3a e.til=false):z3b p e=3:=by unfold z3b;rw[if_neg h,if_neg (fun hn=>hn h2),if_pos h3]
theorem zvx{p:Option ByteArray}{e:Ent}(h:¬60 < e.key.size)(h2:z0d e.item=0)(h3:z3a e.til=true):z3b p e=if z4o p e.key=true then 4 else 0:=by unfold z3b;rw[if_neg h,if_neg (fun hn=>hn h2),if_neg (by rw[h3];decide)]
def z0p(l:List Ent)(n:Int)(s:ByteArray):Int:=if z1t l≠0 then z1t l else if z3a n=false then 3 else if 60 < s.size then 2 else 0
theorem zwj{l:List Ent}{n:Int}{s:ByteArray}(h:z0p l n s=0):z1t l=0∧(0≤n∧n≤1000000)∧s.size≤60:=by
 unfold z0p at h
 split at h
 ·rename_i h1;exact absurd h h1
 ·rename_i h1
  split at h
  ·cases h
  ·rename_i h2
   split at h
   ·cases h
   ·have h2':z3a n=true:=by simpa using h2
    unfold z3a at h2'
    exact⟨by simpa using h1,by simpa using h2',by omega⟩
theorem z5u(l:List Ent)(v:Value)(w:World)(B:Nat)(hs:∀e∈l,e.Small)(hl:l.length≤281474976710656)(hB:B≤w.heap.size)(h:z0v w B v l) :
  Calls prog 25 #[v] w fun e w'=>e=.returned (.int .i64 (z1t l))∧Fr [] w w':=by
 obtain⟨A,c,rfl⟩:=h.form
 by_cases h16:16 < l.length
 ·have E:z1t l=2:=if_pos h16
  have q:(l.length:Int) > 16:=by omega
  rw[E]
  clear E h16 h
  go_enter Tryz.func25,Tryz.ntmps25
  go_wp2
  go_ret
  exact⟨rfl,Fr.refl _ _⟩
 ·have q:¬(l.length:Int) > 16:=by omega
  have HV:=hid h
  have HS:=hid hs
  have E0:=hid (show z1t l=zmy (z7a l 0) (l.drop 0) from if_neg h16)
  have hl16:l.length≤16:=by omega
  clear h hs h16
  go_enter Tryz.func25,Tryz.ntmps25
  go_wp2
  go_loopg [11] l.length (fun g i wr=>∃(k:Nat),g=l.length - k∧k≤l.length∧i=.int .i64 k∧Hid (z1t l=zmy (z7a l k) (l.drop k))∧Fr [] w wr)
  case atStart=>exact⟨0,rfl,Nat.zero_le _,rfl,E0,Fr.refl _ _⟩
  case round=>
   obtain⟨k,rfl,hk,rfl,HE,hf⟩:=hrel
   have HF:=hid hf
   clear hf
   by_cases hlt:k < l.length
   ·obtain⟨b,off,rfl,hb,hc,hmx,hat⟩:=HV.out.at_ (by omega)
    obtain⟨e,he⟩:∃e,l[k]? = some e:=⟨_,List.getElem?_eq_getElem hlt⟩
    obtain⟨A1,A2,A3,c1,c2,c3,h7⟩:=hat k e he
    have hem:=List.mem_of_getElem? he
    have P7:=hid (h7.fr HF.out hb hB (by simp))
    obtain⟨x0,x1,x2,x3,x4,x5,x6,-⟩:=P7.out
    have hes:=(HS.out e hem)
    have hek:=hes.key
    have ST:=hid (HE.out.trans (zqm he))
    have IC:=hid (fun W (hW:Fr [] wr W)=>z6r e.item _ W B hes.item (Nat.le_trans hB (Nat.le_trans HF.out.size hW.size)) ((P7.out.ent.fr hW (Nat.le_trans hB HF.out.size) (by simp)).item))
    have HAT:=hid (fun(j:Nat) (p:Ent) (hj:l[j]? = some p)=>(show wr.cell? ⟨b,off+j * 7,none⟩=some (.string p.key) from by
     obtain⟨_,_,_,_,_,_,g7⟩:=hat j p hj
     exact(g7.fr HF.out hb hB (by simp)).k0))
    have HSZ:=hid (fun(j:Nat) (p:Ent) (hj:l[j]? = some p)=>(HS.out p (List.mem_of_getElem? hj)).key)
    unfold maxLen at hmx
    clear hat h7 he hes HE
    have V1:=hid (Whole.new wr 45 [.string e.key,.int .i64 e.item.kind,.string e.item.text,.slice A1 e.item.list.length c1,.slice A2 e.item.pairs.length c2,.slice A3 e.item.scores.length c3,.int .i64 e.til])
    have F1:=hid ((Fr.refl [] wr).alloc (.cells #[.string e.key,.int .i64 e.item.kind,.string e.item.text,.slice A1 e.item.list.length c1,.slice A2 e.item.pairs.length c2,.slice A3 e.item.scores.length c3,.int .i64 e.til] 45))
    by_cases h1:60 < e.key.size
    ·have E:=hid (show z1t l=2 from by rw[ST.out,zvb h1,if_pos (by decide)])
     clear ST IC HAT HSZ
     have q1:decide (60 < e.key.size)=true:=decide_eq_true h1
     go_wp2_with fail
     refine(z2w e.key _).mono ?_
     rintro e9 w9 ⟨rfl,hw9⟩
     subst hw9
     go_wp2
     go_ret
     rw[E.out]
     exact⟨rfl,HF.out.trans F1.out⟩
    ·have q1:decide (60 < e.key.size)=false:=decide_eq_false h1
     by_cases h2:z0d e.item=0
     ·rw[h2] at IC
      by_cases h3:z3a e.til=true
      ·have EC:=hid (zvx (p:=z7a l k) h1 h2 h3)
       have q3:=h3
       clear h1 h2 h3
       go_wp2_with fail
       refine(z2w e.key _).mono ?_
       rintro e9 w9 ⟨rfl,hw9⟩
       subst hw9
       go_wp2_with fail
       refine(IC.out _ F1.out).mono ?_
       rintro e2 w2 ⟨rfl,f2⟩
       have V2:=hid (V1.out.fr f2 (by simp))
       have G2:=hid (F1.out.trans f2)
       obtain⟨y0,y1,y2,y3,y4,y5,y6⟩:=seven V2.out
       clear f2
       go_wp2_with fail
       refine(z88 e.til _).mono ?_
       rintro e3 w3 ⟨rfl,rfl⟩
       rw[q3]
       clear q3
       rcases Nat.eq_zero_or_pos k with hk0|hk0
       ·subst hk0
        have NX:Hid (z1t l=zmy (z7a l (0+1)) (l.drop (0+1))):=hid (by rw[ST.out,EC.out,if_neg (show ¬z4o (z7a l 0) e.key=true by rw[zly,zhn];decide),if_neg (by decide)])
        clear ST EC IC HAT HSZ
        go_wp2
        go_quiet (fail)
        go_wp2
        go_roundg (l.length - (0+1))
        case measure=>omega
        case rel=>exact⟨0+1,rfl,by omega,by go_num,NX,by first|exact HF.out.trans G2.out|exact(HF.out.trans G2.out).drewN _|exact((HF.out.trans G2.out).drewN _).drewN _⟩
       ·obtain⟨j,rfl⟩:∃j,k=j+1:=⟨k - 1,by omega⟩
        obtain⟨p,hp,hpk⟩:=zmj (show j < l.length by omega)
        have m1:=G2.out.cell (HAT.out j p hp) (by simp)
        have hps:=HSZ.out j p hp
        skip
        have hw1:IntKind.i64.wrap (((j+1:Nat):Int) - 1)=(j:Int):=by rw[IntKind.wrap_i64];omega
        have hw2:IntKind.i64.wrap ((j:Int)+1 - 1)=(j:Int):=by rw[IntKind.wrap_i64];omega
        have hw3:IntKind.i64.wrap (j:Int)=(j:Int):=by rw[IntKind.wrap_i64];omega
        have jx0:(0:Int)≤(j:Int):=by omega
        have jx1:(j:Int) < (l.length:Int):=by omega
        have jx2:(0:Int)≤(j:Int)+1:=by omega
        have jx3:(j:Int)+1 < (l.length:Int):=by omega
        have jx4:((j:Int)+1).toNat=j+1:=by omega
        have jx5:decide ((0:Int) < (j:Int)+1)=true:=decide_eq_true (by omega)
        rcases zlw p.key e.key with⟨ho,hlt3⟩|⟨ho,hlt3⟩|⟨ho,hlt3⟩
        ·have NX:Hid (z1t l=zmy (z7a l (j+1+1)) (l.drop (j+1+1))):=hid (by rw[ST.out,EC.out,if_neg (show ¬z4o (z7a l (j+1)) e.key=true by rw[hpk,z7n,hlt3];decide),if_neg (by decide)])
         obtain⟨z1,z2⟩:=zsx ho
         clear ST EC IC HAT HSZ hp hpk ho hlt3
         go_wp2
         go_quiet (fail)
         go_wp2
         go_roundg (l.length - (j+1+1))
         case measure=>omega
         case rel=>exact⟨j+1+1,rfl,by omega,by go_num,NX,by first|exact HF.out.trans G2.out|exact(HF.out.trans G2.out).drewN _|exact((HF.out.trans G2.out).drewN _).drewN _⟩
        ·have E:=hid (show z1t l=4 from by rw[ST.out,EC.out,if_pos (show z4o (z7a l (j+1)) e.key=true by rw[hpk,z7n,hlt3];rfl),if_pos (by decide)])
         have z1:(e.key.toList==p.key.toList)=true:=by rw[ho];exact(zts e.key).1
         clear ST EC IC HAT HSZ hp hpk ho hlt3
         go_wp2
         go_quiet (fail)
         go_wp2
         go_ret
         rw[E.out]
         exact⟨rfl,by first|exact HF.out.trans G2.out|exact(HF.out.trans G2.out).drewN _|exact((HF.out.trans G2.out).drewN _).drewN _⟩
        ·have E:=hid (show z1t l=4 from by rw[ST.out,EC.out,if_pos (show z4o (z7a l (j+1)) e.key=true by rw[hpk,z7n,hlt3];rfl),if_pos (by decide)])
         have z1:=lessT ho
         clear ST EC IC HAT HSZ hp hpk ho hlt3
         go_wp2
         go_quiet (fail)
         go_wp2
         go_ret
         rw[E.out]
         exact⟨rfl,by first|exact HF.out.trans G2.out|exact(HF.out.trans G2.out).drewN _|exact((HF.out.trans G2.out).drewN _).drewN _⟩
      ·have h3':z3a e.til=false:=by simpa using h3
       have E:=hid (show z1t l=3 from by rw[ST.out,zwb h1 h2 h3',if_pos (by decide)])
       have q3:=h3'
       clear ST HAT HSZ h1 h2 h3 h3'
       go_wp2_with fail
       refine(z2w e.key _).mono ?_
       rintro e9 w9 ⟨rfl,hw9⟩
       subst hw9
       go_wp2_with fail
       refine(IC.out _ F1.out).mono ?_
       rintro e2 w2 ⟨rfl,f2⟩
       have V2:=hid (V1.out.fr f2 (by simp))
       have G2:=hid (F1.out.trans f2)
       obtain⟨y0,y1,y2,y3,y4,y5,y6⟩:=seven V2.out
       clear f2
       go_wp2_with fail
       refine(z88 e.til _).mono ?_
       rintro e3 w3 ⟨rfl,rfl⟩
       rw[q3]
       clear q3
       go_wp2
       go_ret
       rw[E.out]
       exact⟨rfl,HF.out.trans G2.out⟩
     ·have E:=hid (show z1t l=z0d e.item from by rw[ST.out,zup h1 h2,if_pos h2])
      have q2:(z0d e.item != 0)=true:=by simpa using h2
      clear ST HAT HSZ h1 h2
      generalize z0d e.item=r at *
      go_wp2_with fail
      refine(z2w e.key _).mono ?_
      rintro e9 w9 ⟨rfl,hw9⟩
      subst hw9
      go_wp2_with fail
      refine(IC.out _ F1.out).mono ?_
      rintro e2 w2 ⟨rfl,f2⟩
      have V2:=hid (V1.out.fr f2 (by simp))
      have G2:=hid (F1.out.trans f2)
      obtain⟨y0,y1,y2,y3,y4,y5,y6⟩:=seven V2.out
      clear f2
      go_wp2
      go_ret
      rw[E.out]
      exact⟨rfl,HF.out.trans G2.out⟩
   ·obtain rfl:k=l.length:=by omega
    have E:=hid (show z1t l=0 from by rw[HE.out,List.drop_length];rfl)
    go_wp2
    go_ret
    rw[E.out]
    exact⟨rfl,HF.out⟩
theorem z3d(l:List Ent)(v:Value)(n:Int)(s:ByteArray)(w:World)(B:Nat)(hs:∀e∈l,e.Small)(hl:l.length≤281474976710656)(hz:s.size≤281474976710656)(hB:B≤w.heap.size)(h:z0v w B v l) :
  Calls prog 76 #[v,.int .i64 n,.string s] w fun e w'=>e=.returned (.int .i64 (z0p l n s))∧Fr [] w w':=by
 have CS:=hid (z5u l v w B hs hl hB h)
 have EA:=hid (show z0p l n s=if z1t l≠0 then z1t l else if z3a n=false then 3 else if 60 < s.size then 2 else 0 from rfl)
 obtain⟨A,c,rfl⟩:=h.form
 clear h hs
 by_cases h1:z1t l=0
 ·rw[h1] at CS EA
  rw[if_neg (by decide)] at EA
  by_cases h2:z3a n=true
  ·rw[if_neg (by rw[h2];decide)] at EA
   by_cases h3:60 < s.size
   ·have E:=hid (EA.out.trans (if_pos h3))
    have q2:=h2
    have q3:decide (60 < s.size)=true:=decide_eq_true h3
    rw[E.out]
    clear E EA h1 h2 h3
    go_enter Tryz.func76,Tryz.ntmps76
    go_wp2_with fail
    refine CS.out.mono ?_
    rintro e w1 ⟨rfl,f1⟩
    go_wp2_with fail
    refine(z88 n _).mono ?_
    rintro e w2 ⟨rfl,rfl⟩
    rw[q2]
    go_wp2_with fail
    refine(z2w s _).mono ?_
    rintro e w3 ⟨rfl,hw3⟩
    subst hw3
    go_wp2
    go_ret
    exact⟨rfl,f1⟩
   ·have E:=hid (EA.out.trans (if_neg h3))
    have q2:=h2
    have q3:decide (60 < s.size)=false:=decide_eq_false h3
    rw[E.out]
    clear E EA h1 h2 h3
    go_enter Tryz.func76,Tryz.ntmps76
    go_wp2_with fail
    refine CS.out.mono ?_
    rintro e w1 ⟨rfl,f1⟩
    go_wp2_with fail
    refine(z88 n _).mono ?_
    rintro e w2 ⟨rfl,rfl⟩
    rw[q2]
    go_wp2_with fail
    refine(z2w s _).mono ?_
    rintro e w3 ⟨rfl,hw3⟩
    subst hw3
    go_wp2
    go_ret
    exact⟨rfl,f1⟩
  ·have h2':z3a n=false:=by simpa using h2
   have E:=hid (EA.out.trans (if_pos h2'))
   have q2:=h2'
   rw[E.out]
   clear E EA h1 h2 h2'
   go_enter Tryz.func76,Tryz.ntmps76
   go_wp2_with fail
   refine CS.out.mono ?_
   rintro e w1 ⟨rfl,f1⟩
   go_wp2_with fail
   refine(z88 n _).mono ?_
   rintro e w2 ⟨rfl,rfl⟩
   rw[q2]
   go_wp2
   go_ret
   exact⟨rfl,f1⟩
 ·have E:=hid (EA.out.trans (if_pos h1))
  have q1:(z1t l != 0)=true:=by simpa using h1
  have q1':(z1t l==0)=false:=by simpa using h1
  rw[E.out]
  clear E EA h1
  generalize z1t l=r at *
  go_enter Tryz.func76,Tryz.ntmps76
  go_wp2_with fail
  refine CS.out.mono ?_
  rintro e w1 ⟨rfl,f1⟩
  go_wp2
  go_ret
  exact⟨rfl,f1⟩
theorem zur{x:Itm}(h:z0d x=0):x.list.length≤1000000∧x.pairs.length≤1000000∧x.scores.length≤1000000:=by
 have:=(z4h h).many
 unfold many at this
 exact⟨by omega,by omega,by omega⟩
theorem zwu{x:Itm}(h:z0o x=true):x.list.length≤1000000∧x.pairs.length≤1000000∧x.scores.length≤1000000:=by
 rw[z7r] at h
 simp at h
 have:=h.2.2
 unfold many at this
 exact⟨by omega,by omega,by omega⟩
theorem z5j(l:List Ent)(now:Int)(s:ByteArray):(z00 l now s=zwk∧z1a l now s=false)∨(z00 l now s∈l∧z1a l now s=true∧(z00 l now s).key=s∧z1r (z00 l now s).til now=false):=by
 unfold z00 z1a
 rcases h:z2c l now s with _|e
 ·exact .inl ⟨rfl,rfl⟩
 ·refine .inr ?_
  unfold z2c at h
  have h1:=List.find?_some h
  simp at h1
  exact⟨List.mem_of_find?_eq_some h,rfl,h1.1,h1.2⟩
theorem z6j:(z2r 0).Small:=z1c 0 (by decide)
theorem z0a{l:List Ent}(h:∀e∈l,e.Small)(now:Int)(s:ByteArray):(z00 l now s).Small:=by
 rcases z5j l now s with⟨h1,_⟩|⟨h1,_⟩
 ·rw[h1]
  exact⟨by show(⟨#[]⟩:ByteArray).size≤_;decide,z6j,by show -9223372036854775808≤(0:Int)∧_;decide⟩
 ·exact h _ h1
theorem zq1{l:List Ent}(h:z1m l)(now:Int)(s:ByteArray):(z00 l now s).item.list.length≤1000000∧(z00 l now s).item.pairs.length≤1000000∧(z00 l now s).item.scores.length≤1000000:=by
 rcases z5j l now s with⟨h1,_⟩|⟨h1,_⟩
 ·rw[h1];exact⟨by show(0:Nat)≤_;omega,by show(0:Nat)≤_;omega,by show(0:Nat)≤_;omega⟩
 ·exact zur (h.items _ h1)
theorem zhk{l:List Ent}(h:z1m l):∀e∈l,e.item.list.length≤1000000∧e.item.pairs.length≤1000000∧e.item.scores.length≤1000000:=fun e he=>zur (h.items e he)
def getI(l:List Ent)(now:Int)(s:ByteArray):Itm:=if z0p l now s=0 then (z00 l now s).item else z2r 0
def IEP(y:Itm)(c:Int)(w:World)(r:Ending)(w':World):Prop:=∃u,r=.returned (.tuple #[u,.int .i64 c])∧z0l w' w.heap.size u y∧Fr [] w w'
def zou(l:List Ent)(now:Int)(s:ByteArray):Int:=if z0p l now s=0 then (if z1a l now s=true then (z00 l now s).til else 0) else 0
def zo3(l:List Ent)(now:Int)(s:ByteArray):Int:=if z0p l now s=0 then (if z1a l now s=true then 0 else 5) else z0p l now s
theorem zbd(l:List Ent)(v:Value)(now:Int)(s:ByteArray)(w:World)(B:Nat)(hs:∀e∈l,e.Small)(hl:l.length≤281474976710656)(hz:s.size≤281474976710656)(hB:B≤w.heap.size)(h:z0v w B v l) :
  Calls prog 70 #[v,.int .i64 now,.string s] w (IEP (getI l now s) (z0p l now s) w):=by
 obtain⟨A,c,rfl⟩:=h.form
 have F0:=hid ((Fr.refl [] w).alloc (.cells #[.int .i64 0,.string ⟨#[]⟩,.slice none 0 0,.slice none 0 0,.slice none 0 0] 43))
 have W0:=hid (Whole.new w 43 [.int .i64 0,.string ⟨#[]⟩,.slice none 0 0,.slice none 0 0,.slice none 0 0])
 have RD:=hid (fun W (hW:Fr [] w W)=>z3d l _ now s W B hs hl hz (Nat.le_trans hB hW.size) (h.fr hW hB (by simp)))
 have HV:=hid h
 have HS:=hid (z0a hs now s)
 have EG:=hid (show getI l now s=if z0p l now s=0 then (z00 l now s).item else z2r 0 from rfl)
 clear h hs
 by_cases ha:z0p l now s=0
 ·have ok:=zta (zwj ha).1
  have LK:=hid (fun W (hW:Fr [] w W)=>z95 l _ now s W B ok.rise hl (Nat.le_trans hB hW.size) (HV.out.fr hW hB (by simp)))
  have HN:=hid (zq1 ok now s)
  rw[ha] at RD EG ⊢
  rw[EG.out,if_pos rfl]
  clear ha EG ok
  generalize z00 l now s=y at *
  generalize z1a l now s=bb at *
  go_enter Tryz.func70,Tryz.ntmps70
  go_wp2_with fail
  refine(RD.out _ F0.out).mono ?_
  rintro e1 w1 ⟨rfl,f1⟩
  have F1:=hid (F0.out.trans f1)
  have W1:=hid (W0.out.fr f1 (by simp))
  clear f1
  go_wp2_with fail
  refine(LK.out _ F1.out).mono ?_
  rintro e2 w2 ⟨cs,rfl,hc,f2⟩
  have F2:=hid (F1.out.trans f2)
  have W2:=hid (W1.out.fr f2 (by simp))
  have HC:=hid hc
  obtain⟨A1,c1,A2,c2,A3,c3,hcs,-⟩:=hc
  obtain rfl:cs=(z7d y A1 c1 A2 c2 A3 c3).toArray:=by rw[←hcs]
  clear f2 hcs
  have V3:=hid (Whole.new w2 45 [.string y.key,.int .i64 y.item.kind,.string y.item.text,.slice A1 y.item.list.length c1,.slice A2 y.item.pairs.length c2,.slice A3 y.item.scores.length c3,.int .i64 y.til])
  have F3:=hid ((Fr.refl [] w2).alloc (.cells #[.string y.key,.int .i64 y.item.kind,.string y.item.text,.slice A1 y.item.list.length c1,.slice A2 y.item.pairs.length c2,.slice A3 y.item.scores.length c3,.int .i64 y.til] 45))
  have OW:=hid (z8j y.item _ _ B HS.out.item HN.out.1 HN.out.2.1 HN.out.2.2 (Nat.le_trans hB (Nat.le_trans F2.out.size F3.out.size)) ((show zdr w2 B (z7d y A1 c1 A2 c2 A3 c3) y from HC.out).fr F3.out (Nat.le_trans hB F2.out.size) (by simp)).item)
  unfold z7d
  go_wp2_with fail
  refine OW.out.mono ?_
  rintro e4 w4 ⟨u,rfl,hi4,f4⟩
  have F4:=hid ((F2.out.trans F3.out).trans f4)
  have W4:=hid ((W2.out.alloc (.cells #[.string y.key,.int .i64 y.item.kind,.string y.item.text,.slice A1 y.item.list.length c1,.slice A2 y.item.pairs.length c2,.slice A3 y.item.scores.length c3,.int .i64 y.til] 45)).fr f4 (by simp))
  have HI:=hid hi4
  obtain⟨P1,p1,P2,p2,P3,p3,rfl⟩:=hi4.form
  have hzw:=W2.out.lt
  clear hi4 f4
  obtain⟨a0,a1,a2,a3,a4⟩:=five W4.out
  obtain⟨b0,b1,b2,b3,b4⟩:=z10 W4.out
  go_wp2
  refine bodyPost_ret (v:=.tuple #[.agg #[.int .i64 y.item.kind,.string y.item.text,.slice P1 y.item.list.length p1,.slice P2 y.item.pairs.length p2,.slice P3 y.item.scores.length p3],.int .i64 0]) (by simp[results,Tryz.results70,go_sem,a0,a1,a2,a3,a4]) rfl ?_
  exact⟨_,rfl,(z1q HI.out (by simp;omega) _ _ _ _ _).less (by simp;omega),z49 F4.out (Nat.le_refl _) _ _ _ _ _⟩
 ·have q1:(z0p l now s != 0)=true:=by simpa using ha
  rw[EG.out,if_neg ha]
  clear ha EG
  generalize z0p l now s=r at *
  go_enter Tryz.func70,Tryz.ntmps70
  go_wp2_with fail
  refine(RD.out _ F0.out).mono ?_
  rintro e1 w1 ⟨rfl,f1⟩
  have F1:=hid (F0.out.trans f1)
  have W1:=hid (W0.out.fr f1 (by simp))
  clear f1
  obtain⟨a0,a1,a2,a3,a4⟩:=five W1.out
  obtain⟨b0,b1,b2,b3,b4⟩:=z10 W1.out
  go_wp2
  refine bodyPost_ret (v:=.tuple #[.agg #[.int .i64 0,.string ⟨#[]⟩,.slice none 0 0,.slice none 0 0,.slice none 0 0],.int .i64 r]) (by simp[results,Tryz.results70,go_sem,a0,a1,a2,a3,a4]) rfl ?_
  exact⟨_,rfl,z0l.nothing _ _,z49 F1.out (Nat.le_refl _) _ _ _ _ _⟩
theorem zdm(l:List Ent)(v:Value)(now:Int)(s:ByteArray)(w:World)(B:Nat)(hs:∀e∈l,e.Small)(hl:l.length≤281474976710656)(hz:s.size≤281474976710656)(hB:B≤w.heap.size)(h:z0v w B v l) :
  Calls prog 73 #[v,.int .i64 now,.string s] w fun e w'=>e=.returned (.tuple #[.int .i64 (zou l now s),.int .i64 (zo3 l now s)])∧Fr [] w w':=by
 obtain⟨A,c,rfl⟩:=h.form
 have RD:=hid (z3d l _ now s w B hs hl hz hB h)
 have HV:=hid h
 have EN:=hid (show zou l now s=if z0p l now s=0 then (if z1a l now s=true then (z00 l now s).til else 0) else 0 from rfl)
 have EC:=hid (show zo3 l now s=if z0p l now s=0 then (if z1a l now s=true then 0 else 5) else z0p l now s from rfl)
 clear h hs
 by_cases ha:z0p l now s=0
 ·have ok:=zta (zwj ha).1
  have LK:=hid (fun W (hW:Fr [] w W)=>z95 l _ now s W B ok.rise hl (Nat.le_trans hB hW.size) (HV.out.fr hW hB (by simp)))
  rw[ha] at RD EN EC
  rw[if_pos rfl] at EN EC
  rw[EN.out,EC.out]
  clear ha EN EC ok
  generalize z00 l now s=y at *
  rcases hb:z1a l now s with _|_
  all_goals
   rw[hb] at LK
   clear hb
   go_enter Tryz.func73,Tryz.ntmps73
   go_wp2_with fail
   refine RD.out.mono ?_
   rintro e1 w1 ⟨rfl,f1⟩
   go_wp2_with fail
   refine(LK.out _ f1).mono ?_
   rintro e2 w2 ⟨cs,rfl,hc,f2⟩
   obtain⟨A1,c1,A2,c2,A3,c3,hcs,-⟩:=hc
   obtain rfl:cs=(z7d y A1 c1 A2 c2 A3 c3).toArray:=by rw[←hcs]
   clear hcs
   unfold z7d
   go_wp2
   go_ret2
   exact⟨rfl,(f1.trans f2).alloc _⟩
 ·have q1:(z0p l now s != 0)=true:=by simpa using ha
  rw[EN.out,EC.out,if_neg ha,if_neg ha]
  clear ha EN EC
  generalize z0p l now s=r at *
  go_enter Tryz.func73,Tryz.ntmps73
  go_wp2_with fail
  refine RD.out.mono ?_
  rintro e1 w1 ⟨rfl,f1⟩
  go_wp2
  go_ret2
  exact⟨rfl,f1⟩
def SNC(l:List Ent)(n c:Int)(w:World)(r:Ending)(w':World):Prop:=∃u,r=.returned (.tuple #[u,.int .i64 n,.int .i64 c])∧z1w w' w.heap.size u l∧Fr [] w w'
def swL(l:List Ent)(now:Int):List Ent:=if z0p l now ⟨#[]⟩=0 then z17 l now else []
def swN(l:List Ent)(now:Int):Int:=if z0p l now ⟨#[]⟩=0 then (l.length:Int) - (z17 l now).length else 0
theorem z4f(l:List Ent)(v:Value)(now:Int)(w:World)(B:Nat)(hs:∀e∈l,e.Small)(hl:l.length≤281474976710656)(hB:B≤w.heap.size)(h:z0v w B v l) :
  Calls prog 23 #[v,.int .i64 now] w (SNC (swL l now) (swN l now) (z0p l now ⟨#[]⟩) w):=by
 obtain⟨A,c,rfl⟩:=h.form
 have RD:=hid (z3d l _ now ⟨#[]⟩ w B hs hl (by decide) hB h)
 have HV:=hid h
 have HS:=hid hs
 have EL:=hid (show swL l now=if z0p l now ⟨#[]⟩=0 then z17 l now else [] from rfl)
 have EN:=hid (show swN l now=if z0p l now ⟨#[]⟩=0 then (l.length:Int) - (z17 l now).length else 0 from rfl)
 clear h hs
 by_cases ha:z0p l now ⟨#[]⟩=0
 ·have ok:=zta (zwj ha).1
  have OW:=hid (fun W (hW:Fr [] w W)=>z2z l _ W B HS.out (zhk ok) (by have:=ok.le;omega) (Nat.le_trans hB hW.size) (HV.out.fr hW hB (by simp)))
  have hl16:=ok.le
  have hsw:(z17 l now).length≤l.length:=List.length_filter_le _ _
  rw[ha] at RD EL EN ⊢
  rw[EL.out,EN.out,if_pos rfl,if_pos rfl]
  have HW:=hid (show IntKind.i64.wrap ((l.length:Int) - ((z17 l now).length:Int))=(l.length:Int) - ((z17 l now).length:Int) from IntWalk.i64_in _ (by omega))
  have SW:=hid (fun W u base (h:z1w W base u l)=>zhv l u now base W (by omega) h)
  clear ha EL EN ok
  generalize z17 l now=l2 at *
  go_enter Tryz.func23,Tryz.ntmps23
  go_wp2_with fail
  refine RD.out.mono ?_
  rintro e1 w1 ⟨rfl,f1⟩
  have F1:=hid f1
  clear f1
  go_wp2_with fail
  refine(OW.out _ F1.out).mono ?_
  rintro e2 w2 ⟨u2,rfl,ho2,f2⟩
  have F2:=hid (F1.out.trans f2)
  have HO2:=hid ho2
  obtain⟨A2,c2,rfl⟩:=ho2.form
  clear ho2 f2
  go_wp2_with fail
  refine(SW.out _ _ _ HO2.out).mono ?_
  rintro e3 w3 ⟨u3,rfl,ho3,f3⟩
  obtain⟨A3,c3,rfl⟩:=ho3.form
  have HO3:=hid ho3
  have F3:=hid (F2.out.step f3 (fun k hk=>.inr (by
   obtain⟨rs,_,_,hr⟩:=HO2.out
   have:=z1j hr hk
   have:=F1.out.size
   omega)))
  clear ho3 f3
  go_wp2
  refine bodyPost_ret (v:=.tuple #[.slice A3 l2.length c3,.int .i64 ((l.length:Int) - (l2.length:Int)),.int .i64 0]) (by simp[results,Tryz.results23,go_sem]) rfl ?_
  exact⟨_,rfl,HO3.out.base F1.out.size,F3.out⟩
 ·have q1:(z0p l now ⟨#[]⟩ != 0)=true:=by simpa using ha
  rw[EL.out,EN.out,if_neg ha,if_neg ha]
  clear ha EL EN
  generalize z0p l now ⟨#[]⟩=r at *
  go_enter Tryz.func23,Tryz.ntmps23
  go_wp2_with fail
  refine RD.out.mono ?_
  rintro e1 w1 ⟨rfl,f1⟩
  go_wp2
  refine bodyPost_ret (v:=.tuple #[.slice none 0 0,.int .i64 0,.int .i64 r]) (by simp[results,Tryz.results23,go_sem]) rfl ?_
  exact⟨_,rfl,z1w.nil _ _,f1⟩
end Go.Proofs.YtamgdmiopinidaaGreatDoor
