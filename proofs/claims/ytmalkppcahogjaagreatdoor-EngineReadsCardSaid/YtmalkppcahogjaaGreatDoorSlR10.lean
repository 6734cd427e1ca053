/- Contracts; no condition but each theorem's own. -/
import Derived.Test.YtmalkppcahogjaaGreatDoorSlR9
import Derived.Deep.Cut
set_option linter.unusedVariables false
set_option linter.unusedSimpArgs false
set_option maxHeartbeats 8000000
set_option maxRecDepth 100000
namespace Go.Proofs.YtmalkppcahogjaaGreatDoor
open Lib (hid)
open Go.Proofs.Tryz (prog)
open Go.RowKit
theorem ztg{x:Rp1}(h:(decide ((1:Int)≤x.kind)&&decide (x.kind≤5))=false):z1d x=7:=by
 unfold z1d;rw[if_pos (fun hn=>by rw[decide_eq_true hn.1,decide_eq_true hn.2] at h;cases h)]
theorem zvs{x:Rp1}(h:(decide ((1:Int)≤x.kind)&&decide (x.kind≤5))=true)(hb:zeh x=false):z1d x=1:=by
 rw[Bool.and_eq_true,decide_eq_true_eq,decide_eq_true_eq] at h;unfold z1d;rw[if_neg (fun hn=>hn h),if_pos];unfold zeh zz8 zz7 at hb;rw[Bool.and_eq_false_iff,Bool.and_eq_false_iff,decide_eq_false_iff_not,decide_eq_false_iff_not,decide_eq_false_iff_not] at hb;omega
theorem zv6{x:Rp1}(h:(decide ((1:Int)≤x.kind)&&decide (x.kind≤5))=true)(hb:zeh x=true):z1d x=(if x.kind=1 then (if 20 < x.text.size then 2 else if x.text.size=0 then 1 else if zif x.text=true then 0 else 1)
 else if x.kind=2 then (if 1≤x.n∧x.n≤8 then 0 else 3)
 else if x.kind=3 then (if z0i x.n=true then 0 else 3)
 else if x.kind=4 then (if 60 < x.text.size then 2 else 0)
 else 0):=by
 rw[Bool.and_eq_true,decide_eq_true_eq,decide_eq_true_eq] at h;unfold zeh zz8 zz7 at hb;rw[Bool.and_eq_true,Bool.and_eq_true,decide_eq_true_eq,decide_eq_true_eq,decide_eq_true_eq] at hb
 conv=>lhs;unfold z1d
 rw[if_neg (fun hn=>hn h),if_neg (by omega)]
theorem zml(x:Rp1)(A:Option Addr)(c:Nat)(w:World)(hs:x.sub≤281474976710656)(ht:x.text.size≤281474976710656):Calls prog 116 #[.agg #[.int .i64 x.kind,.string x.text,.int .i64 x.n,.slice A x.sub c]] w fun e w'=>e=.returned (.int .i64 (z1d x))∧Fr [] w w':=by
 have F1:=hid ((Fr.refl [] w).alloc (.cells #[.int .i64 x.kind,.string x.text,.int .i64 x.n,.slice A x.sub c] 27));have V1:=hid (Whole.new w 27 [.int .i64 x.kind,.string x.text,.int .i64 x.n,.slice A x.sub c]);have RB:=hid (fun W=>ziz x A c W hs);have K7:=hid (@ztg x);have K1:=hid (@zvs x);have KR:=hid (@zv6 x);obtain⟨bb,hbb⟩:∃b,b=zeh x:=⟨_,rfl⟩;rw[←hbb] at RB K1 KR;clear hbb;obtain⟨k,t,n,m⟩:=x;simp only at *;obtain⟨R,hR⟩:∃R,R=z1d ⟨k,t,n,m⟩:=⟨_,rfl⟩;rw[←hR] at K7 K1 KR ⊢;clear hR;by_cases hin:(decide ((1:Int)≤k)&&decide (k≤5))=false
 ·have WI:=hid (fun W=>z64 hin W);have EC:=hid (K7.out hin);clear K7 K1 KR RB;go_enter Tryz.func116,Tryz.ntmps116;go_wp2_with fail;refine(WI.out _).mono ?_;rintro e w1 ⟨rfl,hw1⟩;subst hw1;go_wp2;go_ret;exact⟨by rw[EC.out];rfl,F1.out⟩
 have hin':(decide ((1:Int)≤k)&&decide (k≤5))=true:=by simpa using hin
 have WI:=hid (fun W=>z64 hin' W);cases bb
 ·have EC:=hid (K1.out hin' rfl);clear K7 K1 KR;go_enter Tryz.func116,Tryz.ntmps116;go_wp2_with fail;refine(WI.out _).mono ?_;rintro e w1 ⟨rfl,hw1⟩;subst hw1;go_wp2_with fail;refine(RB.out _).mono ?_;rintro e w1 ⟨rfl,f1⟩;go_wp2;go_ret;exact⟨by rw[EC.out];rfl,F1.out.trans f1⟩
 have hd:k=1∨k=2∨k=3∨k=4∨k=5:=by
  rw[Bool.and_eq_true,decide_eq_true_eq,decide_eq_true_eq] at hin';omega
 have EK:=KR.out hin' rfl;clear K7 K1 KR hin hin';rcases hd with rfl|rfl|rfl|rfl|rfl
 ·rw[if_pos rfl] at EK;by_cases h20:20 < t.size
  ·rw[if_pos h20] at EK;have EC:=hid EK;clear EK;go_enter Tryz.func116,Tryz.ntmps116;go_wp2_with fail;refine(WI.out _).mono ?_;rintro e w1 ⟨rfl,hw1⟩;subst hw1;go_wp2_with fail;refine(RB.out _).mono ?_;rintro e w1 ⟨rfl,f1⟩;have f2:=hid (F1.out.trans f1);obtain⟨c0,c1,c2,c3⟩:=four (V1.out.fr f1 (by simp));clear f1;go_wp2;go_ret;exact⟨by rw[EC.out];rfl,f2.out⟩
  rw[if_neg h20] at EK;cases hw:(zif t&&decide (t.size≠0))
  ·have EC:=hid (show R=1 from by
    rw[EK];rw[Bool.and_eq_false_iff,decide_eq_false_iff_not,Decidable.not_not] at hw;rcases hw with hw|hw
    ·rw[hw];simp
    ·rw[if_pos hw])
   have RW:=hid (fun W=>zib t W ht);rw[hw] at RW;clear EK hw;go_enter Tryz.func116,Tryz.ntmps116;go_wp2_with fail;refine(WI.out _).mono ?_;rintro e w1 ⟨rfl,hw1⟩;subst hw1;go_wp2_with fail;refine(RB.out _).mono ?_;rintro e w1 ⟨rfl,f1⟩;have f2:=hid (F1.out.trans f1);obtain⟨c0,c1,c2,c3⟩:=four (V1.out.fr f1 (by simp));clear f1;go_wp2_with fail;refine(RW.out _).mono ?_;rintro e w2 ⟨rfl,hw2⟩;subst hw2;go_wp2;go_ret;exact⟨by rw[EC.out];rfl,f2.out⟩
  ·have EC:=hid (show R=0 from by
    rw[EK];rw[Bool.and_eq_true,decide_eq_true_eq] at hw;rw[if_neg hw.2,if_pos hw.1])
   have RW:=hid (fun W=>zib t W ht);rw[hw] at RW;clear EK hw;go_enter Tryz.func116,Tryz.ntmps116;go_wp2_with fail;refine(WI.out _).mono ?_;rintro e w1 ⟨rfl,hw1⟩;subst hw1;go_wp2_with fail;refine(RB.out _).mono ?_;rintro e w1 ⟨rfl,f1⟩;have f2:=hid (F1.out.trans f1);obtain⟨c0,c1,c2,c3⟩:=four (V1.out.fr f1 (by simp));clear f1;go_wp2_with fail;refine(RW.out _).mono ?_;rintro e w2 ⟨rfl,hw2⟩;subst hw2;go_wp2;go_ret;exact⟨by rw[EC.out];rfl,f2.out⟩
 ·rw[if_neg (show ¬(2:Int)=1 by decide),if_pos rfl] at EK;cases hw:(decide ((1:Int)≤n)&&decide (n≤8))
  ·have EC:=hid (show R=3 from by rw[EK];exact if_neg (fun hn=>by rw[decide_eq_true hn.1,decide_eq_true hn.2] at hw;cases hw));have RW:=hid (fun W=>z64 hw W);clear EK hw;go_enter Tryz.func116,Tryz.ntmps116;go_wp2_with fail;refine(WI.out _).mono ?_;rintro e w1 ⟨rfl,hw1⟩;subst hw1;go_wp2_with fail;refine(RB.out _).mono ?_;rintro e w1 ⟨rfl,f1⟩;have f2:=hid (F1.out.trans f1);obtain⟨c0,c1,c2,c3⟩:=four (V1.out.fr f1 (by simp));clear f1;go_wp2_with fail;refine(RW.out _).mono ?_;rintro e w2 ⟨rfl,hw2⟩;subst hw2;go_wp2;go_ret;exact⟨by rw[EC.out];rfl,f2.out⟩
  ·have EC:=hid (show R=0 from by rw[EK];rw[Bool.and_eq_true,decide_eq_true_eq,decide_eq_true_eq] at hw;exact if_pos hw);have RW:=hid (fun W=>z64 hw W);clear EK hw;go_enter Tryz.func116,Tryz.ntmps116;go_wp2_with fail;refine(WI.out _).mono ?_;rintro e w1 ⟨rfl,hw1⟩;subst hw1;go_wp2_with fail;refine(RB.out _).mono ?_;rintro e w1 ⟨rfl,f1⟩;have f2:=hid (F1.out.trans f1);obtain⟨c0,c1,c2,c3⟩:=four (V1.out.fr f1 (by simp));clear f1;go_wp2_with fail;refine(RW.out _).mono ?_;rintro e w2 ⟨rfl,hw2⟩;subst hw2;go_wp2;go_ret;exact⟨by rw[EC.out];rfl,f2.out⟩
 ·rw[if_neg (show ¬(3:Int)=1 by decide),if_neg (show ¬(3:Int)=2 by decide),if_pos rfl] at EK;cases hw:(decide ((-999999999:Int)≤n)&&decide (n≤999999999))
  ·have EC:=hid (show R=3 from by rw[EK];exact if_neg (fun hn=>by unfold z0i at hn;rw[hw] at hn;cases hn));have RW:=hid (fun W=>z64 hw W);clear EK hw;go_enter Tryz.func116,Tryz.ntmps116;go_wp2_with fail;refine(WI.out _).mono ?_;rintro e w1 ⟨rfl,hw1⟩;subst hw1;go_wp2_with fail;refine(RB.out _).mono ?_;rintro e w1 ⟨rfl,f1⟩;have f2:=hid (F1.out.trans f1);obtain⟨c0,c1,c2,c3⟩:=four (V1.out.fr f1 (by simp));clear f1;go_wp2_with fail;refine(RW.out _).mono ?_;rintro e w2 ⟨rfl,hw2⟩;subst hw2;go_wp2;go_ret;exact⟨by rw[EC.out];rfl,f2.out⟩
  ·have EC:=hid (show R=0 from by rw[EK];exact if_pos hw);have RW:=hid (fun W=>z64 hw W);clear EK hw;go_enter Tryz.func116,Tryz.ntmps116;go_wp2_with fail;refine(WI.out _).mono ?_;rintro e w1 ⟨rfl,hw1⟩;subst hw1;go_wp2_with fail;refine(RB.out _).mono ?_;rintro e w1 ⟨rfl,f1⟩;have f2:=hid (F1.out.trans f1);obtain⟨c0,c1,c2,c3⟩:=four (V1.out.fr f1 (by simp));clear f1;go_wp2_with fail;refine(RW.out _).mono ?_;rintro e w2 ⟨rfl,hw2⟩;subst hw2;go_wp2;go_ret;exact⟨by rw[EC.out];rfl,f2.out⟩
 ·rw[if_neg (show ¬(4:Int)=1 by decide),if_neg (show ¬(4:Int)=2 by decide),if_neg (show ¬(4:Int)=3 by decide),if_pos rfl] at EK;by_cases h60:60 < t.size
  ·rw[if_pos h60] at EK;have EC:=hid EK;clear EK;go_enter Tryz.func116,Tryz.ntmps116;go_wp2_with fail;refine(WI.out _).mono ?_;rintro e w1 ⟨rfl,hw1⟩;subst hw1;go_wp2_with fail;refine(RB.out _).mono ?_;rintro e w1 ⟨rfl,f1⟩;have f2:=hid (F1.out.trans f1);obtain⟨c0,c1,c2,c3⟩:=four (V1.out.fr f1 (by simp));clear f1;go_wp2;go_ret;exact⟨by rw[EC.out];rfl,f2.out⟩
  ·rw[if_neg h60] at EK;have EC:=hid EK;clear EK;go_enter Tryz.func116,Tryz.ntmps116;go_wp2_with fail;refine(WI.out _).mono ?_;rintro e w1 ⟨rfl,hw1⟩;subst hw1;go_wp2_with fail;refine(RB.out _).mono ?_;rintro e w1 ⟨rfl,f1⟩;have f2:=hid (F1.out.trans f1);obtain⟨c0,c1,c2,c3⟩:=four (V1.out.fr f1 (by simp));clear f1;go_wp2;go_ret;exact⟨by rw[EC.out];rfl,f2.out⟩
 ·have EC:=hid EK;clear EK;go_enter Tryz.func116,Tryz.ntmps116;go_wp2_with fail;refine(WI.out _).mono ?_;rintro e w1 ⟨rfl,hw1⟩;subst hw1;go_wp2_with fail;refine(RB.out _).mono ?_;rintro e w1 ⟨rfl,f1⟩;have f2:=hid (F1.out.trans f1);obtain⟨c0,c1,c2,c3⟩:=four (V1.out.fr f1 (by simp));clear f1;go_wp2;go_ret;exact⟨by rw[EC.out];rfl,f2.out⟩
theorem bare6(t:ByteArray)(n:Int)(m:Nat):zeh ⟨6,t,n,m⟩=(decide (t.size=0)&&decide (n=0)):=by
 unfold zeh zz8 zz7;simp
theorem zqa{t:ByteArray}{n:Int}{l:List Rp1}(h:(decide (t.size=0)&&decide (n=0))=false):z0d ⟨6,t,n,l⟩=1:=by
 rw[Bool.and_eq_false_iff,decide_eq_false_iff_not,decide_eq_false_iff_not] at h;unfold z0d;rw[if_neg (fun hn=>hn rfl),if_pos h]
theorem zpx{t:ByteArray}{n:Int}{l:List Rp1}(h:(decide (t.size=0)&&decide (n=0))=true):z0d ⟨6,t,n,l⟩=if 300 < l.length then 2 else z3s l:=by
 rw[Bool.and_eq_true,decide_eq_true_eq,decide_eq_true_eq] at h;unfold z0d;rw[if_neg (fun hn=>hn rfl),if_neg (fun hn=>hn.elim (fun hx=>hx h.1) (fun hx=>hx h.2))]
theorem z8b(r:Rep)(v:Value)(w:World)(B:Nat)(hs:r.Small)(hl:r.list.length≤281474976710656)(hB:B≤w.heap.size)(h:zam w B v r):
  Calls prog 37 #[v] w fun e w'=>e=.returned (.int .i64 (z0d r))∧Fr [] w w':=by
 obtain⟨A,c,rfl⟩:=h.form;have F1:=hid ((Fr.refl [] w).alloc (.cells #[.int .i64 r.kind,.string r.text,.int .i64 r.n,.slice A r.list.length c] 27));have V1:=hid (Whole.new w 27 [.int .i64 r.kind,.string r.text,.int .i64 r.n,.slice A r.list.length c]);have RO:=hid (show ∀W,Calls prog 116 #[.agg #[.int .i64 r.kind,.string r.text,.int .i64 r.n,.slice A r.list.length c]] W fun e w'=>e=.returned (.int .i64 (z1d r.one))∧Fr [] W w' from fun W=>zml r.one A c W hl hs.one.text);have RB:=hid (show ∀W,Calls prog 117 #[.agg #[.int .i64 r.kind,.string r.text,.int .i64 r.n,.slice A r.list.length c]] W fun e w'=>e=.returned (.bool (zeh r.one))∧Fr [] W w' from fun W=>ziz r.one A c W hl);by_cases hk:r.kind=6
 ·have HV:=hid h;have HS:=hid hs.list;obtain⟨k,t,n,l⟩:=r;have hk:k=6:=hk;subst hk;have RB:Hid (∀W,Calls prog 117 #[.agg #[.int .i64 6,.string t,.int .i64 n,.slice A l.length c]] W fun e w'=>e=.returned (.bool (decide (t.size=0)&&decide (n=0)))∧Fr [] W w'):=hid (fun W=>by rw[←bare6 t n l.length];exact RB.out W);have EF:=hid (@zqa t n l);have ER:=hid (@zpx t n l);obtain⟨R,hR⟩:∃R,R=z0d ⟨6,t,n,l⟩:=⟨_,rfl⟩;rw[←hR] at EF ER ⊢;clear hR h hs RO;simp only at F1 V1 HV HS hl;generalize (decide (t.size=0)&&decide (n=0))=bb at *;cases bb
  ·have EC:=hid (EF.out rfl);clear EF ER;go_enter Tryz.func37,Tryz.ntmps37;go_wp2_with fail;refine(RB.out _).mono ?_;rintro e w1 ⟨rfl,f1⟩;go_wp2;go_ret;exact⟨by rw[EC.out];rfl,F1.out.trans f1⟩
  ·have EC:=hid (ER.out rfl);clear EF ER;by_cases h300:300 < l.length
   ·have E2:=hid (EC.out.trans (if_pos h300));have q:(l.length:Int) > 300:=by omega
    clear EC h300;go_enter Tryz.func37,Tryz.ntmps37;go_wp2_with fail;refine(RB.out _).mono ?_;rintro e w1 ⟨rfl,f1⟩;have f2:=hid (F1.out.trans f1);obtain⟨c0,c1,c2,c3⟩:=four (V1.out.fr f1 (by simp));clear f1;go_wp2;go_ret;exact⟨by rw[E2.out];rfl,f2.out⟩
   ·have E0:=hid (show R=z3s (l.drop 0) from EC.out.trans (if_neg h300));have q:¬(l.length:Int) > 300:=by omega
    have hl3:l.length≤300:=by omega
    clear EC h300;go_enter Tryz.func37,Tryz.ntmps37;go_wp2_with fail;refine(RB.out _).mono ?_;rintro e w1 ⟨rfl,f1⟩;have f2:=hid (F1.out.trans f1);obtain⟨c0,c1,c2,c3⟩:=four (V1.out.fr f1 (by simp));clear f1;go_wp2;go_loopg [23] l.length (fun g i wr=>∃(k:Nat),g=l.length - k∧k≤l.length∧i=.int .i64 k∧Hid (R=z3s (l.drop k))∧Fr [] w wr)
    case atStart=>exact⟨0,rfl,Nat.zero_le _,rfl,E0,f2.out⟩
    case round=>
     obtain⟨k,rfl,hk,rfl,HE,hf⟩:=hrel;have HF:=hid hf;clear hf c0 c1 c2 c3;by_cases hlt:k < l.length
     ·obtain⟨b,off,rfl,hb,hc,hmx,hat⟩:=zam.at_ (r:=⟨6,t,n,l⟩) HV.out (show 0 < l.length by omega);obtain⟨x,hx⟩:∃x,l[k]? = some x:=⟨_,List.getElem?_eq_getElem hlt⟩;obtain⟨A1,n1,h4⟩:=hat k x hx;have hxs:=HS.out x (List.mem_of_getElem? hx);have P4:=hid (h4.fr HF.out (by simp));obtain⟨x0,x1,x2,x3⟩:=P4.out;have ST:=hid (HE.out.trans (zgl hx));have RX:=hid (fun W=>zml x A1 n1 W hxs.sub hxs.text);have hc:l.length≤c:=hc;unfold maxLen at hmx;clear hat h4 hx hxs HE;have F2:=hid ((Fr.refl [] wr).alloc (.cells #[.int .i64 x.kind,.string x.text,.int .i64 x.n,.slice A1 x.sub n1] 27));by_cases h0:z1d x=0
      ·rw[h0] at RX;have NX:=hid (ST.out.trans (if_neg (fun hn=>hn h0)));clear ST h0;go_wp2_with fail;refine(RX.out _).mono ?_;rintro e w2 ⟨rfl,g2⟩;have G2:=hid (F2.out.trans g2);clear g2;go_wp2;go_roundg (l.length - (k+1))
       case measure=>omega
       case rel=>exact⟨k+1,rfl,by omega,by go_num,NX,HF.out.trans G2.out⟩
      ·have NX:=hid (ST.out.trans (if_pos h0));have q0:(z1d x != 0)=true:=by simpa using h0
       clear ST h0;generalize z1d x=y at *;go_wp2_with fail;refine(RX.out _).mono ?_;rintro e w2 ⟨rfl,g2⟩;have G2:=hid (F2.out.trans g2);clear g2;go_wp2;go_ret;exact⟨by rw[NX.out];rfl,HF.out.trans G2.out⟩
     ·obtain rfl:k=l.length:=by omega
      have NX:=hid (show R=0 from by rw[HE.out,List.drop_of_length_le (by simp)];rfl);clear HE;go_wp2;go_ret;exact⟨by rw[NX.out];rfl,HF.out⟩
 ·have q6:(r.kind != 6)=true:=by simpa using hk
  have EC:=hid (show z0d r=z1d r.one from if_pos hk);have RO':Hid (∀W,Calls prog 116 #[.agg #[.int .i64 r.kind,.string r.text,.int .i64 r.n,.slice A r.list.length c]] W fun e w'=>e=.returned (.int .i64 (z0d r))∧Fr [] W w'):=hid (fun W=>by rw[EC.out];exact RO.out W);obtain⟨R,hR⟩:∃R,R=z0d r:=⟨_,rfl⟩;rw[←hR] at RO' ⊢;obtain⟨m,hm⟩:∃m,m=r.list.length:=⟨_,rfl⟩;rw[←hm] at F1 V1 RO' hl ⊢;clear hR hk h hs RO RB EC hm;go_enter Tryz.func37,Tryz.ntmps37;go_wp2_with fail;refine(RO'.out _).mono ?_;rintro e w1 ⟨rfl,f1⟩;go_wp2;go_ret;exact⟨rfl,F1.out.trans f1⟩
def zz9(s:ByteArray)(w:World)(e:Ending)(w':World):Prop:=
 ∃v,e=.returned (.tuple #[v,.int .i64 (zvq s.data.toList)])∧z19 w' w.heap.size v (ztk s.data.toList)∧Fr [] w w'
theorem zm4{l:List UInt8}(h:z62 l=none):zvq l=1∧ztk l=zpi:=by
 unfold zvq ztk;rw[h];exact⟨rfl,rfl⟩
theorem zyd{l:List UInt8}{r:Rep}(h:z62 l=some r)(hc:z0d r≠0):zvq l=z0d r∧ztk l=zpi:=by
 unfold zvq ztk;rw[h];exact⟨rfl,if_neg hc⟩
theorem zvn{l:List UInt8}{r:Rep}(h:z62 l=some r)(hc:z0d r=0):zvq l=0∧ztk l=r:=by
 unfold zvq ztk;rw[h];exact⟨hc,if_pos hc⟩
theorem zjv(s:ByteArray)(w:World)(hs:s.size < 4294967281)(hv:Vars w)(hm:Mx w):
  Calls prog 113 #[.string s] w (zz9 s w):=by
 have A1:=((Fr.refl [] w).alloc (.cells #[.int .i64 0,.string ⟨#[]⟩,.int .i64 0,.slice none 0 0] 27)).alloc (.cells #[.string s,.bool false] 199);have hsz:(w.alloc (.cells #[.int .i64 0,.string ⟨#[]⟩,.int .i64 0,.slice none 0 0] 27)).heap.size=w.heap.size+1:=by simp
 have R0:Rr (w.heap.size+1) s false ((w.alloc (.cells #[.int .i64 0,.string ⟨#[]⟩,.int .i64 0,.slice none 0 0] 27)).alloc (.cells #[.string s,.bool false] 199)):=by
  have:=Whole.new (w.alloc (.cells #[.int .i64 0,.string ⟨#[]⟩,.int .i64 0,.slice none 0 0] 27)) 199 [.string s,.bool false];rw[hsz] at this;exact this
 have V0:=hid (show Whole ((w.alloc (.cells #[.int .i64 0,.string ⟨#[]⟩,.int .i64 0,.slice none 0 0] 27)).alloc (.cells #[.string s,.bool false] 199)) w.heap.size 27 zat from Whole.alloc (Whole.new w _ _) _);have C0:=hid (show Ctx w (w.heap.size+1) ((w.alloc (.cells #[.int .i64 0,.string ⟨#[]⟩,.int .i64 0,.slice none 0 0] 27)).alloc (.cells #[.string s,.bool false] 199)) from⟨hv,hm,Nat.le_succ _,A1⟩);have RP:=hid (ztq w _ s _ hs R0 C0.out);have hne:w.heap.size≠w.heap.size+1:=by omega
 have hs2:((w.alloc (.cells #[.int .i64 0,.string ⟨#[]⟩,.int .i64 0,.slice none 0 0] 27)).alloc (.cells #[.string s,.bool false] 199)).heap.size=w.heap.size+2:=by simp
 clear A1 R0 hv hm hsz;go_enter Tryz.func113,Tryz.ntmps113;go_wp2_with fail;refine RP.out.mono ?_;rintro e w1 (⟨rp,v,r,rfl,hd,ho,r1,f1⟩|⟨r,k,t,n,A,m,c,rfl,hd,r1,f1⟩)
 ·obtain⟨A,c,rfl⟩:=ho.form;have HO:=hid ho;have R1:=hid r1;have V1:=hid (V0.out.fr f1 (by simp));have F1:=hid (C0.out.go f1).f;have hl1:=V1.out.lt;have hl2:=R1.out.lt;have HD:=hid hd;have SM:=hid (znj (by simpa using (show s.size≤281474976710656 by omega)) hd);clear r1 f1 hd RP V0 ho;obtain⟨⟨c0,c1⟩,z0,z1⟩:=R1.out.two;obtain⟨a0,a1,a2,a3⟩:=four V1.out;obtain⟨b0,b1,b2,b3⟩:=z0h V1.out;by_cases hr:r=[]
  ·have q:=(zet (toB r)).1;rw[decide_eq_true (by rw[z2q,hr];rfl)] at q;have HW:=hid (show z62 s.data.toList=some rp from by unfold z62;rw[HD.out,hr]);have V2:=hid (Whole.new w1 27 [.int .i64 rp.kind,.string rp.text,.int .i64 rp.n,.slice A rp.list.length c]);have CK:=hid (z8b rp _ (w1.alloc (.cells #[.int .i64 rp.kind,.string rp.text,.int .i64 rp.n,.slice A rp.list.length c] 27)) w1.heap.size SM.out.1 SM.out.2 ((Fr.refl [] w1).alloc (.cells #[.int .i64 rp.kind,.string rp.text,.int .i64 rp.n,.slice A rp.list.length c] 27)).size (HO.out.v.fr ((Fr.refl [] w1).alloc (.cells #[.int .i64 rp.kind,.string rp.text,.int .i64 rp.n,.slice A rp.list.length c] 27)) (Nat.le_refl _) (by simp)));have G1:=hid ((Fr.refl [] w1).alloc (.cells #[.int .i64 rp.kind,.string rp.text,.int .i64 rp.n,.slice A rp.list.length c] 27));have V3:=hid (V1.out.alloc (.cells #[.int .i64 rp.kind,.string rp.text,.int .i64 rp.n,.slice A rp.list.length c] 27));clear hr;by_cases h0:z0d rp=0
   ·have HA:=hid (zvn HW.out h0);rw[h0] at CK;clear h0 HD;generalize toB r=tr at *;go_wp2_with fail;refine CK.out.mono ?_;rintro e w2 ⟨rfl,f2⟩;have G2:=hid (G1.out.trans f2);have V4:=hid (V3.out.fr f2 (by simp));have V5:=hid (V2.out.fr f2 (by simp));have hl3:=V4.out.lt;have hl4:=V5.out.lt;clear f2 CK a0 a1 a2 a3 b0 b1 b2 b3 c0 c1 z0 z1;obtain⟨a0,a1,a2,a3⟩:=four V4.out;obtain⟨b0,b1,b2,b3⟩:=z0h V4.out;obtain⟨x0,x1,x2,x3⟩:=four V5.out;have hx1:¬w1.heap.size=w.heap.size:=by omega
    have hx2:¬w.heap.size=w1.heap.size:=by omega
    go_wp2;obtain⟨y0,y1,y2,y3⟩:=four (show Whole ((((w2.setCell ⟨w.heap.size,0,none⟩ (.int .i64 rp.kind)).setCell ⟨w.heap.size,1,none⟩ (.string rp.text)).setCell ⟨w.heap.size,2,none⟩ (.int .i64 rp.n)).setCell ⟨w.heap.size,3,none⟩ (.slice A rp.list.length c)) w.heap.size 27 [.int .i64 rp.kind,.string rp.text,.int .i64 rp.n,.slice A rp.list.length c] from Whole.set_ (Whole.set_ (Whole.set_ (Whole.set_ V4.out 0 _) 1 _) 2 _) 3 _);refine bodyPost_ret (v:=.tuple #[.agg #[.int .i64 rp.kind,.string rp.text,.int .i64 rp.n,.slice A rp.list.length c],.int .i64 0]) (by simp[results,Tryz.results113,go_sem,y0,y1,y2,y3]) rfl ?_;unfold zz9;rw[HA.out.1,HA.out.2];exact⟨_,rfl,((HO.out.fr G2.out).set4 (by omega) _ _ _ _).base (by omega),z0g (F1.out.trans G2.out) (Nat.le_refl _) _ _ _ _⟩
   ·have HA:=hid (zyd HW.out h0);have q0:(z0d rp != 0)=true:=by simpa using h0
    clear h0 HD;generalize z0d rp=code at *;generalize toB r=tr at *;go_wp2_with fail;refine CK.out.mono ?_;rintro e w2 ⟨rfl,f2⟩;have G2:=hid (G1.out.trans f2);have V4:=hid (V3.out.fr f2 (by simp));have hl3:=V4.out.lt;clear f2 CK a0 a1 a2 a3 b0 b1 b2 b3 c0 c1 z0 z1;obtain⟨a0,a1,a2,a3⟩:=four V4.out;obtain⟨b0,b1,b2,b3⟩:=z0h V4.out;go_wp2;obtain⟨y0,y1,y2,y3⟩:=four (show Whole ((((w2.setCell ⟨w.heap.size,0,none⟩ (.int .i64 0)).setCell ⟨w.heap.size,1,none⟩ (.string ⟨#[]⟩)).setCell ⟨w.heap.size,2,none⟩ (.int .i64 0)).setCell ⟨w.heap.size,3,none⟩ (.slice none 0 0)) w.heap.size 27 [.int .i64 0,.string ⟨#[]⟩,.int .i64 0,.slice none 0 0] from Whole.set_ (Whole.set_ (Whole.set_ (Whole.set_ V4.out 0 _) 1 _) 2 _) 3 _);refine bodyPost_ret (v:=.tuple #[.agg #[.int .i64 0,.string ⟨#[]⟩,.int .i64 0,.slice none 0 0],.int .i64 code]) (by simp[results,Tryz.results113,go_sem,y0,y1,y2,y3]) rfl ?_;unfold zz9;rw[HA.out.1,HA.out.2];exact⟨_,rfl,z19.bare _ _ _ _ _,z0g (F1.out.trans G2.out) (Nat.le_refl _) _ _ _ _⟩
  ·have q:=(zet (toB r)).1;rw[decide_eq_false (by rw[z2q];exact fun h=>hr (List.eq_nil_of_length_eq_zero h))] at q
   have HA:=hid (zm4 (show z62 s.data.toList=none from by
    unfold z62;rw[HD.out];cases r with
    | nil=>exact absurd rfl hr
    | cons x r=>rfl))
   clear hr HD;generalize toB r=tr at *;go_wp2;obtain⟨y0,y1,y2,y3⟩:=four (show Whole (((((w1.setCell ⟨w.heap.size,0,none⟩ (.int .i64 0)).setCell ⟨w.heap.size,1,none⟩ (.string ⟨#[]⟩)).setCell ⟨w.heap.size,2,none⟩ (.int .i64 0)).setCell ⟨w.heap.size,3,none⟩ (.slice none 0 0)).alloc (.cells #[.int .i64 rp.kind,.string rp.text,.int .i64 rp.n,.slice A rp.list.length c] 27)) w.heap.size 27 [.int .i64 0,.string ⟨#[]⟩,.int .i64 0,.slice none 0 0] from Whole.alloc (Whole.set_ (Whole.set_ (Whole.set_ (Whole.set_ V1.out 0 _) 1 _) 2 _) 3 _) _);refine bodyPost_ret (v:=.tuple #[.agg #[.int .i64 0,.string ⟨#[]⟩,.int .i64 0,.slice none 0 0],.int .i64 1]) (by simp[results,Tryz.results113,go_sem,y0,y1,y2,y3]) rfl ?_;unfold zz9;rw[HA.out.1,HA.out.2];exact⟨_,rfl,z19.bare _ _ _ _ _,(z0g F1.out (Nat.le_refl _) _ _ _ _).alloc _⟩
 ·have R1:=hid r1;have V1:=hid (V0.out.fr f1 (by simp));have F1:=hid (C0.out.go f1).f;have HA:=hid (zm4 (show z62 s.data.toList=none from by unfold z62;rw[hd]));have hl1:=V1.out.lt;have hl2:=R1.out.lt;clear r1 f1 hd RP V0;obtain⟨⟨c0,c1⟩,z0,z1⟩:=R1.out.two;obtain⟨a0,a1,a2,a3⟩:=four V1.out;obtain⟨b0,b1,b2,b3⟩:=z0h V1.out;go_wp2;obtain⟨y0,y1,y2,y3⟩:=four (show Whole (((((w1.setCell ⟨w.heap.size,0,none⟩ (.int .i64 0)).setCell ⟨w.heap.size,1,none⟩ (.string ⟨#[]⟩)).setCell ⟨w.heap.size,2,none⟩ (.int .i64 0)).setCell ⟨w.heap.size,3,none⟩ (.slice none 0 0)).alloc (.cells #[.int .i64 k,.string t,.int .i64 n,.slice A m c] 27)) w.heap.size 27 [.int .i64 0,.string ⟨#[]⟩,.int .i64 0,.slice none 0 0] from Whole.alloc (Whole.set_ (Whole.set_ (Whole.set_ (Whole.set_ V1.out 0 _) 1 _) 2 _) 3 _) _);refine bodyPost_ret (v:=.tuple #[.agg #[.int .i64 0,.string ⟨#[]⟩,.int .i64 0,.slice none 0 0],.int .i64 1]) (by simp[results,Tryz.results113,go_sem,y0,y1,y2,y3]) rfl ?_;unfold zz9;rw[HA.out.1,HA.out.2];exact⟨_,rfl,z19.bare _ _ _ _ _,(z0g F1.out (Nat.le_refl _) _ _ _ _).alloc _⟩
attribute [local go_sem] z1k
attribute [local go_sem] z1k
theorem z60(w:World)(o:Obj)(t:TypeId)(cs:List Value):Whole ((w.alloc o).alloc (.cells cs.toArray t)) (w.heap.size+1) t cs:=by
 have:=Whole.new (w.alloc o) t cs;rwa[show(w.alloc o).heap.size=w.heap.size+1 from by simp] at this
theorem zrl(k n:Int)(t:ByteArray)(A A':Option Addr)(c c':Nat)(w:World):
  Calls prog 17 #[.agg #[.int .i64 k,.string t,.int .i64 n,.slice A 0 c],.agg #[.int .i64 k,.string t,.int .i64 n,.slice A' 0 c']] w fun e w'=>e=.returned (.bool true)∧Fr [] w w':=by
 have F1:=hid (((Fr.refl [] w).alloc (.cells #[.int .i64 k,.string t,.int .i64 n,.slice A 0 c] 27)).alloc (.cells #[.int .i64 k,.string t,.int .i64 n,.slice A' 0 c'] 27));go_enter Tryz.func17,Tryz.ntmps17;go_wp2;go_loopg [5] 0 (fun x i wr=>x=0∧i=.int .i64 0∧wr=(w.alloc (.cells #[.int .i64 k,.string t,.int .i64 n,.slice A 0 c] 27)).alloc (.cells #[.int .i64 k,.string t,.int .i64 n,.slice A' 0 c'] 27))
 case atStart=>exact⟨rfl,rfl,rfl⟩
 case round=>
  obtain⟨rfl,rfl,rfl⟩:=hrel;go_wp2;go_ret;exact⟨rfl,F1.out⟩
theorem zuq(r:Rep)(v u:Value)(w:World)(B:Nat)(hl:r.list.length≤281474976710656)(h0:∀x∈r.list,x.sub=0)(hB:B≤w.heap.size)(h:zam w B v r)(k:zam w B u r):
  Calls prog 17 #[v,u] w fun e w'=>e=.returned (.bool true)∧Fr [] w w':=by
 obtain⟨A,c,rfl⟩:=h.form;obtain⟨A',c',rfl⟩:=k.form;have F1:=hid (((Fr.refl [] w).alloc (.cells #[.int .i64 r.kind,.string r.text,.int .i64 r.n,.slice A r.list.length c] 27)).alloc (.cells #[.int .i64 r.kind,.string r.text,.int .i64 r.n,.slice A' r.list.length c'] 27));have V1:=hid (show Whole ((w.alloc (.cells #[.int .i64 r.kind,.string r.text,.int .i64 r.n,.slice A r.list.length c] 27)).alloc (.cells #[.int .i64 r.kind,.string r.text,.int .i64 r.n,.slice A' r.list.length c'] 27)) w.heap.size 27 [.int .i64 r.kind,.string r.text,.int .i64 r.n,.slice A r.list.length c] from Whole.alloc (Whole.new w _ _) _);have V2:=hid (z60 w (.cells #[.int .i64 r.kind,.string r.text,.int .i64 r.n,.slice A r.list.length c] 27) 27 [.int .i64 r.kind,.string r.text,.int .i64 r.n,.slice A' r.list.length c']);have HV:=hid h;have KV:=hid k;have H0:=hid h0;clear h k h0;go_enter Tryz.func17,Tryz.ntmps17;go_wp2;go_loopg [5] r.list.length (fun x i wr=>∃(k:Nat),x=r.list.length - k∧k≤r.list.length∧i=.int .i64 k∧Fr [] ((w.alloc (.cells #[.int .i64 r.kind,.string r.text,.int .i64 r.n,.slice A r.list.length c] 27)).alloc (.cells #[.int .i64 r.kind,.string r.text,.int .i64 r.n,.slice A' r.list.length c'] 27)) wr)
 case atStart=>exact⟨0,rfl,Nat.zero_le _,rfl,Fr.refl _ _⟩
 case round=>
  obtain⟨k,rfl,hk,rfl,hf⟩:=hrel;have HF:=hid hf;have V3:=hid (V1.out.fr hf (by simp));have V4:=hid (V2.out.fr hf (by simp));clear hf;obtain⟨c0,c1,c2,c3⟩:=four V3.out;obtain⟨d0,d1,d2,d3⟩:=four V4.out;by_cases hlt:k < r.list.length
  ·obtain⟨b,off,rfl,hb,hc,hmx,hat⟩:=HV.out.at_ (by omega);obtain⟨b2,off2,rfl,hb2,hc2,hmx2,hat2⟩:=KV.out.at_ (by omega);obtain⟨e,he⟩:∃e,r.list[k]? = some e:=⟨_,List.getElem?_eq_getElem hlt⟩;obtain⟨A1,c1',h4⟩:=hat k e he;obtain⟨A2,c2',k4⟩:=hat2 k e he;have P4:=hid (h4.fr (F1.out.trans HF.out) (by simp));have Q4:=hid (k4.fr (F1.out.trans HF.out) (by simp));have hes:e.sub=0:=H0.out e (List.mem_of_getElem? he);clear hat hat2 h4 k4 he;obtain⟨ek,et,en,es⟩:=e;have hes:es=0:=hes;subst hes;have SI:=hid (zrl ek en et A1 A2 c1' c2' wr.drew);obtain⟨x0,x1,x2,x3⟩:=P4.out;obtain⟨y0,y1,y2,y3⟩:=Q4.out;go_wp2;go_region_held3 (fun wx=>wx.cell? ⟨b,off+k * 4,none⟩=some (.int .i64 ek)∧wx.cell? ⟨b,off+k * 4+1,none⟩=some (.string et)∧wx.cell? ⟨b,off+k * 4+2,none⟩=some (.int .i64 en)∧wx.cell? ⟨b,off+k * 4+3,none⟩=some (.slice A1 0 c1')∧wx.cell? ⟨b2,off2+k * 4,none⟩=some (.int .i64 ek)∧wx.cell? ⟨b2,off2+k * 4+1,none⟩=some (.string et)∧wx.cell? ⟨b2,off2+k * 4+2,none⟩=some (.int .i64 en)∧wx.cell? ⟨b2,off2+k * 4+3,none⟩=some (.slice A2 0 c2')∧wx.cell? ⟨w.heap.size,3,none⟩=some (.slice (some ⟨b,off,none⟩) r.list.length c)∧wx.cell? ⟨w.heap.size+1,3,none⟩=some (.slice (some ⟨b2,off2,none⟩) r.list.length c')) (go_keep) ((go_at_call 17;refine SI.out.mono ?_;rintro e9 w2 ⟨rfl,f2⟩;have G2:=hid (z01 f2);have P42:=hid (P4.out.fr G2.out (by simp));have Q42:=hid (Q4.out.fr G2.out (by simp));have V32:=hid (V3.out.fr G2.out (by simp));have V42:=hid (V4.out.fr G2.out (by simp));clear f2 x0 x1 x2 x3 y0 y1 y2 y3 c0 c1 c2 c3 d0 d1 d2 d3;obtain⟨x0,x1,x2,x3⟩:=P42.out;obtain⟨y0,y1,y2,y3⟩:=Q42.out;obtain⟨c0,c1,c2,c3⟩:=four V32.out;obtain⟨d0,d1,d2,d3⟩:=four V42.out));go_wp2;go_roundg (r.list.length - (k+1))
   case measure=>omega
   case rel=>exact⟨k+1,rfl,by omega,by go_num,HF.out.trans G2.out⟩
  ·obtain rfl:k=r.list.length:=by omega
   go_wp2;go_ret;exact⟨rfl,F1.out.trans HF.out⟩
def zip(k:Int)(t:ByteArray)(n:Int)(w:World)(e:Ending)(w':World):Prop:=e=.returned (.agg #[.int .i64 k,.string t,.int .i64 n,.slice none 0 0])∧Fr [] w w'
theorem z2b{a b:World}{o:Obj}(h:Fr [] (a.alloc o) b):Fr [] a b:=((Fr.refl [] a).alloc o).trans h
def orR(r:Rep)(c:Int)(b:Bool):Rep:=if c=0 then r else if c=5∧b=true then zgg else z7n c
def orV(v:Value)(c:Int)(b:Bool):Value:=if c=0 then v else if c=5∧b=true then .agg #[.int .i64 5,.string ⟨#[]⟩,.int .i64 0,.slice none 0 0] else .agg #[.int .i64 2,.string ⟨#[]⟩,.int .i64 c,.slice none 0 0]
theorem z8o{w:World}{base:Nat}{v:Value}{r:Rep}(h:z19 w base v r)(c:Int)(b:Bool):z19 w base (orV v c b) (orR r c b):=by
 unfold orV orR;split
 ·exact h
 ·split
  ·exact z19.bare _ _ _ _ _
  ·exact z19.bare _ _ _ _ _
theorem q0x{w:World}{g t:Nat}{a b c d:Value}(h:Whole w g t [a,b,c,d])(x y z u:Value):Whole (set4 w g x y z u) g t [x,y,z,u]:=Whole.set_ (Whole.set_ (Whole.set_ (Whole.set_ h 0 _) 1 _) 2 _) 3 _
theorem z0m(n:Int)(w:World):Calls prog 237 #[.int .i64 n] w (zip 3 ⟨#[]⟩ n w):=by
 obtain⟨y0,y1,y2,y3⟩:=four (show Whole (w.alloc (.cells #[.int .i64 3,.string ⟨#[]⟩,.int .i64 n,.slice none 0 0] 27)) w.heap.size 27 [.int .i64 3,.string ⟨#[]⟩,.int .i64 n,.slice none 0 0] from Whole.new w _ _);go_enter Tryz.func237,Tryz.ntmps237;go_wp2;refine bodyPost_ret (v:=.agg #[.int .i64 3,.string ⟨#[]⟩,.int .i64 n,.slice none 0 0]) (by simp[results,Tryz.results237,go_sem,y0,y1,y2,y3]) rfl ⟨rfl,(Fr.refl [] w).alloc _⟩
theorem zc6(t:ByteArray)(w:World):Calls prog 181 #[.string t] w (zip 1 t 0 w):=by
 obtain⟨y0,y1,y2,y3⟩:=four (show Whole (w.alloc (.cells #[.int .i64 1,.string t,.int .i64 0,.slice none 0 0] 27)) w.heap.size 27 [.int .i64 1,.string t,.int .i64 0,.slice none 0 0] from Whole.new w _ _);go_enter Tryz.func181,Tryz.ntmps181;go_wp2;refine bodyPost_ret (v:=.agg #[.int .i64 1,.string t,.int .i64 0,.slice none 0 0]) (by simp[results,Tryz.results181,go_sem,y0,y1,y2,y3]) rfl ⟨rfl,(Fr.refl [] w).alloc _⟩
theorem z7s(t:ByteArray)(w:World):Calls prog 232 #[.string t] w (zip 4 t 0 w):=by
 obtain⟨y0,y1,y2,y3⟩:=four (show Whole (w.alloc (.cells #[.int .i64 4,.string t,.int .i64 0,.slice none 0 0] 27)) w.heap.size 27 [.int .i64 4,.string t,.int .i64 0,.slice none 0 0] from Whole.new w _ _);go_enter Tryz.func232,Tryz.ntmps232;go_wp2;refine bodyPost_ret (v:=.agg #[.int .i64 4,.string t,.int .i64 0,.slice none 0 0]) (by simp[results,Tryz.results232,go_sem,y0,y1,y2,y3]) rfl ⟨rfl,(Fr.refl [] w).alloc _⟩
theorem zax(n:Int)(w:World):Calls prog 119 #[.int .i64 n] w (zip 2 ⟨#[]⟩ n w):=by
 obtain⟨y0,y1,y2,y3⟩:=four (show Whole (w.alloc (.cells #[.int .i64 2,.string ⟨#[]⟩,.int .i64 n,.slice none 0 0] 27)) w.heap.size 27 [.int .i64 2,.string ⟨#[]⟩,.int .i64 n,.slice none 0 0] from Whole.new w _ _);go_enter Tryz.func119,Tryz.ntmps119;go_wp2;refine bodyPost_ret (v:=.agg #[.int .i64 2,.string ⟨#[]⟩,.int .i64 n,.slice none 0 0]) (by simp[results,Tryz.results119,go_sem,y0,y1,y2,y3]) rfl ⟨rfl,(Fr.refl [] w).alloc _⟩
theorem z4p(r:Rep)(v:Value)(c:Int)(b:Bool)(base:Nat)(w:World)(h:z19 w base v r):Calls prog 231 #[v,.int .i64 c,.bool b] w fun e w'=>e=.returned (orV v c b)∧Fr [] w w':=by
 obtain⟨A,k,rfl⟩:=h.form;have E:=hid (show orV (.agg #[.int .i64 r.kind,.string r.text,.int .i64 r.n,.slice A r.list.length k]) c b=if c=0 then (.agg #[.int .i64 r.kind,.string r.text,.int .i64 r.n,.slice A r.list.length k]) else if c=5∧b=true then .agg #[.int .i64 5,.string ⟨#[]⟩,.int .i64 0,.slice none 0 0] else .agg #[.int .i64 2,.string ⟨#[]⟩,.int .i64 c,.slice none 0 0] from rfl);have FA:=hid (fun o=>(((Fr.refl [] w).alloc (.cells #[.int .i64 r.kind,.string r.text,.int .i64 r.n,.slice A r.list.length k] 27)).alloc o));clear h;by_cases h0:c=0
 ·subst h0;rw[E.out,if_pos rfl];obtain⟨y0,y1,y2,y3⟩:=four (z60 w (.cells #[.int .i64 r.kind,.string r.text,.int .i64 r.n,.slice A r.list.length k] 27) 27 [.int .i64 r.kind,.string r.text,.int .i64 r.n,.slice A r.list.length k]);go_enter Tryz.func231,Tryz.ntmps231;go_wp2;refine bodyPost_ret (v:=.agg #[.int .i64 r.kind,.string r.text,.int .i64 r.n,.slice A r.list.length k]) (by simp[results,Tryz.results231,go_sem,y0,y1,y2,y3]) rfl ?_;exact⟨rfl,FA.out _⟩
 ·have q0:(c==0)=false:=by simpa using h0
  by_cases h5:c=5∧b=true
  ·obtain⟨rfl,rfl⟩:=h5;rw[E.out,if_neg (by decide),if_pos ⟨rfl,rfl⟩];clear h0 q0;obtain⟨y0,y1,y2,y3⟩:=four (z60 w (.cells #[.int .i64 r.kind,.string r.text,.int .i64 r.n,.slice A r.list.length k] 27) 27 [.int .i64 5,.string ⟨#[]⟩,.int .i64 0,.slice none 0 0]);go_enter Tryz.func231,Tryz.ntmps231;go_wp2;refine bodyPost_ret (v:=.agg #[.int .i64 5,.string ⟨#[]⟩,.int .i64 0,.slice none 0 0]) (by simp[results,Tryz.results231,go_sem,y0,y1,y2,y3]) rfl ?_;exact⟨rfl,FA.out _⟩
  ·rw[E.out,if_neg h0,if_neg h5];have V0:=hid (z60 w (.cells #[.int .i64 r.kind,.string r.text,.int .i64 r.n,.slice A r.list.length k] 27) 27 [.int .i64 0,.string ⟨#[]⟩,.int .i64 0,.slice none 0 0]);have F0:=hid (FA.out (.cells #[.int .i64 0,.string ⟨#[]⟩,.int .i64 0,.slice none 0 0] 27));have FL:=hid (fun W=>zax c W)
   have q5:((c==5)&&b)=false:=by
    rcases b with _|_
    ·simp
    ·simp only[Bool.and_true];have:¬c=5:=fun h=>h5 ⟨h,rfl⟩;simpa using this
   clear h5 h0 E;have HQ:=hid q5;clear q5;rcases hb:(c==5) with _|_
   ·skip;go_enter Tryz.func231,Tryz.ntmps231;go_wp2_with fail;refine(FL.out _).mono ?_;rintro e1 w1 ⟨rfl,f1⟩;have F1:=hid (F0.out.trans f1);have V1:=hid (V0.out.f0 f1);clear f1;obtain⟨a0,a1,a2,a3⟩:=four V1.out;obtain⟨b0,b1,b2,b3⟩:=z0h V1.out;go_wp2;refine bodyPost_ret (v:=.agg #[.int .i64 2,.string ⟨#[]⟩,.int .i64 c,.slice none 0 0]) (by simp[results,Tryz.results231,go_sem,a0,a1,a2,a3]) rfl ?_;exact⟨rfl,z0g F1.out (by simp) _ _ _ _⟩
   ·obtain rfl:b=false:=by
     have:=HQ.out;rw[hb] at this;simpa using this
    go_enter Tryz.func231,Tryz.ntmps231;go_wp2_with fail;refine(FL.out _).mono ?_;rintro e1 w1 ⟨rfl,f1⟩;have F1:=hid (F0.out.trans f1);have V1:=hid (V0.out.f0 f1);clear f1;obtain⟨a0,a1,a2,a3⟩:=four V1.out;obtain⟨b0,b1,b2,b3⟩:=z0h V1.out;go_wp2;refine bodyPost_ret (v:=.agg #[.int .i64 2,.string ⟨#[]⟩,.int .i64 c,.slice none 0 0]) (by simp[results,Tryz.results231,go_sem,a0,a1,a2,a3]) rfl ?_;exact⟨rfl,z0g F1.out (by simp) _ _ _ _⟩
theorem z1s.atO{w:World}{base:Nat}{A:Option Addr}{c:Nat}{l:List Ent}(h:z1s w base (.slice A l.length c) l)(hn:0 < l.length):
  ∃b off,A=some ⟨b,off,none⟩∧b < w.heap.size∧l.length≤c∧c≤maxLen∧∀(i:Nat) (e:Ent),l[i]? = some e→∃A1 A2 A3 c1 c2 c3,At7 w w.heap.size b (off+i * 7) e A1 A2 A3 c1 c2 c3∧z2o w base (z8f e A1 c1 A2 c2 A3 c3) e:=by
 obtain⟨rs,hl,hi,hs⟩:=h;obtain⟨b,off,rfl,hb,hc,hm,hcell⟩:=(z0s hs).at_ hn;refine⟨b,off,rfl,hb,hc,hm,fun i e he=>?_⟩;obtain⟨cs,hcs,hE⟩:=hi i e he;have all7:=zi1 hl (fun cs e h=>z2o.len h) hi;have hC:=hE.c;obtain⟨A1,c1,A2,c2,A3,c3,rfl,s1,s2,s3⟩:=hE
 have g:∀j u,j < 7→(z8f e A1 c1 A2 c2 A3 c3)[j]? = some u→w.cell? ⟨b,off+(i * 7+j),none⟩=some u:=fun j u hj hu=>
  hcell _ _ (by rw[z4m 7 rs i j _ all7 hcs hj];exact hu)
 exact⟨A1,A2,A3,c1,c2,c3,⟨g 0 _ (by decide) rfl,by rw[Nat.add_assoc];exact g 1 _ (by decide) rfl,by rw[Nat.add_assoc];exact g 2 _ (by decide) rfl,by rw[Nat.add_assoc];exact g 3 _ (by decide) rfl,by rw[Nat.add_assoc];exact g 4 _ (by decide) rfl,by rw[Nat.add_assoc];exact g 5 _ (by decide) rfl,by rw[Nat.add_assoc];exact g 6 _ (by decide) rfl,hC⟩,⟨A1,c1,A2,c2,A3,c3,rfl,s1,s2,s3⟩⟩
def zg4(e:Ent)(b:Bool)(base:Nat)(w:World)(r:Ending)(w':World):Prop:=
 ∃A1 c1 A2 c2 A3 c3,r=.returned (.tuple #[.agg #[.string e.key,.int .i64 e.item.kind,.string e.item.text,.slice A1 e.item.list.length c1,.slice A2 e.item.pairs.length c2,.slice A3 e.item.scores.length c3,.int .i64 e.til],.bool b])∧z2o w' base (z8f e A1 c1 A2 c2 A3 c3) e∧Fr [] w w'
theorem zwj(w:World)(base:Nat):z2o w base (z8f q07 none 0 none 0 none 0) q07:=⟨none,0,none,0,none,0,rfl,World.ownsRow_nil _ _ _ _,World.ownsRow_nil _ _ _ _,World.ownsRow_nil _ _ _ _⟩
theorem z1g(l:List Ent)(v:Value)(now:Int)(s:ByteArray)(w:World)(B0:Nat)(hr:rises (ltK Ent.key) l=true)(hl:l.length≤281474976710656)(ho:z1s w B0 v l):
  Calls prog 162 #[v,.int .i64 now,.string s] w (zg4 (z00 l now s) (z18 l now s) B0 w):=by
 obtain⟨B,hB,h⟩:∃B,B≤w.heap.size∧z1l w B v l:=⟨_,Nat.le_refl _,ho.v⟩;obtain⟨A,c,rfl⟩:=h.form;have F0:=hid ((Fr.refl [] w).alloc (.cells #[.string ⟨#[]⟩,.int .i64 0,.string ⟨#[]⟩,.slice none 0 0,.slice none 0 0,.slice none 0 0,.int .i64 0] 81));have W0:=hid (Whole.new w 81 [.string ⟨#[]⟩,.int .i64 0,.string ⟨#[]⟩,.slice none 0 0,.slice none 0 0,.slice none 0 0,.int .i64 0]);have FD:=hid (fun W (hW:Fr [] w W)=>z9s l s A c B W hr hl (Nat.le_trans hB hW.size) (h.fr hW hB (by simp)));have HV:=hid ho;have HR:=hid hr;unfold z4c at FD;clear h hr ho;by_cases hh:z5y Ent.key l s=true
 ·obtain⟨e,he,hk⟩:=(z32 Ent.key).1 hh;subst hk;have hlt:=(List.getElem?_eq_some_iff.1 he).1;obtain⟨b,off,rfl,hb,hc,hmx,hat⟩:=HV.out.atO (by omega);obtain⟨A1,A2,A3,c1,c2,c3,h7,o7⟩:=hat _ e he;have H7:=hid h7;have O7:=hid o7;have EL:=hid (zlx HR.out he now);have GO:=hid (fun W=>zce e.til now W);rw[hh] at FD;clear hat h7 o7 he hh;generalize z1x Ent.key l e.key=k at *;have ix0:(0:Int)≤(k:Int):=by omega
  have ix1:(k:Int) < (l.length:Int):=by omega
  unfold maxLen at hmx;by_cases hg:z4o e.til now=true
  ·have E1:=hid (show zbx l now e.key=none from EL.out.trans (if_pos hg));rw[hg] at GO;clear EL hg;go_enter Tryz.func162,Tryz.ntmps162;go_wp2_with fail;refine(FD.out _ F0.out).mono ?_;rintro e1 w1 ⟨rfl,f1⟩;have F1:=hid (F0.out.trans f1);have W1:=hid (W0.out.f0 f1);have P7:=hid (H7.out.fr F1.out hb (Nat.le_refl _) (by simp));obtain⟨x0,x1,x2,x3,x4,x5,x6,-⟩:=P7.out;clear f1;go_wp2_with fail;refine(GO.out _).mono ?_;rintro e2 w2 ⟨rfl,rfl⟩;obtain⟨a0,a1,a2,a3,a4,a5,a6⟩:=seven W1.out;obtain⟨b0,b1,b2,b3,b4,b5,b6⟩:=z3u W1.out;go_wp2;refine bodyPost_ret (v:=.tuple #[.agg #[.string ⟨#[]⟩,.int .i64 0,.string ⟨#[]⟩,.slice none 0 0,.slice none 0 0,.slice none 0 0,.int .i64 0],.bool false]) (by simp[results,Tryz.results162,go_sem,a0,a1,a2,a3,a4,a5,a6]) rfl ?_;unfold z00 z18 zg4;rw[E1.out];exact⟨none,0,none,0,none,0,rfl,zwj _ _,z5o F1.out (Nat.le_refl _) _ _ _ _ _ _ _⟩
  ·have hg':z4o e.til now=false:=by simpa using hg
   have E1:=hid (show zbx l now e.key=some e from EL.out.trans (if_neg hg));rw[hg'] at GO;clear EL hg hg';go_enter Tryz.func162,Tryz.ntmps162;go_wp2_with fail;refine(FD.out _ F0.out).mono ?_;rintro e1 w1 ⟨rfl,f1⟩;have F1:=hid (F0.out.trans f1);have W1:=hid (W0.out.f0 f1);have P7:=hid (H7.out.fr F1.out hb (Nat.le_refl _) (by simp));obtain⟨x0,x1,x2,x3,x4,x5,x6,-⟩:=P7.out;clear f1;go_wp2_with fail;refine(GO.out _).mono ?_;rintro e2 w2 ⟨rfl,rfl⟩;obtain⟨a0,a1,a2,a3,a4,a5,a6⟩:=seven W1.out;obtain⟨b0,b1,b2,b3,b4,b5,b6⟩:=z3u W1.out;go_wp2;refine bodyPost_ret (v:=.tuple #[.agg (z8f e A1 c1 A2 c2 A3 c3).toArray,.bool true]) (by simp[results,Tryz.results162,go_sem,z8f,a0,a1,a2,a3,a4,a5,a6]) rfl ?_;unfold z00 z18 zg4;rw[E1.out];exact⟨A1,c1,A2,c2,A3,c3,rfl,O7.out.fr (z5o F1.out (Nat.le_refl _) _ _ _ _ _ _ _),z5o F1.out (Nat.le_refl _) _ _ _ _ _ _ _⟩
 ·have hh':z5y Ent.key l s=false:=by simpa using hh
  have E1:=hid (zsa HR.out hh' now);rw[hh'] at FD;clear hh hh';generalize z1x Ent.key l s=k at *;go_enter Tryz.func162,Tryz.ntmps162;go_wp2_with fail;refine(FD.out _ F0.out).mono ?_;rintro e1 w1 ⟨rfl,f1⟩;have F1:=hid (F0.out.trans f1);have W1:=hid (W0.out.f0 f1);clear f1;obtain⟨a0,a1,a2,a3,a4,a5,a6⟩:=seven W1.out;obtain⟨b0,b1,b2,b3,b4,b5,b6⟩:=z3u W1.out;go_wp2;refine bodyPost_ret (v:=.tuple #[.agg #[.string ⟨#[]⟩,.int .i64 0,.string ⟨#[]⟩,.slice none 0 0,.slice none 0 0,.slice none 0 0,.int .i64 0],.bool false]) (by simp[results,Tryz.results162,go_sem,a0,a1,a2,a3,a4,a5,a6]) rfl ?_;unfold z00 z18 zg4;rw[E1.out];exact⟨none,0,none,0,none,0,rfl,zwj _ _,z5o F1.out (Nat.le_refl _) _ _ _ _ _ _ _⟩
def q00(l:List Ent)(now:Int)(s:ByteArray)(x:Itm):Bool:=if z0u l now s=0 then !z0t x else false
def zn0(l:List Ent)(now:Int)(s:ByteArray)(x:Itm):Int:=if q00 l now s x=true then z0e x else z0u l now s
def tst2(e now u:Int):Bool:=if e=0 then (if u=0 then false else if u≤now then true else decide (1000000 < u)) else false
def zum(e now u:Int):Int:=if tst2 e now u=true then 3 else e
def z7t(l:List Ent)(now:Int)(s:ByteArray)(x:Itm)(u:Int):Int:=zum (zn0 l now s x) now u
def zth(l:List Ent)(now:Int)(s:ByteArray)(x:Itm)(u:Int):List Ent:=if z7t l now s x u=0 then z8g l now s x u else []
def zv2(l:List Ent)(now:Int)(s:ByteArray)(x:Itm)(u:Int):Int:=if z7t l now s x u=0 then z28 l now s x u else z7t l now s x u
def SCP(l:List Ent)(c:Int)(w:World)(r:Ending)(w':World):Prop:=∃u,r=.returned (.tuple #[u,.int .i64 c])∧z1s w' w.heap.size u l∧Fr [] w w'
theorem zkj{l:List Ent}{now:Int}{s:ByteArray}{x:Itm}{u:Int}(h:z7t l now s x u=0):z0u l now s=0∧(z0t x=true∨z0e x=0):=by
 unfold z7t zum at h
 have h1:zn0 l now s x=0:=by
  split at h
  ·omega
  ·exact h
 unfold zn0 q00 at h1;by_cases h2:z0u l now s=0
 ·rw[if_pos h2] at h1;refine⟨h2,?_⟩;rcases h3:z0t x with _|_
  ·rw[h3] at h1;exact .inr h1
  ·exact .inl rfl
 ·rw[if_neg h2] at h1;exact absurd h1 h2
def zwa(b:Bool)(cs:List Value)(w:World)(sv:Value)(wx:World):Prop:=sv=.bool b∧BX w cs wx
def zw7(e:Int)(cs:List Value)(w:World)(sv:Value)(wx:World):Prop:=sv=.int .i64 e∧BX w cs wx
theorem zhx(l:List Ent)(v:Value)(now:Int)(s:ByteArray)(x:Itm)(xv:Value)(u:Int)(w:World)(B:Nat)(hs:∀e∈l,e.Small)(hl:l.length≤281474976710656)(hz:s.size≤281474976710656)(hsx:x.Small)(hB:B≤w.heap.size)(h:z1l w B v l)(hx:z0r w B xv x):
  Calls prog 106 #[v,.int .i64 now,.string s,xv,.int .i64 u] w (SCP (zth l now s x u) (zv2 l now s x u) w):=by
 obtain⟨A,c,rfl⟩:=h.form;have HXV:=hid hx;obtain⟨X1,x1,X2,x2,X3,x3,rfl⟩:=hx.form;have D0:=hid (BX.new w (.int .i64 x.kind) (.string x.text) (.slice X1 x.list.length x1) (.slice X2 x.pairs.length x2) (.slice X3 x.scores.length x3));have RD:=hid (fun W (hW:Fr [] w W)=>z36 l _ now s W B hs hl hz (Nat.le_trans hB hW.size) (h.fr hW hB (by simp)));have NO:=hid (fun W (hW:Fr [] w W)=>z71 x _ W B hsx (Nat.le_trans hB hW.size) (HXV.out.fr hW hB (by simp)));have CK:=hid (fun W (hW:Fr [] w W)=>z6x x _ W B hsx (Nat.le_trans hB hW.size) (HXV.out.fr hW hB (by simp)));have HV:=hid h;have HS:=hid hs;have HSX:=hid hsx;have PZ:=hid (fun(hq:z7t l now s x u=0)=>zkj hq);have EL:=hid (show zth l now s x u=if z7t l now s x u=0 then z8g l now s x u else [] from rfl);have EC:=hid (show zv2 l now s x u=if z7t l now s x u=0 then z28 l now s x u else z7t l now s x u from rfl);have EE:=hid (show z7t l now s x u=zum (zn0 l now s x) now u from rfl);have E1:=hid (show zn0 l now s x=if q00 l now s x=true then z0e x else z0u l now s from rfl);have T1:=hid (show q00 l now s x=if z0u l now s=0 then !z0t x else false from rfl);clear h hs hx hsx;generalize zth l now s x u=LL at *;generalize zv2 l now s x u=CC at *;generalize z7t l now s x u=er at *;generalize zn0 l now s x=e1 at *;generalize q00 l now s x=t1 at *;obtain⟨d0,d1,d2,d3,d4⟩:=five D0.out.b;go_enter Tryz.func106,Tryz.ntmps106;go_wp2_with fail;refine(RD.out _ D0.out.f).mono ?_;rintro e w1 ⟨rfl,f1⟩;have D1:=hid (D0.out.go f1);clear f1 d0 d1 d2 d3 d4;obtain⟨d0,d1,d2,d3,d4⟩:=five D1.out.b;go_upto_region 2 with fail;go_cut [23] (fun sv wx=>zwa t1 [.int .i64 x.kind,.string x.text,.slice X1 x.list.length x1,.slice X2 x.pairs.length x2,.slice X3 x.scores.length x3] w sv wx)
 case first=>
  by_cases ha:z0u l now s=0
  ·rw[if_pos ha] at T1;have q1:(z0u l now s==0)=true:=by simpa using ha
   clear ha;generalize z0u l now s=r at *;rcases hn:z0t x with _|_
   all_goals
    rw[hn] at NO T1;go_wp2_with fail;refine(NO.out _ D1.out.f).mono ?_;rintro e2 w2 ⟨rfl,f2⟩;have D2:=hid (D1.out.go f2);clear f2;go_wp2;go_meet
    case rel=>exact⟨by rw[T1.out];rfl,D2.out⟩
  ·rw[if_neg ha] at T1;have q1:(z0u l now s==0)=false:=by simpa using ha
   generalize z0u l now s=r at *;go_wp2;go_meet
   case rel=>exact⟨by rw[T1.out],D1.out⟩
 case rest=>
  obtain⟨rfl,hD⟩:=hcut;have D2:=hid hD;clear hD d0 d1 d2 d3 d4 D1 T1;obtain⟨d0,d1,d2,d3,d4⟩:=five D2.out.b
  go_upto_if 23 with fail
  go_cut [12,24,25] (fun sv _ _ wx=>zw7 e1 [.int .i64 x.kind,.string x.text,.slice X1 x.list.length x1,.slice X2 x.pairs.length x2,.slice X3 x.scores.length x3] w sv wx)
  case first=>
   rcases t1 with _|_
   ·go_wp2;go_meet
    case rel=>exact⟨by rw[E1.out];rfl,D2.out⟩
   ·go_wp2_with fail;refine(CK.out _ D2.out.f).mono ?_;rintro e3 w3 ⟨rfl,f3⟩;have D3:=hid (D2.out.go f3);clear f3;go_wp2;go_meet
    case rel=>exact⟨by rw[E1.out];rfl,D3.out⟩
  case rest=>
  obtain⟨rfl,hD⟩:=hcut;have D2:=hid hD;clear hD d0 d1 d2 d3 d4 E1;obtain⟨d0,d1,d2,d3,d4⟩:=five D2.out.b;have T2:=hid (show tst2 e1 now u=if e1=0 then (if u=0 then false else if u≤now then true else decide (1000000 < u)) else false from rfl);have E2:=hid (show zum e1 now u=if tst2 e1 now u=true then 3 else e1 from rfl);rw[E2.out] at EE;clear E2;generalize tst2 e1 now u=t2 at *;go_upto_region 4 with fail;go_cut [40] (fun sv wx=>zwa t2 [.int .i64 x.kind,.string x.text,.slice X1 x.list.length x1,.slice X2 x.pairs.length x2,.slice X3 x.scores.length x3] w sv wx)
  case first=>
   by_cases h1:e1=0
   ·rw[if_pos h1] at T2;have q1:(e1==0)=true:=by simpa using h1
    clear h1;by_cases h2:u=0
    ·rw[if_pos h2] at T2;have q2:(u != 0)=false:=by simpa using h2
     clear h2;go_wp2;go_meet
     case rel=>exact⟨by rw[T2.out],D2.out⟩
    ·rw[if_neg h2] at T2;have q2:(u != 0)=true:=by simpa using h2
     by_cases h3:u≤now
     ·rw[if_pos h3] at T2;go_wp2;go_meet
      case rel=>exact⟨by rw[T2.out],D2.out⟩
     ·rw[if_neg h3] at T2;go_wp2;go_meet
      case rel=>exact⟨by rw[T2.out],D2.out⟩
   ·rw[if_neg h1] at T2;have q1:(e1==0)=false:=by simpa using h1
    go_wp2;go_meet
    case rel=>exact⟨by rw[T2.out],D2.out⟩
  case rest=>
   obtain⟨rfl,hD⟩:=hcut;have D3:=hid hD;clear hD d0 d1 d2 d3 d4 D2 T2;obtain⟨d0,d1,d2,d3,d4⟩:=five D3.out.b
   go_upto_if 40 with fail
   go_cut [12] (fun sv wx=>zw7 er [.int .i64 x.kind,.string x.text,.slice X1 x.list.length x1,.slice X2 x.pairs.length x2,.slice X3 x.scores.length x3] w sv wx)
   case first=>
    rcases t2 with _|_
    all_goals
     go_wp2;go_meet
     case rel=>exact⟨by rw[EE.out];rfl,D3.out⟩
   case rest=>
   obtain⟨rfl,hD⟩:=hcut;have D3:=hid hD;clear hD d0 d1 d2 d3 d4 EE;obtain⟨d0,d1,d2,d3,d4⟩:=five D3.out.b;by_cases h1:er=0
   ·subst h1;rw[if_pos rfl] at EL EC;have ok:=zwu (q0n (PZ.out rfl).1).1;have hl16:=ok.le;have HR:=hid ok.rise;have OW:=hid (fun W (hW:Fr [] w W)=>z2y l _ W B HS.out (ziq ok) (by omega) (Nat.le_trans hB hW.size) (HV.out.fr hW hB (by simp)));have LN:x.list.length≤1000000∧x.pairs.length≤1000000∧x.scores.length≤1000000:=(PZ.out rfl).2.elim q0t zx0;have OI:=hid (fun W (hW:Fr [] w W)=>z8t x _ W B HSX.out LN.1 LN.2.1 LN.2.2 (Nat.le_trans hB hW.size) (HXV.out.fr hW hB (by simp)));have RW:=hid (fun W v xv base (h:z1s W base v l) (hx:z0q W base xv x) (hb:base≤W.heap.size)=>zba l v now s x xv u base W HR.out (by omega) HSX.out h hx hb);clear ok PZ LN RD NO CK;generalize z8g l now s x u=L2 at *;generalize z28 l now s x u=c2 at *;go_upto_region 8 with fail
    go_region_held3 (fun wx=>wx.cell? ⟨w.heap.size,0,none⟩=some (.int .i64 x.kind)∧wx.cell? ⟨w.heap.size,1,none⟩=some (.string x.text)∧wx.cell? ⟨w.heap.size,2,none⟩=some (.slice X1 x.list.length x1)∧wx.cell? ⟨w.heap.size,3,none⟩=some (.slice X2 x.pairs.length x2)∧wx.cell? ⟨w.heap.size,4,none⟩=some (.slice X3 x.scores.length x3)) (go_keep) (first
     | (go_at_call 118;(refine(OW.out _ D3.out.f.drew).mono ?_);rintro e w5 ⟨u5,rfl,ho,f5⟩;have D5:=hid (D3.out.go (z01 f5));clear d0 d1 d2 d3 d4 f5;obtain⟨d0,d1,d2,d3,d4⟩:=five D5.out.b;have HO5:=hid ho;obtain⟨A5,c5,rfl⟩:=ho.form;clear ho)
     | (go_at_call 138;(refine(OI.out _ D5.out.f).mono ?_);rintro e w6 ⟨u6,rfl,hi,f6⟩;have D6:=hid (D5.out.go f6);have HO6:=hid (HO5.out.fr f6);have HI6:=hid hi;clear d0 d1 d2 d3 d4;obtain⟨d0,d1,d2,d3,d4⟩:=five D6.out.b;obtain⟨P1,p1,P2,p2,P3,p3,rfl⟩:=hi.form;clear hi f6)
     | (go_at_call 163;(refine(RW.out _ _ _ w.heap.size (HO6.out.base D3.out.f.size) (HI6.out.less D5.out.f.size) D6.out.f.size).mono ?_);rintro e w7 ⟨u7,rfl,ho,f7⟩;have F7:=hid (D6.out.f.step f7 (fun q hq=>.inr (by
       obtain⟨rs,_,_,hr⟩:=HO6.out;have:=z1f hr hq;have hd:wc.drew.heap.size=wc.heap.size:=rfl;have:=D3.out.f.size;omega)));have HO7:=hid ho;obtain⟨A7,c7,rfl⟩:=ho.form;have D7:=hid (show Whole w7 w.heap.size _ _ from D6.out.b.fr f7 (by
       intro hq;obtain⟨rs,_,_,hr⟩:=HO6.out;have:=z1f hr hq;have hd:wc.drew.heap.size=wc.heap.size:=rfl;have:=D3.out.b.lt;omega));clear d0 d1 d2 d3 d4;obtain⟨d0,d1,d2,d3,d4⟩:=five D7.out;clear ho f7))
    go_wp2;go_ret2;rw[EL.out,EC.out];exact⟨_,rfl,HO7.out,F7.out⟩
   ·rw[if_neg h1] at EL EC;have q1:(er != 0)=true:=by simpa using h1
    clear PZ;go_wp2;go_ret2;rw[EL.out,EC.out];exact⟨_,rfl,z1s.nil _ _,D3.out.f⟩
theorem z93{l:List ByteArray}(hl:l.length≤1000000)(ht:∀s∈l,s.size≤281474976710656):(zfi l).Small:=
 ⟨by show -9223372036854775808≤(2:Int)∧(2:Int)≤9223372036854775807;omega,by show(⟨#[]⟩:ByteArray).size≤_;decide,by show l.length≤_;omega,by show 0≤_;omega,by show 0≤_;omega,ht,(fun p hp=>by cases hp),(fun p hp=>by cases hp)⟩
def tA:ByteArray:=⟨#[97]⟩
def tB:ByteArray:=⟨#[98]⟩
def tC:ByteArray:=⟨#[99]⟩
def tD:ByteArray:=⟨#[100]⟩
def zc5:Itm:=zfi [tA,tB,tA]
theorem zi5:zc5.Small:=z93 (by decide) (by decide)
theorem zrf(w:World):Calls prog 107 #[] w (zu5 zc5 w):=by
 go_enter Tryz.func107,Tryz.ntmps107;go_wp2;refine bodyPost_ret (v:=.agg #[.int .i64 2,.string ⟨#[]⟩,.slice (some ⟨w.heap.size+1,0,none⟩) 3 3,.slice none 0 0,.slice none 0 0]) (by simp[results,Tryz.results107,go_sem]) rfl ?_;have hb:=heap_alloc_new (w.alloc (.cells #[.int .i64 2,.string ⟨#[]⟩,.slice (some ⟨w.heap.size+1,0,none⟩) 3 3,.slice none 0 0,.slice none 0 0] 65)) (.cells #[.string ⟨#[97]⟩,.string ⟨#[98]⟩,.string ⟨#[97]⟩] 9);have hz:(w.alloc (.cells #[.int .i64 2,.string ⟨#[]⟩,.slice (some ⟨w.heap.size+1,0,none⟩) 3 3,.slice none 0 0,.slice none 0 0] 65)).heap.size=w.heap.size+1:=by simp
 rw[hz] at hb;exact⟨_,rfl,⟨_,_,_,rfl,⟨rfl,.inr ⟨w.heap.size+1,3,_,rfl,by omega,hb,Nat.le_refl _,by decide,rfl,rfl⟩⟩,⟨rfl,.inl ⟨rfl,rfl⟩⟩,⟨rfl,.inl ⟨rfl,rfl⟩⟩⟩,((Fr.refl [] w).alloc _).alloc _⟩
theorem zg1(l:List Ent)(v u:Value)(w:World)(B:Nat)(hs:∀e∈l,e.Small)(hl:l.length≤281474976710656)(hB:B≤w.heap.size)(h:z1l w B v l)(k:z1l w B u l):
  Calls prog 30 #[v,u] w fun e w'=>e=.returned (.bool true)∧Fr [] w w':=by
 obtain⟨A,c,rfl⟩:=h.form;obtain⟨A',c',rfl⟩:=k.form;have HV:=hid h;have KV:=hid k;have HS:=hid hs;clear h k hs;go_enter Tryz.func30,Tryz.ntmps30;go_wp2;go_loopg [5] l.length (fun g i wr=>∃(k:Nat),g=l.length - k∧k≤l.length∧i=.int .i64 k∧Fr [] w wr)
 case atStart=>exact⟨0,rfl,Nat.zero_le _,rfl,Fr.refl _ _⟩
 case round=>
  obtain⟨k,rfl,hk,rfl,hf⟩:=hrel;have HF:=hid hf;clear hf;by_cases hlt:k < l.length
  ·obtain⟨b,off,rfl,hb,hc,hmx,hat⟩:=HV.out.at_ (by omega);obtain⟨b2,off2,rfl,hb2,hc2,hmx2,hat2⟩:=KV.out.at_ (by omega);obtain⟨e,he⟩:∃e,l[k]? = some e:=⟨_,List.getElem?_eq_getElem hlt⟩;obtain⟨A1,A2,A3,c1,c2,c3,h7⟩:=hat k e he;obtain⟨B1,B2,B3,e1,e2,e3,k7⟩:=hat2 k e he;have P7:=hid (h7.fr HF.out hb hB (by simp));have Q7:=hid (k7.fr HF.out hb2 hB (by simp));have hem:=HS.out e (List.mem_of_getElem? he)
   have SI:=hid (show Calls prog 102 #[.agg #[.int .i64 e.item.kind,.string e.item.text,.slice A1 e.item.list.length c1,.slice A2 e.item.pairs.length c2,.slice A3 e.item.scores.length c3],.agg #[.int .i64 e.item.kind,.string e.item.text,.slice B1 e.item.list.length e1,.slice B2 e.item.pairs.length e2,.slice B3 e.item.scores.length e3]] wr.drew fun e w'=>e=.returned (.bool true)∧Fr [] wr.drew w' from by
    have:=zic e.item e.item _ _ wr.drew B hem.item hem.item (Nat.le_trans hB HF.out.size) (P7.out.ent.fr (Fr.refl [] _).drew (Nat.le_trans hB HF.out.size) (by simp)).item (Q7.out.ent.fr (Fr.refl [] _).drew (Nat.le_trans hB HF.out.size) (by simp)).item;rw[zny] at this;exact this)
   obtain⟨x0,x1,x2,x3,x4,x5,x6,-⟩:=P7.out;obtain⟨y0,y1,y2,y3,y4,y5,y6,-⟩:=Q7.out;have q1:=zyy e.key;have q2:=q1.1;have q3:=q1.2;clear hat hat2 h7 k7 he hem q1;go_wp2;go_region_held3 (fun wx=>wx.cell? ⟨b,off+k * 7,none⟩=some (.string e.key)∧wx.cell? ⟨b,off+k * 7+1,none⟩=some (.int .i64 e.item.kind)∧wx.cell? ⟨b,off+k * 7+2,none⟩=some (.string e.item.text)∧wx.cell? ⟨b,off+k * 7+3,none⟩=some (.slice A1 e.item.list.length c1)∧wx.cell? ⟨b,off+k * 7+4,none⟩=some (.slice A2 e.item.pairs.length c2)∧wx.cell? ⟨b,off+k * 7+5,none⟩=some (.slice A3 e.item.scores.length c3)∧wx.cell? ⟨b,off+k * 7+6,none⟩=some (.int .i64 e.til)∧wx.cell? ⟨b2,off2+k * 7,none⟩=some (.string e.key)∧wx.cell? ⟨b2,off2+k * 7+1,none⟩=some (.int .i64 e.item.kind)∧wx.cell? ⟨b2,off2+k * 7+2,none⟩=some (.string e.item.text)∧wx.cell? ⟨b2,off2+k * 7+3,none⟩=some (.slice B1 e.item.list.length e1)∧wx.cell? ⟨b2,off2+k * 7+4,none⟩=some (.slice B2 e.item.pairs.length e2)∧wx.cell? ⟨b2,off2+k * 7+5,none⟩=some (.slice B3 e.item.scores.length e3)∧wx.cell? ⟨b2,off2+k * 7+6,none⟩=some (.int .i64 e.til)) (go_keep) ((go_at_call 102;refine SI.out.mono ?_;rintro e9 w2 ⟨rfl,f2⟩;have G2:=hid (z01 f2);have P72:=hid (P7.out.fr G2.out hb (Nat.le_trans hB HF.out.size) (by simp));have Q72:=hid (Q7.out.fr G2.out hb2 (Nat.le_trans hB HF.out.size) (by simp));clear f2 x0 x1 x2 x3 x4 x5 x6 y0 y1 y2 y3 y4 y5 y6;obtain⟨x0,x1,x2,x3,x4,x5,x6,-⟩:=P72.out;obtain⟨y0,y1,y2,y3,y4,y5,y6,-⟩:=Q72.out));go_wp2;go_roundg (l.length - (k+1))
   case measure=>omega
   case rel=>exact⟨k+1,rfl,by omega,by go_num,HF.out.trans G2.out⟩
  ·obtain rfl:k=l.length:=by omega
   go_wp2;go_ret;exact⟨rfl,HF.out⟩
def zej:Itm:=⟨1,⟨#[55]⟩,[],[],[]⟩
def z0z:List Ent:=[⟨⟨#[108]⟩,zc5,0⟩,⟨⟨#[116]⟩,zej,10⟩]
theorem znx:zej.Small:=⟨by show -9223372036854775808≤(1:Int)∧(1:Int)≤9223372036854775807;omega,by show(⟨#[55]⟩:ByteArray).size≤_;decide,by show 0≤_;omega,by show 0≤_;omega,by show 0≤_;omega,(fun p hp=>by cases hp),(fun p hp=>by cases hp),(fun p hp=>by cases hp)⟩
theorem z44:∀e∈z0z,e.Small:=fun e he=>by
 simp[z0z] at he;rcases he with rfl|rfl
 ·exact⟨by show(⟨#[108]⟩:ByteArray).size≤_;decide,zi5,by show -9223372036854775808≤(0:Int)∧_;decide⟩
 ·exact⟨by show(⟨#[116]⟩:ByteArray).size≤_;decide,znx,by show -9223372036854775808≤(10:Int)∧_;decide⟩
theorem zlt:z1q z0z=0:=by kernel_rfl
theorem zru:z0u z0z 9 ⟨#[116]⟩=0∧getI z0z 9 ⟨#[116]⟩=zej:=⟨by kernel_rfl,by kernel_rfl⟩
theorem zlj:z0u z0z 10 ⟨#[116]⟩=0∧getI z0z 10 ⟨#[116]⟩=z2p 0:=⟨by kernel_rfl,by kernel_rfl⟩
theorem zwg:zv2 z0z 5 ⟨#[107]⟩ zc5 0=0∧zth z0z 5 ⟨#[107]⟩ zc5 0=[⟨⟨#[107]⟩,zc5,0⟩,⟨⟨#[108]⟩,zc5,0⟩,⟨⟨#[116]⟩,zej,10⟩]:=⟨by kernel_rfl,by kernel_rfl⟩
theorem zmt:zrh z0z 9 ⟨#[116]⟩=0∧zqz z0z 9 ⟨#[116]⟩=10:=⟨by kernel_rfl,by kernel_rfl⟩
theorem zoz:zfd z0z 10 ⟨#[42]⟩=0∧zby z0z 10 ⟨#[42]⟩=[⟨#[108]⟩]:=⟨by kernel_rfl,by kernel_rfl⟩
theorem zgc:z0u z0z 10 ⟨#[]⟩=0∧swL z0z 10=[⟨⟨#[108]⟩,zc5,0⟩]∧swN z0z 10=1:=⟨by kernel_rfl,by kernel_rfl,by kernel_rfl⟩
def SomeS(l:List Ent)(w:World)(r:Ending)(w':World):Prop:=∃u,r=.returned u∧z1s w' w.heap.size u l∧Fr [] w w'
theorem z7m(w:World):Calls prog 75 #[] w (SomeS z0z w):=by
 go_enter Tryz.func75,Tryz.ntmps75;go_wp2_with fail;refine(zrf _).mono ?_;rintro e w1 ⟨v,rfl,hi,f1⟩;obtain⟨A1,c1,A2,c2,A3,c3,rfl⟩:=hi.form;have HI:=hid hi;have F1:=hid f1;have LT:=hid (World.ownsRow_lit (base:=w1.heap.size) (e:=81) (size:=7) w1 #[.string ⟨#[108]⟩,.int .i64 zc5.kind,.string zc5.text,.slice A1 zc5.list.length c1,.slice A2 zc5.pairs.length c2,.slice A3 zc5.scores.length c3,.int .i64 0,.string ⟨#[116]⟩,.int .i64 1,.string ⟨#[55]⟩,.slice none 0 0,.slice none 0 0,.slice none 0 0,.int .i64 10] 2 (Nat.le_refl _) (by decide) rfl);clear hi f1;go_wp2;go_ret;have FA:=(Fr.refl [] w1).alloc (.cells #[.string ⟨#[108]⟩,.int .i64 zc5.kind,.string zc5.text,.slice A1 zc5.list.length c1,.slice A2 zc5.pairs.length c2,.slice A3 zc5.scores.length c3,.int .i64 0,.string ⟨#[116]⟩,.int .i64 1,.string ⟨#[55]⟩,.slice none 0 0,.slice none 0 0,.slice none 0 0,.int .i64 10] 81);refine⟨_,rfl,⟨[z8f ⟨⟨#[108]⟩,zc5,0⟩ A1 c1 A2 c2 A3 c3,z8f ⟨⟨#[116]⟩,zej,10⟩ none 0 none 0 none 0],rfl,fun i e he=>?_,z16 LT.out F1.out.size⟩,F1.out.trans FA⟩
 match i,he with
 | 0,he=>
  cases he;refine⟨_,rfl,?_⟩;obtain⟨L1,L2,L3,hv,o1,o2,o3⟩:=HI.out.go FA;cases hv;exact⟨_,_,_,_,_,_,rfl,o1,o2,o3⟩
 | 1,he=>
  cases he;exact⟨_,rfl,_,_,_,_,_,_,rfl,World.ownsRow_nil _ _ _ _,World.ownsRow_nil _ _ _ _,World.ownsRow_nil _ _ _ _⟩
 | i+2,he=>simp[z0z] at he
theorem zeo(w:World):Calls prog 34 #[] w fun e w'=>e=.returned (.bool true)∧Fr [] w w':=by
 have SO:=hid (fun W=>z7m W);have RO:=hid (fun W=>zrf W)
 have G9:=hid (fun(W:World) v (h:z1l W W.heap.size v z0z)=>(show Calls prog 105 #[v,.int .i64 9,.string ⟨#[116]⟩] W (IEP zej 0 W) from by
  have:=zbg z0z v 9 ⟨#[116]⟩ W W.heap.size z44 (by decide) (by decide) (Nat.le_refl _) h;rw[zru.1,zru.2] at this;exact this))
 have G10:=hid (fun(W:World) v (h:z1l W W.heap.size v z0z)=>(show Calls prog 105 #[v,.int .i64 10,.string ⟨#[116]⟩] W (IEP (z2p 0) 0 W) from by
  have:=zbg z0z v 10 ⟨#[116]⟩ W W.heap.size z44 (by decide) (by decide) (Nat.le_refl _) h;rw[zlj.1,zlj.2] at this;exact this))
 have PU:=hid (fun(W:World) v u (h:z1l W W.heap.size v z0z) (k:z0r W W.heap.size u zc5)=>(show Calls prog 106 #[v,.int .i64 5,.string ⟨#[107]⟩,u,.int .i64 0] W (SCP [⟨⟨#[107]⟩,zc5,0⟩,⟨⟨#[108]⟩,zc5,0⟩,⟨⟨#[116]⟩,zej,10⟩] 0 W) from by
  have:=zhx z0z v 5 ⟨#[107]⟩ zc5 u 0 W W.heap.size z44 (by decide) (by decide) zi5 (Nat.le_refl _) h k;rw[zwg.1,zwg.2] at this;exact this))
 have UN:=hid (fun(W:World) v (h:z1l W W.heap.size v z0z)=>(show Calls prog 108 #[v,.int .i64 9,.string ⟨#[116]⟩] W fun e w'=>e=.returned (.tuple #[.int .i64 10,.int .i64 0])∧Fr [] W w' from by
  have:=ze4 z0z v 9 ⟨#[116]⟩ W W.heap.size z44 (by decide) (by decide) (Nat.le_refl _) h;rw[zmt.1,zmt.2] at this;exact this))
 have KE:=hid (fun(W:World) v (h:z1l W W.heap.size v z0z)=>(show Calls prog 109 #[v,.int .i64 10,.string ⟨#[42]⟩] W (TCP [⟨#[108]⟩] 0 W) from by
  have:=za2 z0z v 10 ⟨#[42]⟩ W W.heap.size z44 (by decide) (by decide) (Nat.le_refl _) h;rw[zoz.1,zoz.2] at this;exact this))
 have SW:=hid (fun(W:World) v (h:z1l W W.heap.size v z0z)=>(show Calls prog 110 #[v,.int .i64 10] W (SNC [⟨⟨#[108]⟩,zc5,0⟩] 1 0 W) from by
  have:=zem z0z v 10 W W.heap.size z44 (by decide) (Nat.le_refl _) h;rw[zgc.1,zgc.2.1,zgc.2.2] at this;exact this))
 have CH:=hid (fun(W:World) v (h:z1l W W.heap.size v z0z)=>(show Calls prog 36 #[v] W fun e w'=>e=.returned (.int .i64 0)∧Fr [] W w' from by
  have:=z4a z0z v W W.heap.size z44 (by decide) (Nat.le_refl _) h;rw[zlt] at this;exact this))
 have IN:=hid (fun(W:World) v (h:z0r W W.heap.size v (z2p 0))=>(show Calls prog 92 #[v] W fun e w'=>e=.returned (.bool true)∧Fr [] W w' from by
  have:=zg5 (z2p 0) v W W.heap.size z6v (Nat.le_refl _) h;rw[show z0t (z2p 0)=true from by kernel_rfl] at this;exact this))
 have ST:=hid (fun(W:World) (A B:Option Addr) c d (h:Sl W W.heap.size 1 (.slice A 1 c) 1 (z04 [⟨#[108]⟩])) (k:Sl W W.heap.size 1 (.slice B 1 d) 1 (z04 [⟨#[108]⟩]))=>(show Calls prog 111 #[.slice A 1 c,.slice B 1 d] W fun e w'=>e=.returned (.bool true)∧Fr [] W w' from by
  have:=za5 [⟨#[108]⟩] [⟨#[108]⟩] A B c d W.heap.size W (by decide) (by decide) (Nat.le_refl _) h k;rw[show ze8 [⟨#[108]⟩] [⟨#[108]⟩]=true from by kernel_rfl] at this;exact this))
 go_enter Tryz.func34,Tryz.ntmps34;go_wp2_with fail;refine(SO.out _).mono ?_;rintro e1 w1 ⟨u1,rfl,o1,f1⟩;obtain⟨A1,c1,rfl⟩:=o1.form;have F1:=hid f1;go_wp2_with fail;refine(G9.out _ _ o1.v).mono ?_;rintro e2 w2 ⟨u2,rfl,o2,f2⟩;obtain⟨X1,x1,X2,x2,X3,x3,rfl⟩:=o2.form;have F2:=hid (F1.out.trans f2);have B2:=hid (Whole.new w2 65 [.int .i64 zej.kind,.string zej.text,.slice X1 zej.list.length x1,.slice X2 zej.pairs.length x2,.slice X3 zej.scores.length x3]);have F2b:=hid (F2.out.alloc (.cells #[.int .i64 zej.kind,.string zej.text,.slice X1 zej.list.length x1,.slice X2 zej.pairs.length x2,.slice X3 zej.scores.length x3] 65));clear o1 f1 o2 f2 F1 F2;go_wp2_with fail;refine(SO.out _).mono ?_;rintro e3 w3 ⟨u3,rfl,o3,f3⟩;obtain⟨A3,c3,rfl⟩:=o3.form;have F3:=hid (F2b.out.trans f3);have B3:=hid (B2.out.fr f3 (by simp));clear B2 F2b f3;go_wp2_with fail;refine(G10.out _ _ o3.v).mono ?_;rintro e4 w4 ⟨u4,rfl,o4,f4⟩;obtain⟨Y1,y1,Y2,y2,Y3,y3,rfl⟩:=o4.form;have F4:=hid (F3.out.trans f4);have B4:=hid (B3.out.fr f4 (by simp));have C4:=hid (Whole.new w4 65 [.int .i64 (z2p 0).kind,.string (z2p 0).text,.slice Y1 (z2p 0).list.length y1,.slice Y2 (z2p 0).pairs.length y2,.slice Y3 (z2p 0).scores.length y3]);have K4:=hid ((Fr.refl [] w4).alloc (.cells #[.int .i64 (z2p 0).kind,.string (z2p 0).text,.slice Y1 (z2p 0).list.length y1,.slice Y2 (z2p 0).pairs.length y2,.slice Y3 (z2p 0).scores.length y3] 65));have HY4:=hid (o4.go K4.out);have F4b:=hid (F4.out.trans K4.out);have B4b:=hid (B4.out.fr K4.out (by simp));clear o3 o4 f4 F4 B4 B3 F3 K4;go_wp2_with fail;refine(SO.out _).mono ?_;rintro e5 w5 ⟨u5,rfl,o5,f5⟩;obtain⟨A5,c5,rfl⟩:=o5.form;go_wp2_with fail;refine(RO.out _).mono ?_;rintro e6 w6 ⟨u6,rfl,o6,f6⟩;obtain⟨Z1,z1,Z2,z2,Z3,z3,rfl⟩:=o6.form;go_wp2_with fail;refine(PU.out _ _ _ (o5.fr f6).v o6.item).mono ?_;rintro e7 w7 ⟨u7,rfl,o7,f7⟩;obtain⟨A7,c7,rfl⟩:=o7.form;have N7:=hid (((f5.trans f6).trans f7));have F7:=hid (F4b.out.trans N7.out);have B7:=hid (B4b.out.fr N7.out (by simp));have C7:=hid (C4.out.fr N7.out (by simp));have HY7:=hid (HY4.out.go N7.out);clear o5 o6 o7 f5 f6 f7 N7 F4b B4b C4 HY4;go_wp2_with fail;refine(SO.out _).mono ?_;rintro e8 w8 ⟨u8,rfl,o8,f8⟩;obtain⟨A8,c8,rfl⟩:=o8.form;go_wp2_with fail;refine(UN.out _ _ o8.v).mono ?_;rintro e9 w9 ⟨rfl,f9⟩;go_wp2_with fail;refine(SO.out _).mono ?_;rintro ea wa ⟨ua,rfl,oa,fa⟩;obtain⟨Aa,ca,rfl⟩:=oa.form;go_wp2_with fail;refine(KE.out _ _ oa.v).mono ?_;rintro eb wb ⟨Ab,cb,rfl,ob,fb⟩;have Nb:=hid (((f8.trans f9).trans fa).trans fb);have HB:=hid ob;clear o8 f8 f9 oa fa ob fb;go_wp2_with fail;refine(SO.out _).mono ?_;rintro ec w10 ⟨uc,rfl,oc,fc⟩;obtain⟨Ac,cc,rfl⟩:=oc.form;go_wp2_with fail;refine(SW.out _ _ oc.v).mono ?_;rintro ed wd ⟨ud,rfl,od,fd⟩;obtain⟨Ad,cd,rfl⟩:=od.form;go_wp2_with fail;refine(SO.out _).mono ?_;rintro ee we ⟨ue,rfl,oe,fe⟩;obtain⟨Ae,ce,rfl⟩:=oe.form;go_wp2_with fail;refine(CH.out _ _ oe.v).mono ?_;rintro eg wg ⟨rfl,fg⟩;have Ng:=hid (((fc.trans fd).trans fe).trans fg);have Nh:=hid (Nb.out.trans Ng.out)
 have Fg:=hid (F7.out.trans Nh.out);have Bg:=hid (B7.out.fr Nh.out (by simp));have Cg:=hid (C7.out.fr Nh.out (by simp));have HYg:=hid (HY7.out.go Nh.out);have HBg:=hid (z0p HB.out Ng.out (by simp));clear oc fc od fd oe fe fg Nb Ng Nh F7 B7 C7 HY7 HB;obtain⟨p0,p1,p2,p3,p4⟩:=five Bg.out;have hst:zej.text.toList=[55]:=by decide +kernel
 obtain⟨q0,q1,q2,q3,q4⟩:=five Cg.out;go_wp2_with fail;refine(IN.out _ _ HYg.out.item).mono ?_;rintro ei wi ⟨rfl,fi⟩;have Fi:=hid (Fg.out.trans fi);have HBi:=hid ((z0p HBg.out fi (by simp)));clear fi;have L1:=hid (z0s (World.ownsRow_lit (base:=wi.heap.size) (e:=9) (size:=1) wi #[.string ⟨#[108]⟩] 1 (Nat.le_refl _) (by decide) rfl));have Fj:=hid (Fi.out.alloc (.cells #[.string ⟨#[108]⟩] 9));have HBj:=hid (z0s (HBi.out.alloc (.cells #[.string ⟨#[108]⟩] 9)));go_wp2_with fail;refine(ST.out _ _ _ _ _ HBj.out L1.out).mono ?_;rintro ek wk ⟨rfl,fk⟩;have Fk:=hid (Fj.out.trans fk);clear fk;go_wp2;go_ret;exact⟨rfl,Fk.out⟩
theorem z1l.go{w w':World}{v:Value}{l:List Ent}(h:z1l w w.heap.size v l)(hf:Fr [] w w'):z1l w' w'.heap.size v l:=(h.fr hf (Nat.le_refl _) (by simp)).more hf.size
section
variable {w0 wr w1:World} {bl:List (Nat×List Value)} {its:List (Value×Itm)} {rs:List (Nat×Value×Nat×List Value)} {es:List (Value×List Ent)}
end
theorem zqu{l:List Ent}{p q:Ent}{j:Nat}(h:q∈zgy l p j):q=p∨q∈l:=by
 unfold zgy at h;rcases List.mem_append.1 h with h|h
 ·exact .inr (List.mem_of_mem_take h)
 ·rcases List.mem_cons.1 h with h|h
  ·exact .inl h
  ·exact .inr (List.mem_of_mem_drop h)
theorem zg8{P:Ent→Prop}{l:List Ent}{now:Int}{s:ByteArray}{x:Itm}{u:Int}(hl:∀e∈l,P e)(hn:P ⟨s,x,u⟩):∀e∈zn7 l now s x u,P e:=by
 have h1:∀e∈zob (z50 l s) ⟨s,x,u⟩,P e:=fun e he=>by
  rcases zqu he with rfl|h
  ·exact hn
  ·exact hl _ (List.mem_filter.1 h).1
 intro e he;unfold zn7 at he;split at he
 ·exact h1 e (List.mem_filter.1 he).1
 ·exact h1 e he
theorem zsr(l:List Ent)(now:Int)(p:ByteArray):(zby l now p).length≤l.length:=by
 unfold zby zd7;split
 ·rw[List.length_map];exact List.length_filter_le _ _
 ·simp
theorem zrg:∀ {l:List Ent} {p:Option ByteArray},(∀e∈l,e.key.size≤60∧z0e e.item=0∧(0≤e.til∧e.til≤1000000))→rises (ltK Ent.key) l=true→(∀e,l[0]? = some e→z4l p e.key=false)→zou p l=0
 | [],p,_,_,_=>rfl
 | e :: l,p,h,hr,h0=>by
  obtain⟨h1,h2,h3⟩:=h e (by simp);have h4:=h0 e rfl
  have hc:z35 p e=0:=by
   have ht:z3e e.til=true:=by unfold z3e;rw[decide_eq_true h3.1,decide_eq_true h3.2];rfl
   unfold z35;rw[if_neg (by omega),if_neg (by simpa using h2),if_neg (by rw[ht];decide),if_neg (by rw[h4];decide)]
  unfold zou;rw[if_neg (by simpa using hc)];refine zrg (fun x hx=>h x (by simp[hx])) ?_ ?_
  ·cases l with
   | nil=>rfl
   | cons y l=>
    have hr':(ltK Ent.key e y&&rises (ltK Ent.key) (y :: l))=true:=hr;rw[Bool.and_eq_true] at hr';exact hr'.2
  ·intro x hx;cases l with
   | nil=>simp at hx
   | cons y l=>
    simp at hx;subst hx;have hr':(ltK Ent.key e y&&rises (ltK Ent.key) (y :: l))=true:=hr;rw[Bool.and_eq_true] at hr';have:ltS e.key y.key=true:=hr'.1;show(!ltS e.key y.key)=false;rw[this];rfl
theorem zjh{l:List Ent}(h:z1y l):z1q l=0:=by
 unfold z1q;rw[if_neg (by have:=h.le;omega)];exact zrg (fun e he=>⟨h.keys e he,h.items e he,h.times e he⟩) h.rise (fun e _=>rfl)
theorem z8y{l:List Ent}(h:z1y l)(q:Ent→Bool):z1y (l.filter q):=
 ⟨Nat.le_trans (List.length_filter_le _ _) h.le,fun e he=>h.keys e (List.mem_filter.1 he).1,fun e he=>h.items e (List.mem_filter.1 he).1,fun e he=>h.times e (List.mem_filter.1 he).1,z3q ((z3b (z58 Ent.key) h.rise).filter _)⟩
theorem zv1{l:List Ent}{e:Ent}(h:z5y Ent.key l e.key=false):zob l e=zbw Ent.key l e:=by
 unfold zob zbw zgy;rw[if_neg (by rw[h];decide)]
theorem zqk{l:List Ent}(hr:rises (ltK Ent.key) l=true)(s:ByteArray):z5y Ent.key (z50 l s) s=false:=by
 rcases h:z5y Ent.key (z50 l s) s with _|_
 ·rfl
 ·obtain⟨q,hq,hk⟩:=(z32 Ent.key).1 h;have hm:=(List.mem_filter.1 (List.mem_of_getElem? hq)).2;rw[hk] at hm;simp at hm
theorem zio{l:List Ent}(hr:rises (ltK Ent.key) l=true)(s:ByteArray)(x:Itm)(u:Int):rises (ltK Ent.key) (zob (z50 l s) ⟨s,x,u⟩)=true:=by
 rw[zv1 (by exact zqk hr s)];exact zf0 Ent.key _ (zr7 hr s)
theorem zor{l:List Ent}(hr:rises (ltK Ent.key) l=true)(now:Int)(s:ByteArray)(x:Itm)(u:Int):rises (ltK Ent.key) (zn7 l now s x u)=true:=by
 unfold zn7;split
 ·exact z3q ((z3b (z58 Ent.key) (zio hr s x u)).filter _)
 ·exact zio hr s x u
theorem zjt{x:Itm}(h:z0t x=true):x=z2p 0:=by
 rw[z7r] at h;simp at h;obtain⟨h1,h2,h3⟩:=h;unfold many at h3;obtain⟨k,t,a,b,c⟩:=x;simp at h1 h2 h3;obtain⟨⟨rfl,rfl⟩,rfl⟩:=h3;subst h1;unfold z2p;congr
theorem z3k:z0t (z2p 0)=true:=by decide
structure Dr(g B0:Nat)(sv:Value)(now:Int)(lv:Value)(l:List ByteArray)(s:List Ent)(wr:World):Prop where
 d:Whole wr g 156 [sv,.int .i64 now,lv]
 e:z1s wr B0 sv s
 l:Sl wr B0 1 lv l.length (z04 l)
 gb:B0≤g
section
variable {g B0:Nat} {sv:Value} {now:Int} {lv:Value} {l:List ByteArray} {s:List Ent} {w w1:World}
theorem Dr.lt(h:Dr g B0 sv now lv l s w):g < w.heap.size:=h.d.lt
theorem Dr.bz(h:Dr g B0 sv now lv l s w):B0≤w.heap.size:=Nat.le_trans h.gb (Nat.le_of_lt h.lt)
theorem Dr.go(h:Dr g B0 sv now lv l s w)(k:Fr [] w w1):Dr g B0 sv now lv l s w1:=
 ⟨h.d.f0 k,h.e.fr k,h.l.fr k h.bz (by simp),h.gb⟩
theorem Dr.three(h:Dr g B0 sv now lv l s w):w.cell? ⟨g,0,none⟩=some sv∧w.cell? ⟨g,1,none⟩=some (.int .i64 now)∧w.cell? ⟨g,2,none⟩=some lv:=⟨h.d.cell 0,h.d.cell 1,h.d.cell 2⟩
theorem Dr.sform(h:Dr g B0 sv now lv l s w):∃A c,sv=.slice A s.length c:=h.e.form
theorem Dr.lform(h:Dr g B0 sv now lv l s w):∃A c,lv=.slice A l.length c:=z7k h.l
theorem Dr.word{A:Option Addr}{c:Nat}(h:Dr g B0 sv now (.slice A l.length c) l s w)(hn:0 < l.length):∃b off,A=some ⟨b,off,none⟩∧b < B0∧l.length≤c∧c≤maxLen∧∀i,i < l.length→w.cell? ⟨b,off+i,none⟩=some (.string (wd l i)):=by
 obtain⟨b,off,e,hb,hc,hm,hat⟩:=h.l.at_ hn;refine⟨b,off,e,hb,hc,hm,fun i hi=>hat i _ ?_⟩;have:=z1b l i l[i] (List.getElem?_eq_getElem hi);rw[this];unfold wd;rw[List.getD_eq_getElem?_getD,List.getElem?_eq_getElem hi];rfl
end
theorem zdj{w:World}{base e size n o T:Nat}{v:Value}{xs cs:List Value}(h:w.ownsRow base e size v n xs)(hw:Whole w o T cs)(hT:T≠e)(a b c d f:Value):(zt1 w o a b c d f).ownsRow base e size v n xs:=by
 have hn:=zae h hw hT;exact z22 (p:=⟨o,4,none⟩) _ (z22 (p:=⟨o,3,none⟩) _ (z22 (p:=⟨o,2,none⟩) _ (z22 (p:=⟨o,1,none⟩) _ (z22 (p:=⟨o,0,none⟩) _ h hn) hn) hn) hn) hn
theorem zd2{w:World}{base o T:Nat}{v:Value}{x:Itm}{cs:List Value}(h:z0q w base v x)(hw:Whole w o T cs)(hT:T≠9∧T≠108∧T≠113)(a b c d f:Value):z0q (zt1 w o a b c d f) base v x:=by
 obtain⟨v1,v2,v3,rfl,o1,o2,o3⟩:=h;exact⟨_,_,_,rfl,zdj o1 hw hT.1 _ _ _ _ _,zdj o2 hw hT.2.1 _ _ _ _ _,zdj o3 hw hT.2.2 _ _ _ _ _⟩
theorem zdx{w:World}{base e size n o T:Nat}{v:Value}{xs cs:List Value}(h:w.ownsRow base e size v n xs)(hw:Whole w o T cs)(hT:T≠e)(a b c d f g k:Value):(set7 w o a b c d f g k).ownsRow base e size v n xs:=by
 have hn:=zae h hw hT;exact z22 (p:=⟨o,6,none⟩) _ (z22 (p:=⟨o,5,none⟩) _ (z22 (p:=⟨o,4,none⟩) _ (z22 (p:=⟨o,3,none⟩) _ (z22 (p:=⟨o,2,none⟩) _ (z22 (p:=⟨o,1,none⟩) _ (z22 (p:=⟨o,0,none⟩) _ h hn) hn) hn) hn) hn) hn) hn
def z89(B0:Nat)(y:Ent)(w0:World)(pb:Value)(wx:World):Prop:=
 ∃gb A1 c1 A2 c2 A3 c3,pb=.pointer (some ⟨gb,0,none⟩)∧w0.heap.size≤gb∧Whole wx gb 81 [.string y.key,.int .i64 y.item.kind,.string y.item.text,.slice A1 y.item.list.length c1,.slice A2 y.item.pairs.length c2,.slice A3 y.item.scores.length c3,.int .i64 y.til]∧z2o wx B0 (z8f y A1 c1 A2 c2 A3 c3) y∧Fr [] w0 wx
section
variable {B0:Nat} {y:Ent} {w0 w1:World} {A1 A2 A3:Option Addr} {c1 c2 c3:Nat}
theorem z89.new(hC:z2o w1 B0 (z8f y A1 c1 A2 c2 A3 c3) y)(hf:Fr [] w0 w1):z89 B0 y w0 (.pointer (some ⟨w1.heap.size,0,none⟩)) (w1.alloc (.cells #[.string y.key,.int .i64 y.item.kind,.string y.item.text,.slice A1 y.item.list.length c1,.slice A2 y.item.pairs.length c2,.slice A3 y.item.scores.length c3,.int .i64 y.til] 81)):=
 ⟨_,A1,c1,A2,c2,A3,c3,rfl,hf.size,Whole.new w1 _ _,hC.fr ((Fr.refl [] w1).alloc _),hf.alloc _⟩
theorem z89.put{gb:Nat}(hC:z2o w1 B0 (z8f y A1 c1 A2 c2 A3 c3) y)(hf:Fr [] w0 w1)(hg:w0.heap.size≤gb)(hv:Whole w1 gb 81 [.string ⟨#[]⟩,.int .i64 0,.string ⟨#[]⟩,.slice none 0 0,.slice none 0 0,.slice none 0 0,.int .i64 0]):z89 B0 y w0 (.pointer (some ⟨gb,0,none⟩)) (set7 w1 gb (.string y.key) (.int .i64 y.item.kind) (.string y.item.text) (.slice A1 y.item.list.length c1) (.slice A2 y.item.pairs.length c2) (.slice A3 y.item.scores.length c3) (.int .i64 y.til)):=by
 obtain⟨_,_,_,_,_,_,h7,o1,o2,o3⟩:=hC;simp[z8f] at h7;obtain⟨⟨rfl,rfl⟩,⟨rfl,rfl⟩,rfl,rfl⟩:=h7;exact⟨gb,_,_,_,_,_,_,rfl,hg,(((((((hv.set_ 0 _).set_ 1 _).set_ 2 _).set_ 3 _).set_ 4 _).set_ 5 _).set_ 6 _),⟨_,_,_,_,_,_,rfl,zdx o1 hv (by decide) _ _ _ _ _ _ _,zdx o2 hv (by decide) _ _ _ _ _ _ _,zdx o3 hv (by decide) _ _ _ _ _ _ _⟩,z5o hf hg _ _ _ _ _ _ _⟩
def z8u(B0:Nat)(y:Itm)(w0:World)(pb:Value)(wx:World):Prop:=
 ∃gb A1 c1 A2 c2 A3 c3,pb=.pointer (some ⟨gb,0,none⟩)∧w0.heap.size≤gb∧Whole wx gb 65 [.int .i64 y.kind,.string y.text,.slice A1 y.list.length c1,.slice A2 y.pairs.length c2,.slice A3 y.scores.length c3]∧z0q wx B0 (.agg #[.int .i64 y.kind,.string y.text,.slice A1 y.list.length c1,.slice A2 y.pairs.length c2,.slice A3 y.scores.length c3]) y∧Fr [] w0 wx
theorem z8u.new{y:Itm}(hC:z0q w1 B0 (.agg #[.int .i64 y.kind,.string y.text,.slice A1 y.list.length c1,.slice A2 y.pairs.length c2,.slice A3 y.scores.length c3]) y)(hf:Fr [] w0 w1):z8u B0 y w0 (.pointer (some ⟨w1.heap.size,0,none⟩)) (w1.alloc (.cells #[.int .i64 y.kind,.string y.text,.slice A1 y.list.length c1,.slice A2 y.pairs.length c2,.slice A3 y.scores.length c3] 65)):=
 ⟨_,A1,c1,A2,c2,A3,c3,rfl,hf.size,Whole.new w1 _ _,hC.go ((Fr.refl [] w1).alloc _),hf.alloc _⟩
theorem z8u.put{y:Itm}{gb:Nat}(hC:z0q w1 B0 (.agg #[.int .i64 y.kind,.string y.text,.slice A1 y.list.length c1,.slice A2 y.pairs.length c2,.slice A3 y.scores.length c3]) y)(hf:Fr [] w0 w1)(hg:w0.heap.size≤gb)(hv:Whole w1 gb 65 [.int .i64 0,.string ⟨#[]⟩,.slice none 0 0,.slice none 0 0,.slice none 0 0]):z8u B0 y w0 (.pointer (some ⟨gb,0,none⟩)) (zt1 w1 gb (.int .i64 y.kind) (.string y.text) (.slice A1 y.list.length c1) (.slice A2 y.pairs.length c2) (.slice A3 y.scores.length c3)):=
 ⟨gb,_,_,_,_,_,_,rfl,hg,zn8 hv,zd2 hC hv (by decide) _ _ _ _ _,z42 hf hg _ _ _ _ _⟩
end
def ItP(base:Nat)(x:Itm)(w:World)(e:Ending)(w':World):Prop:=∃u,e=.returned u∧z0q w' base u x∧Fr [] w w'
theorem zhg(g B0:Nat)(sv:Value)(now:Int)(lv:Value)(l:List ByteArray)(s:List Ent)(k:ByteArray)(w:World)(hr:rises (ltK Ent.key) s=true)(hl:s.length≤1000)(h:Dr g B0 sv now lv l s w):
  Calls prog 229 #[.pointer (some ⟨g,0,none⟩),.string k] w (ItP B0 (z00 s now k).item w):=by
 have LK:=hid (fun W (hW:Fr [] w W)=>z1g s sv now k W B0 hr (by omega) (h.e.fr hW));have DG:=hid (fun W (hW:Fr [] w W)=>(h.go hW).three);have W0:=hid (Whole.new w 65 [.int .i64 0,.string ⟨#[]⟩,.slice none 0 0,.slice none 0 0,.slice none 0 0]);have F0:=hid ((Fr.refl [] w).alloc (.cells #[.int .i64 0,.string ⟨#[]⟩,.slice none 0 0,.slice none 0 0,.slice none 0 0] 65));have hlt:=h.lt;have hbz:=h.bz;obtain⟨SA,sc,rfl⟩:=h.sform;clear h hr;have F1:=hid (F0.out.alloc (.cells #[.string ⟨#[]⟩,.int .i64 0,.string ⟨#[]⟩,.slice none 0 0,.slice none 0 0,.slice none 0 0,.int .i64 0] 81));have V1:=hid (z60 w (.cells #[.int .i64 0,.string ⟨#[]⟩,.slice none 0 0,.slice none 0 0,.slice none 0 0] 65) 81 [.string ⟨#[]⟩,.int .i64 0,.string ⟨#[]⟩,.slice none 0 0,.slice none 0 0,.slice none 0 0,.int .i64 0]);obtain⟨x0,x1,x2⟩:=DG.out _ F0.out;obtain⟨x3,x4,x5⟩:=DG.out _ F1.out;clear x2 x5;have hn1:¬g=w.heap.size+1:=by omega
 have hn2:¬w.heap.size+1=g:=by omega
 generalize z00 s now k=y at *;generalize z18 s now k=bb at *;go_enter Tryz.func229,Tryz.ntmps229;go_upto_region 1 with fail;go_cut [5,6] (fun pb _ wx=>z89 B0 y (w.alloc (.cells #[.int .i64 0,.string ⟨#[]⟩,.slice none 0 0,.slice none 0 0,.slice none 0 0] 65)) pb wx)
 case first=>
  go_region_held3 (fun wx=>wx.cell? ⟨g,0,none⟩=some (.slice SA s.length sc)∧wx.cell? ⟨g,1,none⟩=some (.int .i64 now)) (go_keep) ((go_at_call 162;first|(refine(LK.out _ F0.out.drew).mono ?_;rintro e1 w1 ⟨A1,c1,A2,c2,A3,c3,rfl,hc,f1⟩;have F2:=hid (z01 f1);have F3:=hid (F0.out.trans F2.out);have HC:=hid hc;obtain⟨z0,z1,z2⟩:=DG.out _ F3.out;clear f1 hc z2)|(refine(LK.out _ F1.out.drew).mono ?_;rintro e1 w1 ⟨A1,c1,A2,c2,A3,c3,rfl,hc,f1⟩;have F2:=hid (z2b (z01 f1));have F3:=hid (F1.out.trans (z01 f1));have HC:=hid hc;have V2:=hid (V1.out.f0 (z01 f1));obtain⟨z0,z1,z2⟩:=DG.out _ F3.out;have y7:=seven V2.out;have z7:=z3u V2.out;clear f1 hc z2)))
  all_goals
   go_wp2;go_meet
   case rel=>first|with_reducible exact z89.new HC.out F2.out|exact z89.put HC.out F2.out (by simp) V2.out
 clear x0 x1 x3 x4;obtain⟨gb,A1,c1,A2,c2,A3,c3,rfl,hgb,hw,hc,hf⟩:=hcut;have HI:=hid hc.item;have W2:=hid (W0.out.f0 hf);have F2:=hid (F0.out.trans hf);obtain⟨x0,x1,x2,x3,x4,x5,x6⟩:=seven hw;obtain⟨a0,a1,a2,a3,a4⟩:=five W2.out;obtain⟨b0,b1,b2,b3,b4⟩:=z12 W2.out;clear hw hc hf;go_wp2;refine bodyPost_ret (v:=.agg #[.int .i64 y.item.kind,.string y.item.text,.slice A1 y.item.list.length c1,.slice A2 y.item.pairs.length c2,.slice A3 y.item.scores.length c3]) (by simp[results,Tryz.results229,go_sem,a0,a1,a2,a3,a4]) rfl ?_;exact⟨_,rfl,zd2 HI.out W2.out (by decide) _ _ _ _ _,z42 F2.out (Nat.le_refl _) _ _ _ _ _⟩
theorem zes(g B0:Nat)(sv:Value)(now:Int)(lv:Value)(l:List ByteArray)(s:List Ent)(k:ByteArray)(w:World)(hr:rises (ltK Ent.key) s=true)(hl:s.length≤1000)(h:Dr g B0 sv now lv l s w):
  Calls prog 243 #[.pointer (some ⟨g,0,none⟩),.string k] w fun e w'=>e=.returned (.bool (z18 s now k))∧Fr [] w w':=by
 have LK:=hid (fun W (hW:Fr [] w W)=>z1g s sv now k W B0 hr (by omega) (h.e.fr hW));have DG:=hid (fun W (hW:Fr [] w W)=>(h.go hW).three);have F1:=hid ((Fr.refl [] w).alloc (.cells #[.string ⟨#[]⟩,.int .i64 0,.string ⟨#[]⟩,.slice none 0 0,.slice none 0 0,.slice none 0 0,.int .i64 0] 81));have V1:=hid (Whole.new w 81 [.string ⟨#[]⟩,.int .i64 0,.string ⟨#[]⟩,.slice none 0 0,.slice none 0 0,.slice none 0 0,.int .i64 0]);have hlt:=h.lt;obtain⟨SA,sc,rfl⟩:=h.sform;clear h hr;obtain⟨x0,x1,x2⟩:=DG.out _ (Fr.refl [] w);obtain⟨x3,x4,x5⟩:=DG.out _ F1.out;clear x2 x5;have hn1:¬g=w.heap.size:=by omega
 have hn2:¬w.heap.size=g:=by omega
 generalize z00 s now k=y at *;generalize z18 s now k=bb at *;go_enter Tryz.func243,Tryz.ntmps243;go_upto_region 1 with fail;go_cut [5,6] (fun _ pb wx=>pb=.bool bb∧Fr [] w wx)
 case first=>
  go_region_held3 (fun wx=>wx.cell? ⟨g,0,none⟩=some (.slice SA s.length sc)∧wx.cell? ⟨g,1,none⟩=some (.int .i64 now)) (go_keep) ((go_at_call 162;first|(refine(LK.out _ (Fr.refl [] w).drew).mono ?_;rintro e1 w1 ⟨A1,c1,A2,c2,A3,c3,rfl,hc,f1⟩;have F2:=hid (z01 f1);obtain⟨z0,z1,z2⟩:=DG.out _ F2.out;clear f1 hc z2)|(refine(LK.out _ F1.out.drew).mono ?_;rintro e1 w1 ⟨A1,c1,A2,c2,A3,c3,rfl,hc,f1⟩;have F2:=hid (F1.out.trans (z01 f1));have V2:=hid (V1.out.f0 (z01 f1));obtain⟨z0,z1,z2⟩:=DG.out _ F2.out;have y7:=seven V2.out;have z7:=z3u V2.out;clear f1 hc z2)))
  all_goals
   go_wp2;go_meet
   case rel=>first|with_reducible exact⟨rfl,F2.out.alloc _⟩|exact⟨rfl,z5o F2.out (Nat.le_refl _) _ _ _ _ _ _ _⟩
 obtain⟨rfl,hf⟩:=hcut;have F2:=hid hf;clear hf x0 x1 x3 x4;go_wp2;go_ret;exact⟨rfl,F2.out⟩
theorem zgt(g B0:Nat)(sv:Value)(now:Int)(lv:Value)(l:List ByteArray)(s:List Ent)(i:Nat)(n:Int)(w:World)(hi:i < l.length)(hz:∀t∈l,t.size≤281474976710656)(hn:z2z (wd l i).data.toList=some n)(hv:Vars w)(h:Dr g B0 sv now lv l s w):
  Calls prog 240 #[.pointer (some ⟨g,0,none⟩),.int .i64 i] w fun e w'=>e=.returned (.int .i64 n)∧Fr [] w w':=by
 obtain⟨LA,lc,rfl⟩:=h.lform;obtain⟨b,off,rfl,hb,hc,hm,hat⟩:=h.word (by omega)
 have hw:(wd l i)∈l:=by
  unfold wd;rw[List.getD_eq_getElem?_getD,List.getElem?_eq_getElem hi];exact List.getElem_mem hi
 have TI:=hid (z8s (wd l i) w hv (hz _ hw));have x3:=hat i hi;obtain⟨x0,x1,x2⟩:=h.three;have hlt:=h.lt;have ix0:(0:Int)≤(i:Int):=by omega
 have ix1:(i:Int) < (l.length:Int):=by omega
 have HN:=hid hn;unfold maxLen at hm;clear h hat hw hz hn hv;generalize wd l i=t at *;go_enter Tryz.func240,Tryz.ntmps240;go_wp2_with fail;refine TI.out.mono ?_;rintro e1 w1 ⟨n',rfl,-,hq,f1⟩;obtain rfl:n'=n:=hq n HN.out;have F1:=hid f1;clear f1 hq x0 x1 x2 x3;go_wp2;go_ret;exact⟨rfl,F1.out⟩
end Go.Proofs.YtmalkppcahogjaaGreatDoor
