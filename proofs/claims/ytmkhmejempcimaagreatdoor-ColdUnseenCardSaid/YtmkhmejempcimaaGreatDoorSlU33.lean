/- Contracts; no condition but each theorem's own. -/
import Derived.Test.YtmkhmejempcimaaGreatDoorSlU31
import Derived.Test.YtmkhmejempcimaaGreatDoorSlU32
set_option linter.unusedVariables false
set_option linter.unusedSimpArgs false
set_option maxHeartbeats 8000000
set_option maxRecDepth 100000
namespace Go.Proofs.YtmkhmejempcimaaGreatDoor
open Lib (hid)
open Go.Proofs.Tryz (prog)
open Go.RowKit
def cbT:ByteArray:=⟨#[116]⟩
def cbL:ByteArray:=⟨#[108]⟩
def cbD:List ByteArray:=[⟨#[114,112,117,115,104]⟩,⟨#[108]⟩,⟨#[122]⟩]
def cbA:Sto:=(z29 z26 cbT).1
def cbB:Sto:=(z2f cbA cbL).1
def cbC:Sto:=(z1p cbB 0).1
def cbE:Sto:=z5h z26 (doR z5n 5 cbD).1
theorem zkq:z2t z26:=zfg z83
theorem za0:z0k z26=z5n:=by kernel_rfl
theorem cb_a:(z29 z26 cbT).2=0:=by kernel_rfl
theorem zpi:z07 cbA=0:=by decide +kernel
theorem zpy:cbA.segs.map List.length=[3]:=by kernel_rfl
theorem cb_b:(z2f cbA cbL).2=0:=by kernel_rfl
theorem zpb:z07 cbB=0:=by decide +kernel
theorem cb_c:(z1p cbB 0).2=(2,0):=by kernel_rfl
theorem zmi:z07 cbC=0:=by decide +kernel
theorem zph:cbC.slots.map Slt.rcd=[0,0]:=by kernel_rfl
theorem cb_cv:z0k cbC=z5n:=by kernel_rfl
theorem cb_kn:z3d cbD=0:=by kernel_rfl
theorem cb_cm:cmL cbD=some .rpush:=by kernel_rfl
theorem zpn:zf1 (doR z5n 5 cbD).1=0:=by kernel_rfl
theorem cb_rn:((doR z5n 5 cbD).2.n==4)=true:=by kernel_rfl
theorem zpx:cbE.slots.map Slt.cold=[false,false]:=by kernel_rfl
theorem zif{α β:Type}{f:α→β}{l:List α}{m:List β}(h:l.map f=m){i:Nat}{y:β}(hy:m[i]? = some y):∃x,l[i]? = some x∧f x=y:=by
 rw[←h,List.getElem?_map] at hy;obtain⟨x,hx,e⟩:=Option.map_eq_some_iff.1 hy;exact⟨x,hx,e⟩
theorem zjg{s:Shp}{n:Nat}(h:s.bad n=false):s.least≤n:=by
 unfold Shp.bad at h;rw[Bool.or_eq_false_iff,Bool.or_eq_false_iff] at h;have:=of_decide_eq_false h.1.1;omega
structure zmf(c:Cm)(l:List ByteArray):Prop where
 le:l.length≤11
 sz:∀t∈l,t.size≤60
 ok:c.shp.bad l.length=false
 nums:z4w c.shp 0 l=true
theorem zdc{l:List ByteArray}(h:z3d l=0):∃c0 l' c,l=c0 :: l'∧znj c0=c.bs∧cmL l=some c∧zmf c l':=by
 unfold z3d at h;split at h
 ·exact absurd h (by assumption)
 ·rename_i hw;obtain⟨h1,h2,h3⟩:=z3l (by simpa using hw);rcases l with _|⟨c0,l'⟩
  ·simp at h1
  ·split at h
   ·cases h
   ·rename_i c hc;split at h
    ·cases h
    ·rename_i hb;split at h
     ·rename_i hn;refine⟨c0,l',c,rfl,zbq hc,hc,⟨by simp at h2;omega,fun t ht=>h3 t (.tail _ ht),?_,hn⟩⟩;have:(c0 :: l').length - 1=l'.length:=by simp
      rw[this] at hb;simpa using hb
     ·cases h
theorem zcw{s:Shp}{k:Nat}{l:List ByteArray}{t:ByteArray}(h:l[k]? = some t):z4w s k (l.drop k)=((!s.num k||isN t)&&z4w s (k+1) (l.drop (k+1))):=by
 have hk:=(List.getElem?_eq_some_iff.1 h).1;rw[List.drop_eq_getElem_cons hk,(List.getElem?_eq_some_iff.1 h).2];rfl
theorem zdi{l:List ByteArray}(h:z0v l≠0):z3d l=z0v l:=if_pos h
theorem zg1{l:List ByteArray}(h:z0v l=0)(hc:cmL l=none):z3d l=5:=by
 unfold z3d;rw[if_neg (by simpa using h),hc]
theorem zft{l:List ByteArray}{c:Cm}(h:z0v l=0)(hc:cmL l=some c):z3d l=if c.shp.bad (l.length - 1)=true then 1 else if z4w c.shp 0 (l.drop 1)=true then 0 else 3:=by
 unfold z3d;rw[if_neg (by simpa using h),hc]
def KnP(l:List ByteArray)(w:World)(e:Ending)(w':World):Prop:=e=.returned (.int .i64 (z3d l))∧Fr [] w w'
theorem zgv(l:List ByteArray)(A:Option Addr)(c B:Nat)(w:World)(hw:z0v l≠0)(hl:l.length≤281474976710656)(hB:B≤w.heap.size)(h:Sl w B 1 (.slice A l.length c) l.length (z04 l)):
  Calls prog 33 #[.slice A l.length c] w (KnP l w):=by
 have CK:=hid (z4k l A c B w hl hB h);unfold KnP;rw[zdi hw];have q1:(z0v l != 0)=true:=by simpa using hw
 clear h hw;generalize z0v l=code at *;go_enter Tryz.func33,Tryz.ntmps33;go_wp2_with fail;refine CK.out.mono ?_;rintro e1 w1 ⟨rfl,f1⟩;go_wp2;go_ret;exact⟨rfl,f1⟩
theorem zgf(l:List ByteArray)(A:Option Addr)(c B:Nat)(w:World)(hw:z0v l=0)(hc:cmL l=none)(hB:B≤w.heap.size)(h:Sl w B 1 (.slice A l.length c) l.length (z04 l)):
  Calls prog 33 #[.slice A l.length c] w (KnP l w):=by
 obtain⟨h1,h2,h3⟩:=z3l hw;have CK:=hid (z4k l A c B w (by omega) hB h);unfold KnP;rw[zg1 hw hc];rw[hw] at CK;rcases l with _|⟨c0,l'⟩
 ·simp at h1
 obtain⟨b,off,rfl,hb,hcc,hm,hat⟩:=h.at_ (by simp);have x0:=hat 0 _ rfl;rw[Nat.add_zero] at x0;have LW:=hid (fun W=>z81 c0 W (by have:=h3 c0 (.head _);omega));have OF:=hid (fun W=>zno (toB (znj c0)) W (fun cc=>by rw[z55];exact zhh hc cc));have ix0:(0:Int) < ((c0 :: l').length:Int):=by simp
 have hbw:b < w.heap.size:=by omega
 clear h hw hat h1 h2 h3 hc;generalize (c0 :: l').length=n at *;generalize toB (znj c0)=tl at *;go_enter Tryz.func33,Tryz.ntmps33;go_wp2_with fail;refine CK.out.mono ?_;rintro e1 w1 ⟨rfl,f1⟩;have x1:=f1.cell x0 (by simp);have F1:=hid f1;clear f1 x0;go_wp2_with fail;refine(LW.out _).mono ?_;rintro e2 w2 ⟨rfl,f2⟩;have F2:=hid (F1.out.trans f2);clear f2 x1;go_wp2_with fail;refine(OF.out _).mono ?_;rintro e3 w3 ⟨rfl,f3⟩;have F3:=hid (F2.out.trans f3);clear f3;go_wp2;go_ret;exact⟨rfl,F3.out.alloc _⟩
theorem zga(l:List ByteArray)(A:Option Addr)(c B:Nat)(cm:Cm)(w:World)(hw:z0v l=0)(hc:cmL l=some cm)(hv:Vars w)(hB:B≤w.heap.size)(h:Sl w B 1 (.slice A l.length c) l.length (z04 l)):
  Calls prog 33 #[.slice A l.length c] w (KnP l w):=by
 obtain⟨h1,h2,h3⟩:=z3l hw;have CK:=hid (z4k l A c B w (by omega) hB h);unfold KnP;have EK:=hid (zft hw hc);rw[hw] at CK;rcases l with _|⟨c0,l'⟩
 ·simp at h1
 obtain⟨b,off,rfl,hb,hcc,hm,hat⟩:=h.at_ (by simp);have x0:=hat 0 _ rfl;rw[Nat.add_zero] at x0
 have HAT:=hid (fun k t (hk:l'[k]? = some t)=>show w.cell? ⟨b,off+1+k,none⟩=some (.string t) from by
  have:=hat (k+1) (.string t) (by unfold z04;rw[List.map_cons,List.getElem?_cons_succ,List.getElem?_map,hk];rfl);rwa[show off+(k+1)=off+1+k from by omega] at this)
 have LW:=hid (fun W=>z81 c0 W (by have:=h3 c0 (.head _);omega));have OF:=hid (fun W=>zo4 cm W);have EL:znj c0=cm.bs:=zbq hc;rw[EL] at LW;have TI:=hid (fun W t (ht:t∈l') (hV:Vars W)=>ze4 t W hV (by have:=h3 t (.tail _ ht);omega));have HV:=hid hv;obtain⟨n,hn⟩:∃n,n=l'.length:=⟨_,rfl⟩;have hlen:(c0 :: l').length=n+1:=by simp[hn]
 have h12:n≤11:=by omega
 have HN:=hid hn;rw[hlen] at CK hcc EK;rw[hlen];have E1:n+1 - 1=n:=by omega
 rw[E1] at EK;have ED:(c0 :: l').drop 1=l':=rfl;rw[ED] at EK;generalize hkn:z3d (c0 :: l')=kn at *;have ix0:(0:Int) < ((n+1:Nat):Int):=by omega
 have hbw:b < w.heap.size:=by omega
 obtain⟨sh,hsh⟩:∃sh,sh=cm.shp:=⟨_,rfl⟩;rw[←hsh] at EK OF;unfold shpV at OF;have NM:=hid (fun i hi W=>zhd sh i hi W);unfold shpV at NM;have hst:=hid (fun k t (hk:l'[k]? = some t)=>zcw (s:=sh) hk);clear h hw hat h1 h2 h3 hc hsh hv hn hkn hlen E1 ED EL;unfold maxLen at hm;generalize toB cm.bs=tl at *;generalize hL:(sh.least:Int)=L at *;generalize hM:zfs sh.most=M at *;generalize hP:sh.pairs=P at *;generalize za6 sh.nums=NS at *
 have QB:=hid (show sh.bad n=(decide ((n:Int) < L)||(decide (0≤M)&&decide (M < (n:Int)))||(P&&decide (n % 2=0))) from by
  unfold Shp.bad;rw[hP,←hL,←hM];rcases sh.most with _|m
  ·simp[zfs]
  ·simp[zfs])
 clear hL hM hP;go_enter Tryz.func33,Tryz.ntmps33;go_wp2_with fail;refine CK.out.mono ?_;rintro e1 w1 ⟨rfl,f1⟩;have x1:=f1.cell x0 (by simp);have F1:=hid f1;clear f1 x0;go_wp2_with fail;refine(LW.out _).mono ?_;rintro e2 w2 ⟨rfl,f2⟩;have F2:=hid (F1.out.trans f2);clear f2 x1;go_wp2_with fail;refine(OF.out _).mono ?_;rintro e3 w3 ⟨rfl,f3⟩;have F3:=hid ((F2.out.trans f3).alloc (.cells #[.int .i64 L,.int .i64 M,.bool P,.string NS] 112));have W3:=hid (Whole.new w3 112 [.int .i64 L,.int .i64 M,.bool P,.string NS]);have hzz:=Nat.le_trans F2.out.size f3.size;clear f3
 have hpar:((n:Int) % 2==0)=decide (n % 2=0):=by
  rw[Bool.eq_iff_iff];simp;omega
 go_upto_region 8 with fail;go_cut [30] (fun sb wx=>sb=.bool (sh.bad n)∧wx=w3.alloc (.cells #[.int .i64 L,.int .i64 M,.bool P,.string NS] 112))
 case first=>
  rcases P with _|_
  all_goals
   obtain⟨y0,y1,y2,y3⟩:=four W3.out;go_wp2
  all_goals
   go_meet
   case rel=>
    refine⟨?_,rfl⟩;rw[QB.out];clear QB EK NM OF F3 W3 LW hst TI HAT
    try rw[decide_eq_false (show ¬0≤M by omega)]
    simp[*]
    try omega
 case rest=>
  obtain⟨rfl,rfl⟩:=hcut;generalize sh.bad n=bd at *;rcases bd with _|_
  ·have HE:=hid (show kn=if z4w sh 0 l'=true then 0 else 3 from by rw[EK.out];rfl);clear EK QB hpar OF CK LW;by_cases hc1:c=1
   ·have hn0:n=0:=by omega
    subst hn0;subst hc1;have hl0:l'=[]:=List.length_eq_zero_iff.1 HN.out.symm;have hk0:kn=0:=by rw[HE.out,hl0];rfl
    clear HE hl0;subst hk0;go_wp2;go_loopg [58] 0 (fun y i wr=>y=0∧i=.int .i64 0∧wr=w3.alloc (.cells #[.int .i64 L,.int .i64 M,.bool P,.string NS] 112))
    case atStart=>exact⟨rfl,rfl,rfl⟩
    case round=>
     obtain⟨rfl,rfl,rfl⟩:=hrel;go_wp2;go_ret;exact⟨rfl,F3.out⟩
   ·have sx3:¬(c:Int)=1:=by omega
    go_wp2;go_loopg [58] n (fun y i wr=>∃k:Nat,y=n - k∧k≤n∧i=.int .i64 k∧z4w sh 0 l'=z4w sh k (l'.drop k)∧Whole wr w3.heap.size 112 [.int .i64 L,.int .i64 M,.bool P,.string NS]∧Fr [] w wr)
    case atStart=>exact⟨0,rfl,Nat.zero_le _,rfl,by rw[List.drop_zero],W3.out,F3.out⟩
    case round=>
     obtain⟨k,rfl,hk,rfl,he,hq,hf⟩:=hrel;have EQ:=hid he;have Q:=hid hq;have F:=hid hf;clear he hq hf;by_cases hlt:k < n
     ·have hk2:k < l'.length:=by rw[←HN.out];exact hlt
      have EK:l'[k]? = some l'[k]:=List.getElem?_eq_getElem hk2;have xw:=F.out.cell (HAT.out k _ EK) (by simp);have ST:=hid (hst.out k _ EK);have TK:=hid (fun W hV=>TI.out W l'[k] (List.getElem_mem hk2) hV);have NK:=hid (fun W=>NM.out k (by omega) W);unfold isN at ST;unfold zcp at TK;clear EK hst TI NM HAT;generalize l'[k]=t at *;have k1:k < n - 0:=hlt;go_wp2_with fail;refine(TK.out _ (HV.out.fr F.out)).mono ?_;rintro e1 w4 ⟨v,rfl,-,-,f4⟩;have F4:=hid (F.out.trans f4);have Q4:=hid (Q.out.f0 f4);clear f4 xw TK;generalize (zcu t.data.toList).isSome=ib at *;obtain⟨y0,y1,y2,y3⟩:=four Q4.out;go_wp2_with fail;refine(NK.out _).mono ?_;rintro e2 w5 ⟨rfl,f5⟩;have F5:=hid (F4.out.trans f5);have Q5:=hid (Q4.out.f0 f5);clear f5 NK y0 y1 y2 y3;generalize sh.num k=nb at *;rcases nb with _|_ <;> rcases ib with _|_
      case true.false=>
       have hk3:kn=3:=by rw[HE.out,EQ.out,ST.out];rfl
       go_wp2;go_ret;exact⟨by rw[hk3];rfl,F5.out⟩
      all_goals
       have E2:=hid (show z4w sh 0 l'=z4w sh (k+1) (l'.drop (k+1)) from by rw[EQ.out,ST.out];rfl);go_wp2;go_roundg (n - (k+1))
       case measure=>omega
       case rel=>exact⟨k+1,rfl,by omega,by go_num,E2.out,Q5.out,F5.out⟩
     ·obtain rfl:k=n:=by omega
      have hk0:kn=0:=by
       rw[HE.out,EQ.out,HN.out,List.drop_length];rfl
      go_wp2;go_ret;exact⟨by rw[hk0];rfl,F.out⟩
  ·go_wp2;go_ret;refine⟨?_,F3.out⟩;rw[EK.out];rfl
theorem zi4(l:List ByteArray)(A:Option Addr)(c B:Nat)(w:World)(hl:l.length≤281474976710656)(hv:Vars w)(hB:B≤w.heap.size)(h:Sl w B 1 (.slice A l.length c) l.length (z04 l)):
  Calls prog 33 #[.slice A l.length c] w (KnP l w):=by
 by_cases hw:z0v l=0
 ·rcases hc:cmL l with _|cm
  ·exact zgf l A c B w hw hc hB h
  ·exact zga l A c B cm w hw hc hv hB h
 ·exact zgv l A c B w hw hl hB h
theorem z8v(s:List Ent)(now:Int)(key:ByteArray)(y:Itm)(til:Int)(chg nn:Bool)(e:Int){r:Rep}(h:r.kind≠2)(hk:(fin s now key y til chg nn e r).2.kind=2):(fin s now key y til chg nn e r).1=s:=by
 unfold fin at hk ⊢;split at hk
 ·rename_i he;rw[if_pos he];split at hk
  ·rename_i hc;rw[if_pos hc];split at hk
   ·exact absurd hk h
   ·rename_i hp;rw[if_neg hp]
  ·rename_i hc;rw[if_neg hc]
 ·rename_i he;rw[if_neg he];split <;> rfl
theorem zpj(n:Int):(z6i n).kind≠2:=by show(3:Int)≠2;decide
theorem zoh(t:ByteArray):(zh4 t).kind≠2:=by show(1:Int)≠2;decide
theorem zog(t:ByteArray):(ze6 t).kind≠2:=by show(4:Int)≠2;decide
theorem zop:zl5.kind≠2:=by show(5:Int)≠2;decide
theorem zpt(l:List ByteArray):(z7e l).kind≠2:=by show(6:Int)≠2;decide
theorem zn8(c:Cm)(s:List Ent)(now:Int)(l:List ByteArray)(hk:(doC c s now l).2.kind=2):(doC c s now l).1=s:=by
 have f1:=fun k y u a b e n (h:(fin s now k y u a b e (z6i n)).2.kind=2)=>z8v s now k y u a b e (zpj n) h;have f2:=fun k y u a b e n (h:(fin s now k y u a b e (zh4 n)).2.kind=2)=>z8v s now k y u a b e (zoh n) h;have f3:=fun k y u a b e n (h:(fin s now k y u a b e (ze6 n)).2.kind=2)=>z8v s now k y u a b e (zog n) h;have f4:=fun k y u a b e (h:(fin s now k y u a b e zl5).2.kind=2)=>z8v s now k y u a b e zop h;have f5:=fun k y u a b e n (h:(fin s now k y u a b e (z7e n)).2.kind=2)=>z8v s now k y u a b e (zpt n) h;cases c
 case get=>
  simp only[doC] at hk ⊢;by_cases h1:(z0q s now (wd l 1)).item.kind=0
  ·rw[if_pos h1] at hk ⊢;exact f4 _ _ _ _ _ _ hk
  ·rw[if_neg h1] at hk ⊢;exact f3 _ _ _ _ _ _ _ hk
 case del=>exact absurd hk (zpj _)
 case expire=>
  simp only[doC] at hk ⊢;by_cases h1:(z0q s now (wd l 1)).item.kind=0
  ·rw[if_pos h1]
  ·rw[if_neg h1] at hk ⊢;by_cases h2:wn l 2 < 1
   ·rw[if_pos h2] at hk ⊢;exact f1 _ _ _ _ _ _ _ hk
   ·rw[if_neg h2] at hk ⊢;exact f1 _ _ _ _ _ _ _ hk
 case persist=>
  simp only[doC] at hk ⊢;by_cases h1:(z0q s now (wd l 1)).item.kind=0∨(z0q s now (wd l 1)).til=0
  ·rw[if_pos h1]
  ·rw[if_neg h1] at hk ⊢;exact f1 _ _ _ _ _ _ _ hk
 all_goals
  simp only[doC] at hk ⊢
  try first
   | with_reducible exact f1 _ _ _ _ _ _ _ hk
   | with_reducible exact f2 _ _ _ _ _ _ _ hk
   | with_reducible exact f3 _ _ _ _ _ _ _ hk
   | with_reducible exact f5 _ _ _ _ _ _ _ hk
def zoc(s:List Ent)(now:Int)(l:List ByteArray)(w:World)(e:Ending)(w':World):Prop:=
 ∃u v,e=.returned (.tuple #[u,v])∧z1a w' w.heap.size u (doR s now l).1∧z4x w' w.heap.size v (doR s now l).2∧Fr [] w w'
theorem zey{s:List Ent}(ok:ze8 s):∀e∈s,e.item.list.length≤1000000∧e.item.pairs.length≤1000000∧e.item.scores.length≤1000000:=fun e he=>by
 have hm:=(z2c (ok.items e he)).many;unfold many at hm;omega
end Go.Proofs.YtmkhmejempcimaaGreatDoor
