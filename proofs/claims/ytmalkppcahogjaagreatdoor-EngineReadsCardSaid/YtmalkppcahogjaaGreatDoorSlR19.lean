/- Contracts; no condition but each theorem's own. -/
import Derived.Test.YtmalkppcahogjaaGreatDoorSlR18
import Derived.ChangeArms
import Derived.Deep.DeepLaidRun
import Derived.Deep.Slices
import Derived.Lib.LaidTab
import Derived.OpenShut
import Derived.ProofKit
import Derived.SizedLaws
import Derived.SliceStrings
import Derived.Stop.ErrReads
import Derived.Stop.LaidErr
import Derived.Test.YtmalkppcahogjaaGreatDoorRows
import Derived.WideShapes
set_option linter.unusedVariables false
set_option linter.unusedSimpArgs false
set_option maxHeartbeats 8000000
set_option maxRecDepth 100000
namespace Go.Proofs.YtmalkppcahogjaaGreatDoor
open Lib (hid)
open Go.Proofs.Tryz (prog)
open Go.RowKit
def zc0(l:List Rp1)(k:Nat):List UInt8:=42 :: (Lib.decDigits l.length++13 :: 10 :: (l.take k).flatMap z2g)
theorem zfc(l:List Rp1):zc0 l 0=42 :: (Lib.decDigits l.length++[13,10]):=rfl
theorem zf8{l:List Rp1}{k:Nat}{x:Rp1}(h:l[k]? = some x):zc0 l (k+1)=zc0 l k++z2g x:=by
 unfold zc0;rw[List.take_add_one,h];simp
theorem zrv(t:ByteArray)(n:Int)(l:List Rp1):zc0 l l.length=za0 ⟨6,t,n,l⟩:=by
 unfold zc0;rw[List.take_length];rfl
theorem zig{x:Rp1}(h:z7q x):(z2g x).length≤70:=by
 have hi:=(zcd (zf5 h)).2;have hw:=h.word;have hb:=h.bytes;unfold z2g;split
 ·rename_i hk;have:=(hw hk).1;simp;have e:x.text.data.size=x.text.size:=rfl;omega
 ·split
  ·simp;omega
  ·split
   ·simp;omega
   ·split
    ·rename_i hk;have:=hb hk;have:=zcy (show x.text.size < 100 by omega);simp;have e:x.text.data.size=x.text.size:=rfl;omega
    ·simp
theorem z9t{u:Nat}(h:u < 1000):(Lib.decDigits u).length≤9:=(zfq (by omega)).2
theorem zhd{l:List Rp1}(h:∀x∈l,z7q x)(hl:l.length≤300):∀k,(zc0 l k).length≤12+70 * k
 | 0=>by
  have:=z9t (show l.length < 1000 by omega);rw[zfc];simp only[List.length_cons,List.length_append,List.length_nil];omega
 | k+1=>by
  have ih:=zhd h hl k;rcases hk:l[k]? with _|s
  ·have:l.take (k+1)=l.take k:=by rw[List.take_add_one,hk];simp
   unfold zc0 at ih ⊢;rw[this];omega
  ·rw[zf8 hk,List.length_append];have:=zig (h s (List.mem_of_getElem? hk));omega
theorem znt(r:Rep)(v:Value)(w:World)(B:Nat)(hv:Tab w)(h0:z0d r=0)(hB:B≤w.heap.size)(h:zam w B v r):
  Calls prog 168 #[v] w fun e w'=>e=.returned (.string (toB (za0 r)))∧Fr [] w w':=by
 obtain⟨A,c,rfl⟩:=h.form;rcases zd8 h0 with⟨hk,h1,-⟩|⟨hk,ht,hn,hl3,hall⟩
 ·have e:za0 r=z2g r.one:=if_neg hk;rw[e];exact zah r.one A c w hv h1
 obtain⟨k,t,n,l⟩:=r;have hk:k=6:=hk;have ht:t=⟨#[]⟩:=ht;have hn:n=0:=hn;subst hk ht hn;have hl3:l.length≤300:=hl3;have HA:=hid (show ∀x∈l,z7q x from hall);have HV:=hid h;have HT:=hid hv;have F1:=hid ((Fr.refl [] w).alloc (.cells #[.int .i64 6,.string ⟨#[]⟩,.int .i64 0,.slice A l.length c] 27));have V1:=hid (Whole.new w 27 [.int .i64 6,.string ⟨#[]⟩,.int .i64 0,.slice A l.length c]);have IN:=hid (fun(W:World) (hW:Fr [] w W)=>zdg 0 W (hv.fr hW) (by omega));have IL:=hid (fun(W:World) (hW:Fr [] w W)=>zbh l.length W (hv.fr hW) (by omega));have EE:=hid (zrv ⟨#[]⟩ 0 l);have TLN:=hid (zhd HA.out hl3);have DZ:(toB (Lib.decDigits l.length)).size≤9:=by rw[z2q];exact z9t (by omega)
 have T0:=hid (show(⟨#[42]⟩++toB (Lib.decDigits l.length)++⟨#[13,10]⟩:ByteArray).data.toList=zc0 l 0 from by
  rw[zno,z30,zfc];rfl)
 have e1:(⟨#[42]⟩:ByteArray).size=1:=rfl;have e2:(⟨#[13,10]⟩:ByteArray).size=2:=rfl
 have S0:(⟨#[42]⟩++toB (Lib.decDigits l.length)++⟨#[13,10]⟩:ByteArray).size≤100:=by
  simp only[ByteArray.size_append,e1,e2];omega
 simp only at IN IL ⊢;clear h h0 hall hv;obtain⟨R,hR⟩:∃R,R=za0 ⟨6,⟨#[]⟩,0,l⟩:=⟨_,rfl⟩;have HR:=hid (show R≠[] from by rw[hR];exact fun h=>by cases h);rw[←hR] at EE ⊢;clear hR;generalize toB (Lib.decDigits l.length)=t0 at *;have ad1:∀W,(Op.stringOp .add ⟨#[42]⟩ t0).run prog W=.ok (.string (⟨#[42]⟩++t0)) W:=fun W=>run_string_add_sum W _ _ (by omega)
 have ad2:∀W,(Op.stringOp .add (⟨#[42]⟩++t0) ⟨#[13,10]⟩).run prog W=.ok (.string (⟨#[42]⟩++t0++⟨#[13,10]⟩)) W:=fun W=>run_string_add_sum W _ _ (by
  simp only[ByteArray.size_append,e1,e2];omega)
 clear e1 e2;go_enter Tryz.func168,Tryz.ntmps168;go_wp2_with fail;refine(IN.out _ F1.out).mono ?_;rintro e w1 ⟨rfl,f1⟩;have F2:=hid (F1.out.trans f1);have V2:=hid (V1.out.fr f1 (by simp));have B1:=hid (BW.start w1);have hh1:=V2.out.lt;obtain⟨c0,c1,c2,c3⟩:=four V2.out;clear f1 IN F1 V1;generalize (⟨(Lib.itoa 0).toArray⟩:ByteArray)=tz at *;go_wp2_with fail;refine(IL.out _ (F2.out.trans B1.out.f)).mono ?_;rintro e w2 ⟨rfl,f2⟩;have B2:=hid (B1.out.fr f2);clear f2 B1;have WR:=hid (B2.out.write (⟨#[42]⟩++t0++⟨#[13,10]⟩) (by simp only[List.length_nil];omega));generalize ⟨#[42]⟩++t0++⟨#[13,10]⟩=t1 at *;unfold WrP at WR;rw[List.nil_append,T0.out] at WR;go_wp2_with fail;refine WR.out.mono ?_;rintro e w3 ⟨rfl,b3⟩;have B3:=hid b3;have V3:=hid (V2.out.fr b3.f (by simp));clear b3 WR ad1 ad2 T0 B2 c0 c1 c2 c3 V2 IL;obtain⟨c0,c1,c2,c3⟩:=four V3.out;go_wp2;go_loopg [52] l.length (fun x i wr=>∃(k:Nat),x=l.length - k∧k≤l.length∧i=.int .i64 k∧BW w1 (zc0 l k) wr)
 case atStart=>exact⟨0,rfl,Nat.zero_le _,rfl,B3.out⟩
 case round=>
  obtain⟨k,rfl,hk,rfl,hb⟩:=hrel;have BB:=hid hb;clear hb B3 c0 c1 c2 c3;by_cases hlt:k < l.length
  ·obtain⟨b,off,rfl,hb,hc,hmx,hat⟩:=zam.at_ (r:=⟨6,⟨#[]⟩,0,l⟩) HV.out (show 0 < l.length by omega);obtain⟨x,hx⟩:∃x,l[k]? = some x:=⟨_,List.getElem?_eq_getElem hlt⟩;obtain⟨A1,n1,h4⟩:=hat k x hx;have hxr:=HA.out x (List.mem_of_getElem? hx);have P4:=hid (h4.fr (F2.out.trans BB.out.f) (by simp));obtain⟨x0,x1,x2,x3⟩:=P4.out;have hc:l.length≤c:=hc;unfold maxLen at hmx;have ST:=hid (zf8 hx);have TL:=TLN.out k;have OL:=zig hxr;have BA:=hid (BB.out.fr ((Fr.refl [] wr).alloc (.cells #[.int .i64 x.kind,.string x.text,.int .i64 x.n,.slice A1 x.sub n1] 27)));have RX:=hid (fun W (hW:BW w1 (zc0 l k) W)=>zah x A1 n1 W (HT.out.fr (F2.out.trans hW.f)) hxr);have tz1:(toB (z2g x)).size≤70:=by rw[z2q];exact OL
   have WR:=hid (fun W (hW:BW w1 (zc0 l k) W)=>hW.write (toB (z2g x)) (by omega));unfold WrP at WR;rw[z30,←ST.out] at WR;clear hat h4 hx hxr ST TL OL;generalize toB (z2g x)=tx at *;go_wp2_with fail;refine(RX.out _ BA.out).mono ?_;rintro e w4 ⟨rfl,f4⟩;have B4:=hid (BA.out.fr f4);clear f4;go_wp2_with fail;refine(WR.out _ B4.out).mono ?_;rintro e w5 ⟨rfl,b5⟩;have B5:=hid b5;clear b5 WR;go_wp2;go_roundg (l.length - (k+1))
   case measure=>omega
   case rel=>exact⟨k+1,rfl,by omega,by go_num,B5.out⟩
  ·obtain rfl:k=l.length:=by omega
   rw[EE.out] at BB;have SG:=hid (BB.out.string HR.out);go_wp2_with fail;refine SG.out.mono ?_;rintro e w4 ⟨rfl,f4⟩;go_wp2;go_ret;exact⟨rfl,F2.out.trans f4⟩
def EncP(r:Rep)(w:World)(e:Ending)(w':World):Prop:=e=.returned (.tuple #[.string (if z0d r=0 then toB (za0 r) else ⟨#[]⟩),.int .i64 (z0d r)])∧Fr [] w w'
theorem zl7(r:Rep)(v:Value)(w:World)(B:Nat)(hv:Tab w)(hs:r.Small)(hl:r.list.length≤281474976710656)(hB:B≤w.heap.size)(h:zam w B v r):
  Calls prog 112 #[v] w (EncP r w):=by
 obtain⟨A,c,rfl⟩:=h.form;have F1:=hid ((Fr.refl [] w).alloc (.cells #[.int .i64 r.kind,.string r.text,.int .i64 r.n,.slice A r.list.length c] 27));have V1:=hid (Whole.new w 27 [.int .i64 r.kind,.string r.text,.int .i64 r.n,.slice A r.list.length c]);have CK:=hid (z8b r _ _ B hs hl (Nat.le_trans hB F1.out.size) (h.fr F1.out hB (by simp)));unfold EncP;by_cases h0:z0d r=0
 ·have BY:=hid (fun(W:World) (hW:Fr [] w W)=>znt r _ W B (hv.fr hW) h0 (Nat.le_trans hB hW.size) (h.fr hW hB (by simp)));rw[h0] at CK ⊢;rw[if_pos rfl];clear h hs hv h0;generalize r.list.length=m at *;go_enter Tryz.func112,Tryz.ntmps112;go_wp2_with fail;refine CK.out.mono ?_;rintro e w1 ⟨rfl,f1⟩;have F2:=hid (F1.out.trans f1);have V2:=hid (V1.out.fr f1 (by simp));obtain⟨c0,c1,c2,c3⟩:=four V2.out;clear f1 CK;go_wp2_with fail;refine(BY.out _ F2.out).mono ?_;rintro e w2 ⟨rfl,f2⟩;go_wp2;go_ret2;exact⟨rfl,F2.out.trans f2⟩
 ·rw[if_neg h0];have q0:(z0d r != 0)=true:=by simpa using h0
  clear h hs hv h0;generalize r.list.length=m at *;generalize z0d r=code at *;go_enter Tryz.func112,Tryz.ntmps112;go_wp2_with fail;refine CK.out.mono ?_;rintro e w1 ⟨rfl,f1⟩;go_wp2;go_ret2;exact⟨rfl,F1.out.trans f1⟩
def q0j:List Rp1:=[⟨4,⟨#[97,13,10]⟩,0,0⟩,⟨5,⟨#[]⟩,0,0⟩,⟨3,⟨#[]⟩,-5,0⟩]
def ze2:Rep:=⟨6,⟨#[]⟩,0,q0j⟩
def q0y:ByteArray:=⟨#[42,51,13,10,36,51,13,10,97,13,10,13,10,36,45,49,13,10,58,45,53,13,10]⟩
theorem zgs:z0d ze2=0:=by decide
theorem zir:toB (za0 ze2)=q0y:=by
 have e3:Lib.decDigits 3=[51]:=by rw[Lib.decDigits,dif_pos (by decide)];rfl
 have e5:Lib.itoa (-5)=[45,53]:=by
  unfold Lib.itoa;rw[if_pos (by decide),show(-5:Int).natAbs=5 from rfl,Lib.decDigits,dif_pos (by decide)];rfl
 have o1:z2g ⟨4,⟨#[97,13,10]⟩,0,0⟩=[36,51,13,10,97,13,10,13,10]:=by
  show 36 :: (Lib.decDigits 3++_)=_;rw[e3];rfl
 have o2:z2g ⟨5,⟨#[]⟩,0,0⟩=[36,45,49,13,10]:=rfl
 have o3:z2g ⟨3,⟨#[]⟩,-5,0⟩=[58,45,53,13,10]:=by
  show 58 :: (Lib.itoa (-5)++_)=_;rw[e5];rfl
 have:za0 ze2=42 :: (Lib.decDigits 3++13 :: 10 :: (z2g ⟨4,⟨#[97,13,10]⟩,0,0⟩++(z2g ⟨5,⟨#[]⟩,0,0⟩++(z2g ⟨3,⟨#[]⟩,-5,0⟩++[])))):=rfl;rw[this,e3,o1,o2,o3];rfl
theorem zia:ze2.Small:=⟨⟨by decide,by decide,by decide,by decide⟩,fun x hx=>by
 simp only[ze2,q0j,List.mem_cons,List.not_mem_nil,or_false] at hx;rcases hx with rfl|rfl|rfl <;> exact⟨by decide,by decide,by decide,by decide⟩⟩
theorem zxx:∀x∈ze2.list,x.sub=0:=fun x hx=>by
 simp only[ze2,q0j,List.mem_cons,List.not_mem_nil,or_false] at hx;rcases hx with rfl|rfl|rfl <;> rfl
theorem ze7(w:World)(hv:Vars w)(hm:Mx w):Calls prog 35 #[] w fun e w'=>e=.returned (.bool true)∧Fr [] w w':=by
 have F0:=hid (((Fr.refl [] w).alloc (.cells #[.int .i64 4,.string ⟨#[97,13,10]⟩,.int .i64 0,.slice none 0 0,.int .i64 5,.string ⟨#[]⟩,.int .i64 0,.slice none 0 0,.int .i64 3,.string ⟨#[]⟩,.int .i64 (-5),.slice none 0 0] 27)).alloc (.cells #[.int .i64 6,.string ⟨#[]⟩,.int .i64 0,.slice (some ⟨w.heap.size,0,none⟩) 3 3] 27));have V0:=hid (z60 w (.cells #[.int .i64 4,.string ⟨#[97,13,10]⟩,.int .i64 0,.slice none 0 0,.int .i64 5,.string ⟨#[]⟩,.int .i64 0,.slice none 0 0,.int .i64 3,.string ⟨#[]⟩,.int .i64 (-5),.slice none 0 0] 27) 27 [.int .i64 6,.string ⟨#[]⟩,.int .i64 0,.slice (some ⟨w.heap.size,0,none⟩) 3 3]);have S0:=z0s (World.ownsRow_lit (base:=w.heap.size) (e:=27) (size:=4) w #[.int .i64 4,.string ⟨#[97,13,10]⟩,.int .i64 0,.slice none 0 0,.int .i64 5,.string ⟨#[]⟩,.int .i64 0,.slice none 0 0,.int .i64 3,.string ⟨#[]⟩,.int .i64 (-5),.slice none 0 0] 3 (Nat.le_refl _) (by decide) rfl)
 have R0:=hid (show zam (w.alloc (.cells #[.int .i64 4,.string ⟨#[97,13,10]⟩,.int .i64 0,.slice none 0 0,.int .i64 5,.string ⟨#[]⟩,.int .i64 0,.slice none 0 0,.int .i64 3,.string ⟨#[]⟩,.int .i64 (-5),.slice none 0 0] 27)) (w.alloc (.cells #[.int .i64 4,.string ⟨#[97,13,10]⟩,.int .i64 0,.slice none 0 0,.int .i64 5,.string ⟨#[]⟩,.int .i64 0,.slice none 0 0,.int .i64 3,.string ⟨#[]⟩,.int .i64 (-5),.slice none 0 0] 27)).heap.size (.agg #[.int .i64 6,.string ⟨#[]⟩,.int .i64 0,.slice (some ⟨w.heap.size,0,none⟩) 3 3]) ze2 from
  ⟨_,_,q0j.map fun x=>rp4 x none 0,rfl,⟨rfl,fun i x hx=>⟨rp4 x none 0,by rw[List.getElem?_map];rw[show q0j[i]? = some x from hx];rfl,none,0,rfl⟩⟩,S0⟩)
 have R1:=hid (R0.out.go ((Fr.refl [] _).alloc (.cells #[.int .i64 6,.string ⟨#[]⟩,.int .i64 0,.slice (some ⟨w.heap.size,0,none⟩) 3 3] 27)));have EN:=hid (zl7 ze2 _ _ _ (hv.fr F0.out).tab zia (by decide) (Nat.le_refl _) R1.out);have DE:=hid (fun W (hW:Fr [] w W)=>zjv q0y W (by decide) (hv.fr hW) (hm.fr hW (by simp)));have CK:=hid (fun W v (h:zam W W.heap.size v ze2)=>z8b ze2 v W _ zia (by decide) (Nat.le_refl _) h);have SM:=hid (fun W v u (h:zam W W.heap.size v ze2) (k:zam W W.heap.size u ze2)=>zuq ze2 v u W _ (by decide) zxx (Nat.le_refl _) h k);have AT:=ztl zgs;have ED:q0y.data.toList=za0 ze2:=by rw[←zir,z30]
 unfold EncP at EN;unfold zz9 at DE;rw[zgs,if_pos rfl,zir] at EN;rw[ED,AT.1,AT.2] at DE;rw[zgs] at CK;have qe:(q0y.toList==[42,51,13,10,36,51,13,10,97,13,10,13,10,36,45,49,13,10,58,45,53,13,10])=true:=by rw[ByteArray.toList_eq];rfl
 clear S0 AT ED R0;generalize q0y=s at *;go_enter Tryz.func35,Tryz.ntmps35;go_wp2_with fail;refine EN.out.mono ?_;rintro e w1 ⟨rfl,f1⟩;have F1:=hid (F0.out.trans f1);have V1:=hid (V0.out.fr f1 (by simp));have R2:=hid (R1.out.go f1);obtain⟨a0,a1,a2,a3⟩:=four V1.out;clear f1 R1 V0 EN;go_wp2_with fail;refine(DE.out _ F1.out).mono ?_;rintro e w2 ⟨v,rfl,o2,f2⟩;obtain⟨A,c,rfl⟩:=o2.form;have F2:=hid (F1.out.trans f2);have V2:=hid (V1.out.fr f2 (by simp));have R3:=hid (R2.out.go f2);have O2:=hid o2.v;have A3:=hid ((Fr.refl [] w2).alloc (.cells #[.int .i64 ze2.kind,.string ze2.text,.int .i64 ze2.n,.slice A ze2.list.length c] 27));have V3:=hid (V2.out.fr A3.out (by simp));have X3:=hid (Whole.new w2 27 [.int .i64 ze2.kind,.string ze2.text,.int .i64 ze2.n,.slice A ze2.list.length c]);clear a0 a1 a2 a3 f2 o2;have hl1:=V2.out.lt;obtain⟨a0,a1,a2,a3⟩:=four V2.out;go_wp2_with fail;refine(CK.out _ _ (R3.out.go A3.out)).mono ?_;rintro e w4 ⟨rfl,f4⟩;have V4:=hid (V3.out.fr f4 (by simp));have X4:=hid (X3.out.fr f4 (by simp));have G4:=hid (A3.out.trans f4);clear a0 a1 a2 a3 f4;obtain⟨a0,a1,a2,a3⟩:=four V4.out;obtain⟨x0,x1,x2,x3⟩:=four X4.out;go_wp2_with fail;refine(SM.out _ _ _ (O2.out.go G4.out) (R3.out.go G4.out)).mono ?_;rintro e w5 ⟨rfl,f5⟩;go_wp2;go_ret;exact⟨rfl,F2.out.trans (G4.out.trans f5)⟩
theorem zbf{x:Rp1}(h:z7q x):x.Small:=by
 have hk:=h.kind;refine⟨by omega,?_,?_,by have:=h.sub;omega⟩
 ·by_cases h1:x.kind=1
  ·have:=(h.word h1).1;omega
  ·by_cases h4:x.kind=4
   ·have:=h.bytes h4;omega
   ·rw[h.text h1 h4];decide
 ·by_cases h2:x.kind=2
  ·have:=h.err h2;omega
  ·by_cases h3:x.kind=3
   ·have:=z4f (h.int h3);omega
   ·rw[h.num h2 h3];decide
theorem zf2{r:Rep}(h:z0d r=0):r.Small∧r.list.length≤281474976710656:=by
 rcases zd8 h with⟨h6,h1,h2⟩|⟨h6,ht,hn,hl,hx⟩
 ·exact⟨⟨zbf h1,fun x hx=>by rw[h2] at hx;cases hx⟩,by rw[h2];simp⟩
 ·refine⟨⟨⟨?_,?_,?_,?_⟩,fun x hm=>zbf (hx x hm)⟩,by omega⟩
  ·show -9223372036854775808≤r.kind∧r.kind≤9223372036854775807;omega
  ·show r.text.size≤_;rw[ht];decide
  ·show -9223372036854775808≤r.n∧r.n≤9223372036854775807;omega
  ·show r.list.length≤_;omega
structure ReadI(l:List Ent)(now:Int)(m:List ByteArray)(a:List Ent)(r:Rep)(ec:Int):Prop where
 none:ec≠0→a=[]∧(r.kind==0)=true
 ok:ec=0→z1y a∧z1q a=0∧z0d r=0∧z1y l
 only:ec=0→z9o (m.getD 0 ⟨#[]⟩)=true→a=l
 fails:ec=0→r.kind=2→a=l
theorem readI{l:List Ent}{now:Int}{m:List ByteArray}:ReadI l now m (doS l now m) (doV l now m) (doE l now):=by
 refine⟨fun h=>?_,fun h=>?_,fun h hr=>?_,fun h hk=>?_⟩
 ·unfold doS doV;rw[if_neg h,if_neg h];exact⟨rfl,rfl⟩
 ·unfold doS doV;rw[if_pos h,if_pos h];have ok:=zq3 (l:=m) (zh1 h).1 (zh1 h).2;exact⟨ok,zjh ok,zsf (zh1 h).1 (zh1 h).2,(zh1 h).1⟩
 ·unfold doS;rw[if_pos h];exact zpf hr
 ·unfold doV at hk;rw[if_pos h] at hk;unfold doS;rw[if_pos h];exact zp0 hk
theorem zdy(l:List Ent)(A:Option Addr)(c:Nat)(now:Int)(m:List ByteArray)(A2:Option Addr)(c2:Nat)(w:World)(B:Nat)(hB:B≤w.heap.size)(h:z1l w B (.slice A l.length c) l)(hl:l.length≤281474976710656)(hs:∀e∈l,e.Small)(hm:m.length≤281474976710656)(h2:Sl w B 1 (.slice A2 m.length c2) m.length (z04 m))(hv:Vars w)(hx:Mx w):
  Calls prog 9 #[.slice A l.length c,.int .i64 now,.slice A2 m.length c2] w fun e w'=>e=.returned (.bool true)∧Fr [] w w':=by
 have S0:=hid (((LE.start hv).ents (h.more hB)).row (h2.more hB));have DX:=hid (fun W sv (h:z1l W W.heap.size sv l) (hv:Vars W) hL=>(show Calls prog 10 #[sv,.int .i64 now,.slice A2 m.length c2] W (DoQ (doS l now m) (doV l now m) (doE l now) W) from zil l sv now m A2 c2 W.heap.size W hs hl hm hv (Nat.le_refl _) h hL));have RB:=hid (fun W (hW:Fr [] w W)=>ze7 W (hv.fr hW) (hx.fr hW (by simp)));have RI:=hid (readI (l:=l) (now:=now) (m:=m));have HS:=hid hs;have HL:=hid hl;clear h h2 hs hv;generalize doS l now m=a at *;generalize doV l now m=r at *;generalize doE l now=ec at *;have HM:=hid hm;go_enter Tryz.func9,Tryz.ntmps9;have C0:=hid (zd1 _ S0.out.v);go_wp2_with fail;refine C0.out.mono ?_;rintro e w1 ⟨rfl,f1⟩;have S1:=hid (S0.out.go f1);clear f1 S0 C0;have C1:=hid (zeo w1);go_wp2_with fail;refine C1.out.mono ?_;rintro e w2 ⟨rfl,f2⟩;have S2:=hid (S1.out.go f2);clear f2 S1 C1;have C2:=hid (RB.out w2 S2.out.f);go_wp2_with fail;refine C2.out.mono ?_;rintro e w3 ⟨rfl,f3⟩;have S3:=hid (S2.out.go f3);clear f3 S2 C2 RB;have C3:=hid (DX.out _ _ (S3.out.es _ (.head _)) S3.out.v (S3.out.rs _ (.head _)));go_wp2_with fail;refine C3.out.mono ?_;rintro e w4 ⟨u4,v4,rfl,o4,r4,f4⟩;obtain⟨P,p,rfl⟩:=o4.form;obtain⟨R4,t4,rfl⟩:=r4.form;have S4:=hid ((((S3.out.go f4).ents o4.v).rep r4.v).box (.int .i64 r.kind) (.string r.text) (.int .i64 r.n) (.slice R4 r.list.length t4));clear o4 r4 f4 S3 C3 DX;obtain⟨y0,y1,y2,y3⟩:=four (S4.out.bl _ (.head _));by_cases he:ec=0
 rotate_left
 ·have q1:(ec != 0)=true:=by simpa using he
  obtain⟨rfl,q2⟩:=RI.out.none he;clear he RI;go_wp2;go_ret;exact⟨rfl,S4.out.f⟩
 subst he;have OK:=hid (RI.out.ok rfl);have C4:=hid (z4a a (.slice P a.length p) (w4.alloc (.cells #[.int .i64 r.kind,.string r.text,.int .i64 r.n,.slice R4 r.list.length t4] 27)) _ (z09 OK.out.1) (by have:=OK.out.1.le;omega) (Nat.le_refl _) (S4.out.es _ (.head _)));rw[OK.out.2.1] at C4;go_wp2_with fail;refine C4.out.mono ?_;rintro e w5 ⟨rfl,f5⟩;have S5:=hid (S4.out.go f5);clear f5 S4 C4 y0 y1 y2 y3;obtain⟨y0,y1,y2,y3⟩:=four (S5.out.bl _ (.head _));have C5:=hid (z8b r _ w5 _ (zf2 OK.out.2.2.1).1 (zf2 OK.out.2.2.1).2 (Nat.le_refl _) (S5.out.rp _ (.head _)));rw[OK.out.2.2.1] at C5;go_wp2_with fail;refine C5.out.mono ?_;rintro e w6 ⟨rfl,f6⟩;have S6:=hid (S5.out.go f6);clear f6 S5 C5 y0 y1 y2 y3;obtain⟨y0,y1,y2,y3⟩:=four (S6.out.bl _ (.head _));have SP:=hid (fun W v u (h:z1l W W.heap.size v l) (k:z1l W W.heap.size u l)=>zg1 l v u W _ HS.out HL.out (Nat.le_refl _) h k);rcases m with _|⟨c0,m'⟩
 ·by_cases hk:r.kind=2
  ·have q1:(r.kind != 2)=false:=by simp[hk]
   obtain rfl:=RI.out.fails rfl hk;have C6:=hid (SP.out _ _ _ (S6.out.es _ (.head _)) (S6.out.es _ (.tail _ (.head _))));clear hk;go_wp2_with fail;refine C6.out.mono ?_;rintro e w7 ⟨rfl,f7⟩;go_wp2;go_ret;exact⟨rfl,S6.out.f.trans f7⟩
  ·have q1:(r.kind != 2)=true:=by simpa using hk
   clear hk;go_wp2;go_ret;exact⟨rfl,S6.out.f⟩
 ·obtain⟨b,off,rfl,hb,hc,hmx,hat⟩:=(S6.out.rs _ (.head _)).at_ (by simp);have x0:=hat 0 _ rfl;rw[Nat.add_zero] at x0;clear hat;have ON:=hid (fun h=>RI.out.only rfl h);have RD:=hid (zsy c0 w6);have hget:(c0 :: m').getD 0 ⟨#[]⟩=c0:=rfl;rw[hget] at ON;clear hget;obtain⟨n,hn⟩:∃n,n=m'.length:=⟨_,rfl⟩;have hlen:(c0 :: m').length=n+1:=by simp[hn]
  have SX:=hid S6.out;clear S6;have HLN:=hid hlen;have ix0:(0:Int) < ((n+1:Nat):Int):=by omega
  unfold maxLen at hmx;rw[hlen];clear hm HM hn hlen;generalize z9o c0=rb at *;go_wp2_with fail;refine RD.out.mono ?_;rintro e w7 ⟨rfl,f7⟩;have S7:=hid (SX.out.go f7);have hz7:=f7.size;clear f7 SX x0 y0 y1 y2 y3;obtain⟨y0,y1,y2,y3⟩:=four (S7.out.bl _ (.head _));rcases rb with _|_
  ·by_cases hk:r.kind=2
   ·have q1:(r.kind != 2)=false:=by simp[hk]
    obtain rfl:=RI.out.fails rfl hk;have C6:=hid (SP.out _ _ _ (S7.out.es _ (.head _)) (S7.out.es _ (.tail _ (.head _))));clear hk;go_wp2_with fail;refine C6.out.mono ?_;rintro e w8 ⟨rfl,f8⟩;go_wp2;go_ret;exact⟨rfl,S7.out.f.trans f8⟩
   ·have q1:(r.kind != 2)=true:=by simpa using hk
    clear hk;go_wp2;go_ret;exact⟨rfl,S7.out.f⟩
  ·obtain rfl:=ON.out rfl;have C6:=hid (SP.out _ _ _ (S7.out.es _ (.head _)) (S7.out.es _ (.tail _ (.head _))));go_wp2_with fail;refine C6.out.mono ?_;rintro e w8 ⟨rfl,f8⟩;go_wp2;go_ret;exact⟨rfl,S7.out.f.trans f8⟩
end Go.Proofs.YtmalkppcahogjaaGreatDoor
namespace Go.Proofs.YtmalkppcahogjaaGreatDoor
open Lib (hid)
open Go.Proofs.Tryz (prog)
open Go.RowKit Go.ChangeShapes
abbrev zmj:List (String×DataW Unit):=Rows.coldTellsRow.laid
theorem star : "*" ++ "errors.errorString" = "*errors.errorString" := by decide
theorem zsb(u:TypeId)(h:prog.typeName? 3 u=some "*errors.errorString"):u=337:=
 typeName_ptr_named (nm := "errors.errorString") (by rw[star];kernel_rfl) (by kernel_rfl) (by decide) u (by rw[star];exact h)
theorem q0h{W:World}(h:laidMetH prog zmj W):Vars W:=by
 have h2:=laidMet.tail (laidMet.tail h);have h3:=laidMet.tail h2;have h4:=laidMet.tail h3;have t:=Lib.tabIs_of_head (P:=prog) (name := "internal/strconv.uint64pow10") (k:=.u64) (zs:=Lib.pow10Tab) (g:=3) (t:=341) (e:=311) (n:=20) (by kernel_rfl) (by kernel_rfl) (by kernel_rfl) (by kernel_rfl) (by kernel_rfl) (by kernel_rfl) h2;obtain⟨a1,s1,hv1,_⟩:=laid_sentinel h3 (g:=2) (ti:=169) (tp:=337) (te:=339) (ts:=9) (by kernel_rfl) (by kernel_rfl) Tryz.underlying169 zsb Tryz.underlying337 Tryz.underlying339 rfl rfl (by kernel_rfl) (by kernel_rfl) (by kernel_rfl);obtain⟨a2,s2,hv2,_⟩:=laid_sentinel h4 (g:=1) (ti:=169) (tp:=337) (te:=339) (ts:=9) (by kernel_rfl) (by kernel_rfl) Tryz.underlying169 zsb Tryz.underlying337 Tryz.underlying339 rfl rfl (by kernel_rfl) (by kernel_rfl) (by kernel_rfl);exact⟨t,⟨_,_,hv2⟩,⟨_,_,hv1⟩⟩
noncomputable def low:Nat:=(World.holding prog default ⟨#[],#[],[]⟩).heap.size
def put(h:Array Obj)(g:Nat)(cs:Array Value):Array Obj:=h.modify g fun
 | .cells _ t frozen=>.cells cs t frozen
 | o=>o
def tab32:List Int:=[0,1,28,2,29,14,24,3,30,22,20,15,25,17,4,8,31,27,13,23,21,19,16,7,26,12,18,6,11,5,10,9]
def tab64:List Int:=[0,1,56,2,57,49,28,3,61,58,42,50,38,29,17,4,62,47,59,36,45,43,51,22,53,39,33,30,24,18,12,5,63,55,48,27,60,41,37,16,46,35,44,21,52,32,23,11,54,26,40,15,34,20,31,10,25,14,19,9,13,8,7,6]
noncomputable def zdz(os:Os):World:=
 let w0:=World.holding prog os ⟨#[.cells #[.string ⟨#[118,97,108,117,101,32,111,117,116,32,111,102,32,114,97,110,103,101]⟩] 339,.cells #[.string ⟨#[105,110,118,97,108,105,100,32,115,121,110,116,97,120]⟩] 339],#[],[]⟩
 let h1:=put w0.heap 2 #[.iface 337 (.pointer (some ⟨low,0,none⟩))]
 let h2:=put h1 1 #[.iface 337 (.pointer (some ⟨low+1,0,none⟩))]
 let h3:=put h2 3 (Lib.pow10Tab.map fun z=>Value.int .u64 z).toArray
 let h4:=put h3 4 (tab32.map fun z=>Value.int .u8 z).toArray
 let h5:=put h4 5 (tab64.map fun z=>Value.int .u8 z).toArray
 { w0 with heap:=h5 }
theorem zve(os:Os)(args:Array Value):laidMet prog zmj ((zdz os).forCall (fun _ _=>0) ⟨#[],args,[]⟩).memory:=
 laidMet_of_run3 8 (by kernel_rfl) (by kernel_rfl) (by kernel_rfl)
end Go.Proofs.YtmalkppcahogjaaGreatDoor
namespace Go.Proofs.YtmalkppcahogjaaGreatDoor
open Lib (hid)
open Go.Proofs.Tryz (prog)
open Go.ChangeShapes Go.WideShapes Go.RowKit Go.Deep
section
variable {H:Type} {enc:TypeId×Value→H} {w:World}
theorem z9b{w:World}{a:Addr}{v:Value}(h:w.cell? a=some v):a=⟨a.block,a.off,none⟩∧a.block < w.heap.size:=by
 refine⟨?_,World.block_lt_of_cell? w a h⟩;unfold World.cell? at h;split at h
 ·cases a with
  | mk b o s=>
   cases s with
   | none=>rfl
   | some s=>simp at h
 ·cases h
theorem z6n(b o j:Nat):(⟨b,o,none⟩:Addr).add j=⟨b,o+j,none⟩:=by
 unfold Addr.add;split
 ·have e:j=0:=by assumption
  rw[e];rfl
 ·rfl
theorem zmq{α:Type}(P:Nat→α→Prop):∀n,(∀i,i < n→∃p,P i p)→∃l:List α,l.length=n∧∀(i:Nat) p,l[i]? = some p→P i p
 | 0,_=>⟨[],rfl,fun i p h=>by simp at h⟩
 | n+1,h=>by
  obtain⟨l,hl,hp⟩:=zmq P n (fun i hi=>h i (by omega));obtain⟨q,hq⟩:=h n (by omega);refine⟨l++[q],by simp[hl],fun i p hi=>?_⟩;rcases Nat.lt_or_ge i n with h1|h1
  ·rw[List.getElem?_append_left (by omega)] at hi;exact hp i p hi
  ·have e:i=n:=by have:=(List.getElem?_eq_some_iff.1 hi).1;simp at this;omega
   subst e;rw[List.getElem?_append_right (by omega),hl,Nat.sub_self] at hi;simp at hi;subst hi;exact hq
theorem zdu{P:Program}{e:TypeId}:∀ {l:List (DataW H)} {d:DataW H},d∈l→∀q∈d.weights P e,q∈DataW.weightsAll P e l
 | x :: l,d,hd,q,hq=>by
  simp only[DataW.weightsAll,List.mem_append];rcases List.mem_cons.1 hd with rfl|hd
  ·exact .inl hq
  ·exact .inr (zdu hd q hq)
theorem z4v{P:Program}{t e:TypeId}{els sp:List (DataW H)}(ht:P.underlying t=some (.slice e))(h:∀q∈(DataW.slice els sp).weights P t,q≤reachBytes):
  (els.length+sp.length) * P.bytesOf e≤reachBytes∧∀d∈els,∀q∈d.weights P e,q≤reachBytes:=by
 simp only[DataW.weights,ht] at h;refine⟨h _ (by simp),fun d hd q hq=>h q ?_⟩;rw[List.mem_cons,List.mem_append];exact .inr (.inl (zdu hd q hq))
theorem zcf{b o n size:Nat}{xs:List Value}{A:Option Addr}{c:Nat}(hA:0 < n→A=some ⟨b,o,none⟩)(hx:xs.length=n * size)(hc:n≤c)(hm:c≤maxLen)(hb:0 < n→b < w.heap.size)(hcell:∀j u,xs[j]? = some u→w.cell? ⟨b,o+j,none⟩=some u):Sl w w.heap.size size (.slice A n c) n xs:=
 ⟨A,c,rfl,hx,hc,hm,fun hn=>⟨b,o,hA hn,hb hn,hcell⟩⟩
theorem zp5:prog.bytesOf 9=16:=by kernel_rfl
theorem zr6:prog.bytesOf 108=32:=by kernel_rfl
theorem zop:prog.bytesOf 113=24:=by kernel_rfl
theorem z7i:prog.cellsOf 9=1:=by kernel_rfl
theorem zfs:prog.cellsOf 3=1:=by kernel_rfl
theorem zp6:prog.cellsOf 108=2:=by kernel_rfl
theorem zo5:prog.cellsOf 113=2:=by kernel_rfl
theorem zhn{fuel:Nat}{cs:List Value}{x:DataW H×List MemPlace}(h:DataW.trod enc prog w 0 (fun _=>true) true fuel 24 cs=some x)(hw:∀q∈x.1.weights prog 24,q≤reachBytes):
  ∃A c l,cs=[.slice A l.length c]∧Sl w w.heap.size 1 (.slice A l.length c) l.length (z04 l)∧l.length≤281474976710656∧∀s∈l,s.size≤281474976710656:=by
 rcases open_strings Tryz.underlying24 Tryz.underlying9 z7i h with⟨rfl,rfl⟩|⟨a,len,cap,ss,rfl,_,hl,hm,hz,rfl,hcell,_⟩
 ·exact⟨none,0,[],rfl,Sl.nil _ _ _,by simp,fun s hs=>by cases hs⟩
 ·obtain⟨h1,h2⟩:=z4v Tryz.underlying24 hw;simp only[if_true] at hz;have hlt:(ss.take len).length=len:=by rw[List.length_take];omega
  rw[zp5] at h1;simp only[strs,List.length_map] at h1;unfold reachBytes at h1;refine⟨some a,cap,ss.take len,by rw[hlt],?_,by omega,fun s hs=>?_⟩
  ·rw[hlt];rcases Nat.eq_zero_or_pos len with h0|h0
   ·subst h0;exact⟨_,_,rfl,by simp[z04],hl,hm,fun h=>absurd h (by omega)⟩
   ·have hc0:=hcell 0 (by omega);have e0:a.add 0=a:=rfl;rw[e0] at hc0;obtain⟨ha,hb⟩:=z9b hc0;refine zcf (b:=a.block) (o:=a.off) (fun _=>by rw[←ha]) (by rw[z74];omega) hl hm (fun _=>hb) (fun j u hu=>?_);have hj:j < len:=by have:=(List.getElem?_eq_some_iff.1 hu).1;rw[z74,hlt] at this;exact this
    have:=hcell j (by omega);rw[ha,z6n] at this;rw[this];unfold z04 at hu;rw[List.getElem?_map,List.getElem?_take_of_lt hj,List.getElem?_eq_getElem (by omega)] at hu;simp at hu;rw[List.getD_eq_getElem?_getD,List.getElem?_eq_getElem (by omega)];rw[←hu];rfl
  ·have:=h2 (.lit (.string s.data.toList)) (by unfold strs;exact List.mem_map.2 ⟨s,hs,rfl⟩) s.data.toList.length (by simp[DataW.weights]);unfold reachBytes at this;have e:s.data.toList.length=s.size:=by simp
   omega
theorem zez:∀(l:List (ByteArray×ByteArray)) (j:Nat) (u:Value),(z0f l)[j]? = some u→∃i p,l[i]? = some p∧((j=2 * i∧u=.string p.1)∨(j=2 * i+1∧u=.string p.2))
 | [],j,u,h=>by simp[z0f] at h
 | q :: l,0,u,h=>⟨0,q,rfl,.inl ⟨rfl,by simpa[z0f] using h.symm⟩⟩
 | q :: l,1,u,h=>⟨0,q,rfl,.inr ⟨rfl,by simpa[z0f] using h.symm⟩⟩
 | q :: l,j+2,u,h=>by
  obtain⟨i,p,hp,hh⟩:=zez l j u (by simpa[z0f] using h);rcases hh with⟨h1,h2⟩|⟨h1,h2⟩
  ·exact⟨i+1,p,by simpa using hp,.inl ⟨by omega,h2⟩⟩
  ·exact⟨i+1,p,by simpa using hp,.inr ⟨by omega,h2⟩⟩
theorem zdn:∀(l:List (Int×ByteArray)) (j:Nat) (u:Value),(z07 l)[j]? = some u→∃i p,l[i]? = some p∧((j=2 * i∧u=.int .i64 p.1)∨(j=2 * i+1∧u=.string p.2))
 | [],j,u,h=>by simp[z07] at h
 | q :: l,0,u,h=>⟨0,q,rfl,.inl ⟨rfl,by simpa[z07] using h.symm⟩⟩
 | q :: l,1,u,h=>⟨0,q,rfl,.inr ⟨rfl,by simpa[z07] using h.symm⟩⟩
 | q :: l,j+2,u,h=>by
  obtain⟨i,p,hp,hh⟩:=zdn l j u (by simpa[z07] using h);rcases hh with⟨h1,h2⟩|⟨h1,h2⟩
  ·exact⟨i+1,p,by simpa using hp,.inl ⟨by omega,h2⟩⟩
  ·exact⟨i+1,p,by simpa using hp,.inr ⟨by omega,h2⟩⟩
theorem zhe{a:Addr}{cs:List Value}(h:w.cells? 0 a 2=some cs):∃u v,cs=[u,v]∧w.cell? a=some u∧w.cell? (a.add 1)=some v:=by
 obtain⟨_,hl,hat⟩:=World.cells?_some h
 match cs,hl with
 | [u,v],_=>exact⟨u,v,rfl,hat 0 (by omega),hat 1 (by omega)⟩
theorem zst{fuel:Nat}{cs:List Value}{x:DataW H×List MemPlace}(h:DataW.trod enc prog w 0 (fun _=>true) true fuel 62 cs=some x)(hw:∀q∈x.1.weights prog 62,q≤reachBytes):
  ∃A c l,cs=[.slice A l.length c]∧Sl w w.heap.size 2 (.slice A l.length c) l.length (z0f l)∧l.length≤281474976710656∧∀p∈l,p.1.size≤281474976710656∧p.2.size≤281474976710656:=by
 rcases open_slice Tryz.underlying62 h with⟨rfl,rfl⟩|⟨a,len,cap,m,n,D,Pl,rfl,_,hl,hm,hmm,rfl,hi⟩
 ·exact⟨none,0,[],rfl,Sl.nil _ _ _,by simp,fun s hs=>by cases hs⟩
 ·obtain⟨h1,h2⟩:=z4v Tryz.underlying62 hw;simp only[if_true] at hmm;rw[zr6] at h1;simp only[List.length_map,List.length_range] at h1;unfold reachBytes at h1;rw[zp6] at hi
  have each:∀i,i < len→∃p:ByteArray×ByteArray,w.cell? (a.add (i * 2))=some (.string p.1)∧w.cell? ((a.add (i * 2)).add 1)=some (.string p.2)∧p.1.size≤281474976710656∧p.2.size≤281474976710656:=by
   intro i hlt;obtain⟨cs',hc,ht⟩:=hi i (by omega);obtain⟨u,v,rfl,hu,hv⟩:=zhe hc;obtain⟨ys,k,_,hy,_,hyl,hf⟩:=DataW.trod_struct Tryz.underlying108 ht;have f0:=hf 0 _ rfl;have f1:=hf 1 _ rfl;simp[z7i] at f0 f1
   match ys,hyl with
   | [y0,y1],_=>
    obtain⟨s,hs,rfl,_⟩:=DataW.trod_string Tryz.underlying9 f0;obtain⟨t,ht2,rfl,_⟩:=DataW.trod_string Tryz.underlying9 f1;simp at hs ht2;subst hs;subst ht2;simp only[Prod.mk.injEq] at hy;have hd:=h2 (D i) (List.mem_map.2 ⟨i,by simpa using hlt,rfl⟩);rw[hy.1] at hd;simp only[DataW.weights,Tryz.underlying108,List.map_cons,List.map_nil,DataW.weightsEach] at hd;refine⟨(s,t),hu,hv,?_,?_⟩
    ·have:=hd s.data.toList.length (by simp);unfold reachBytes at this;have e:s.data.toList.length=s.size:=by simp
     show s.size≤_;omega
    ·have:=hd t.data.toList.length (by simp);unfold reachBytes at this;have e:t.data.toList.length=t.size:=by simp
     show t.size≤_;omega
  obtain⟨l,hll,hp⟩:=zmq _ len each;subst hll;refine⟨some a,cap,l,rfl,?_,by omega,fun p hp2=>?_⟩
  ·rcases Nat.eq_zero_or_pos l.length with h0|h0
   ·exact⟨_,_,rfl,by rw[z6l];omega,hl,hm,fun h=>absurd h (by omega)⟩
   ·obtain⟨p0,hp0⟩:∃p,l[0]? = some p:=⟨_,List.getElem?_eq_getElem h0⟩;have hc0:=(hp 0 p0 hp0).1;have e0:a.add (0 * 2)=a:=rfl;rw[e0] at hc0;obtain⟨ha,hb⟩:=z9b hc0;refine zcf (b:=a.block) (o:=a.off) (fun _=>by rw[←ha]) (by rw[z6l];omega) hl hm (fun _=>hb) (fun j u hu=>?_);obtain⟨i,p,hip,hj⟩:=zez l j u hu;have hq:=hp i p hip;rw[ha,z6n,z6n] at hq;rcases hj with⟨rfl,rfl⟩|⟨rfl,rfl⟩
    ·have:=hq.1;rw[Nat.mul_comm] at this;exact this
    ·have:=hq.2.1;rw[Nat.add_assoc,Nat.mul_comm] at this;exact this
  ·obtain⟨i,hi2⟩:=List.getElem?_of_mem hp2;exact(hp i p hi2).2.2
theorem zn4{fuel:Nat}{cs:List Value}{x:DataW H×List MemPlace}(h:DataW.trod enc prog w 0 (fun _=>true) true fuel 63 cs=some x)(hw:∀q∈x.1.weights prog 63,q≤reachBytes):
  ∃A c l,cs=[.slice A l.length c]∧Sl w w.heap.size 2 (.slice A l.length c) l.length (z07 l)∧l.length≤281474976710656∧∀p∈l,(-9223372036854775808≤p.1∧p.1≤9223372036854775807)∧p.2.size≤281474976710656:=by
 rcases open_slice Tryz.underlying63 h with⟨rfl,rfl⟩|⟨a,len,cap,m,n,D,Pl,rfl,_,hl,hm,hmm,rfl,hi⟩
 ·exact⟨none,0,[],rfl,Sl.nil _ _ _,by simp,fun s hs=>by cases hs⟩
 ·obtain⟨h1,h2⟩:=z4v Tryz.underlying63 hw;simp only[if_true] at hmm;rw[zop] at h1;simp only[List.length_map,List.length_range] at h1;unfold reachBytes at h1;rw[zo5] at hi
  have each:∀i,i < len→∃p:Int×ByteArray,w.cell? (a.add (i * 2))=some (.int .i64 p.1)∧w.cell? ((a.add (i * 2)).add 1)=some (.string p.2)∧(-9223372036854775808≤p.1∧p.1≤9223372036854775807)∧p.2.size≤281474976710656:=by
   intro i hlt;obtain⟨cs',hc,ht⟩:=hi i (by omega);obtain⟨u,v,rfl,hu,hv⟩:=zhe hc;obtain⟨ys,k,_,hy,_,hyl,hf⟩:=DataW.trod_struct Tryz.underlying113 ht;have f0:=hf 0 _ rfl;have f1:=hf 1 _ rfl;simp[z7i,zfs] at f0 f1
   match ys,hyl with
   | [y0,y1],_=>
    obtain⟨s,hs,rfl,hwf⟩:=DataW.trod_int Tryz.underlying3 f0;obtain⟨t,ht2,rfl,_⟩:=DataW.trod_string Tryz.underlying9 f1;simp at hs ht2;subst hs;subst ht2;simp only[Prod.mk.injEq] at hy;have hd:=h2 (D i) (List.mem_map.2 ⟨i,by simpa using hlt,rfl⟩);rw[hy.1] at hd;simp only[DataW.weights,Tryz.underlying113,List.map_cons,List.map_nil,DataW.weightsEach] at hd;refine⟨(s,t),hu,hv,bounds_i64 hwf,?_⟩
    ·have:=hd t.data.toList.length (by simp);unfold reachBytes at this;have e:t.data.toList.length=t.size:=by simp
     show t.size≤_;omega
  obtain⟨l,hll,hp⟩:=zmq _ len each;subst hll;refine⟨some a,cap,l,rfl,?_,by omega,fun p hp2=>?_⟩
  ·rcases Nat.eq_zero_or_pos l.length with h0|h0
   ·exact⟨_,_,rfl,by rw[z5v];omega,hl,hm,fun h=>absurd h (by omega)⟩
   ·obtain⟨p0,hp0⟩:∃p,l[0]? = some p:=⟨_,List.getElem?_eq_getElem h0⟩;have hc0:=(hp 0 p0 hp0).1;have e0:a.add (0 * 2)=a:=rfl;rw[e0] at hc0;obtain⟨ha,hb⟩:=z9b hc0;refine zcf (b:=a.block) (o:=a.off) (fun _=>by rw[←ha]) (by rw[z5v];omega) hl hm (fun _=>hb) (fun j u hu=>?_);obtain⟨i,p,hip,hj⟩:=zdn l j u hu;have hq:=hp i p hip;rw[ha,z6n,z6n] at hq;rcases hj with⟨rfl,rfl⟩|⟨rfl,rfl⟩
    ·have:=hq.1;rw[Nat.mul_comm] at this;exact this
    ·have:=hq.2.1;rw[Nat.add_assoc,Nat.mul_comm] at this;exact this
  ·obtain⟨i,hi2⟩:=List.getElem?_of_mem hp2;exact(hp i p hi2).2.2
end
section
variable {H:Type} {enc:TypeId×Value→H} {w:World}
theorem znk{r:Reach}{b0:Nat}{v:Value}{d:DataW H}{p:List MemPlace}(hv:Value.okWide prog w r b0 24 v)(h:DataW.Trod enc prog w 0 (fun _=>true) true 24 v d p)
  (hw:∀q∈d.weights prog 24,q≤reachBytes):∃A c l,v=.slice A l.length c∧Sl w w.heap.size 1 (.slice A l.length c) l.length (z04 l)∧l.length≤281474976710656∧∀s∈l,s.size≤281474976710656:=by
 obtain⟨a,n,c,rfl⟩:=okWide_slice Tryz.underlying24 hv;obtain⟨fuel,hf⟩:=h;obtain⟨A,c',l,hl,s1,z1,q1⟩:=zhn (x:=(d,p)) hf hw;simp[Value.cells] at hl;obtain⟨rfl,rfl,rfl⟩:=hl;exact⟨_,_,l,rfl,s1,z1,q1⟩
end
theorem zq7:prog.cellsOf 65=5:=by kernel_rfl
section
variable {H:Type} {enc:TypeId×Value→H} {w:World}
theorem zqc{fuel:Nat}{l:List Value}{xd:DataW H×List MemPlace}(hsz:l.length=5)(hf:DataW.trod enc prog w 0 (fun _=>true) true fuel 65 l=some xd)
  (hw:∀q∈xd.1.weights prog 65,q≤reachBytes):∃x,z0r w w.heap.size (.agg l.toArray) x∧x.Small:=by
 match l,hsz with
 | [a0,a1,a2,a3,a4],_=>
  obtain⟨ys,k,_,hy,_,hyl,hg⟩:=DataW.trod_struct Tryz.underlying65 hf;have f0:=hg 0 _ rfl;have f1:=hg 1 _ rfl;have f2:=hg 2 _ rfl;have f3:=hg 3 _ rfl;have f4:=hg 4 _ rfl;have e1:prog.cellsOf 24=1:=by kernel_rfl
  have e2:prog.cellsOf 62=1:=by kernel_rfl
  have e3:prog.cellsOf 63=1:=by kernel_rfl
  simp[z7i,zfs,e1,e2,e3] at f0 f1 f2 f3 f4
  match ys,hyl with
  | [y0,y1,y2,y3,y4],_=>
   rw[hy] at hw;simp only[DataW.weights,Tryz.underlying65,List.map_cons,List.map_nil,DataW.weightsEach,List.append_nil,List.mem_append] at hw;obtain⟨n,hn,rfl,hwf⟩:=DataW.trod_int Tryz.underlying3 f0;obtain⟨t,ht,rfl,_⟩:=DataW.trod_string Tryz.underlying9 f1;obtain⟨A1,c1,l1,hl1,s1,z1,q1⟩:=zhn f2 (fun q hq=>hw q (by simp[hq]));obtain⟨A2,c2,l2,hl2,s2,z2,q2⟩:=zst f3 (fun q hq=>hw q (by simp[hq]));obtain⟨A3,c3,l3,hl3,s3,z3,q3⟩:=zn4 f4 (fun q hq=>hw q (by simp[hq]));simp[Value.cells] at hn ht hl1 hl2 hl3;subst hn;subst ht;subst hl1;subst hl2;subst hl3;refine⟨⟨n,t,l1,l2,l3⟩,⟨A1,c1,A2,c2,A3,c3,rfl,s1,s2,s3⟩,⟨bounds_i64 hwf,?_,z1,z2,z3,q1,q2,q3⟩⟩;have:=hw t.data.toList.length (by simp[DataW.weights]);unfold reachBytes at this;have e:t.data.toList.length=t.size:=by simp
   show t.size≤_;omega
end
theorem zin(n:Nat)(hn:0 < n):∀(rs:List (List Value)) (j:Nat) (u:Value),(∀c∈rs,c.length=n)→rs.flatten[j]? = some u→∃(i k:Nat) (cs:List Value),rs[i]? = some cs∧k < n∧j=i * n+k∧cs[k]? = some u
 | [],j,u,_,h=>by simp at h
 | r :: rs,j,u,hl,h=>by
  have hr:=hl r (by simp);rw[List.flatten_cons] at h;rcases Nat.lt_or_ge j n with hj|hj
  ·rw[List.getElem?_append_left (by omega)] at h;exact⟨0,j,r,rfl,hj,by omega,h⟩
  ·rw[List.getElem?_append_right (by omega),hr] at h;obtain⟨i,k,cs,h1,h2,h3,h4⟩:=zin n hn rs (j - n) u (fun c hc=>hl c (by simp[hc])) h;exact⟨i+1,k,cs,by simpa using h1,h2,by rw[Nat.succ_mul];omega,h4⟩
theorem zv7:prog.bytesOf 81=120:=by kernel_rfl
theorem ztt:prog.cellsOf 81=7:=by kernel_rfl
section
variable {H:Type} {enc:TypeId×Value→H} {w:World}
theorem zuh{fuel:Nat}{l:List Value}{xd:DataW H×List MemPlace}(hsz:l.length=7)(hf:DataW.trod enc prog w 0 (fun _=>true) true fuel 81 l=some xd)
  (hw:∀q∈xd.1.weights prog 81,q≤reachBytes):∃x,zgk w w.heap.size l x∧x.Small:=by
 match l,hsz with
 | [a0,a1,a2,a3,a4,a5,a6],_=>
  obtain⟨ys,k,_,hy,_,hyl,hg⟩:=DataW.trod_struct Tryz.underlying81 hf;have f0:=hg 0 _ rfl;have f1:=hg 1 _ rfl;have f2:=hg 2 _ rfl;simp[z7i,zfs,zq7] at f0 f1 f2
  match ys,hyl with
  | [y0,y1,y2],_=>
   rw[hy] at hw;simp only[DataW.weights,Tryz.underlying81,List.map_cons,List.map_nil,DataW.weightsEach,List.append_nil,List.mem_append] at hw;obtain⟨t,ht,rfl,_⟩:=DataW.trod_string Tryz.underlying9 f0;obtain⟨x,hx,hxs⟩:=zqc rfl f1 (fun q hq=>hw q (by simp[hq]));obtain⟨n,hn,rfl,hwf⟩:=DataW.trod_int Tryz.underlying3 f2;simp[Value.cells] at hn ht;subst hn;subst ht;obtain⟨A1,c1,A2,c2,A3,c3,hv,s1,s2,s3⟩:=hx;simp at hv;obtain⟨rfl,rfl,rfl,rfl,rfl⟩:=hv;refine⟨⟨t,x,n⟩,⟨A1,c1,A2,c2,A3,c3,rfl,s1,s2,s3⟩,⟨?_,hxs,bounds_i64 hwf⟩⟩;have:=hw t.data.toList.length (by simp[DataW.weights]);unfold reachBytes at this;have e:t.data.toList.length=t.size:=by simp
   show t.size≤_;omega
theorem zqg{r:Reach}{b0:Nat}{v:Value}{d:DataW H}{p:List MemPlace}(hv:Value.okWide prog w r b0 23 v)(h:DataW.Trod enc prog w 0 (fun _=>true) true 23 v d p)
  (hw:∀q∈d.weights prog 23,q≤reachBytes):∃A c l,v=.slice A l.length c∧z1l w w.heap.size (.slice A l.length c) l∧l.length≤281474976710656∧∀x∈l,x.Small:=by
 obtain⟨aV,nV,cV,rfl⟩:=okWide_slice Tryz.underlying23 hv;obtain⟨fuel,hf⟩:=h;rcases open_slice Tryz.underlying23 hf with⟨hc,hd⟩|⟨a,len,cap,m,n,D,Pl,hc,_,hl,hm,hmm,hx,hi⟩
 ·simp[Value.cells] at hc;obtain⟨rfl,rfl,rfl⟩:=hc;exact⟨none,0,[],rfl,z1l.nil _ _,by simp,fun x hx=>by cases hx⟩
 ·simp[Value.cells] at hc;obtain⟨rfl,rfl,rfl⟩:=hc;simp only[Prod.mk.injEq] at hx;obtain⟨hdx,hpx⟩:=hx;rw[hdx] at hw;obtain⟨h1,h2⟩:=z4v Tryz.underlying23 hw;simp only[if_true] at hmm;rw[zv7] at h1;simp only[List.length_map,List.length_range] at h1;unfold reachBytes at h1;rw[ztt] at hi
  have each:∀i,i < nV→∃q:List Value×Ent,q.1.length=7∧(∀j u,q.1[j]? = some u→w.cell? ((a.add (i * 7)).add j)=some u)∧zgk w w.heap.size q.1 q.2∧q.2.Small:=by
   intro i hlt;obtain⟨cs',hc,ht⟩:=hi i (by omega);obtain⟨_,hl5,hat⟩:=World.cells?_some hc;have hd:=h2 (D i) (List.mem_map.2 ⟨i,by simpa using hlt,rfl⟩);obtain⟨x,hx,hs⟩:=zuh hl5 ht hd;refine⟨(cs',x),hl5,fun j u hu=>?_,hx,hs⟩;have hj:j < cs'.length:=(List.getElem?_eq_some_iff.1 hu).1;have:=hat j (by omega);rw[this];exact hu
  obtain⟨l,hll,hp⟩:=zmq _ nV each;subst hll
  have all5:∀c∈l.map (·.1),c.length=7:=fun c hc=>by
   obtain⟨q,hq,rfl⟩:=List.mem_map.1 hc;obtain⟨i,hi⟩:=List.getElem?_of_mem hq;exact(hp i q hi).1
  refine⟨some a,cV,l.map (·.2),by rw[List.length_map],⟨_,_,l.map (·.1),rfl,by simp,fun i x hx=>?_,?_⟩,by rw[List.length_map];omega,fun x hx=>?_⟩
  ·rw[List.getElem?_map] at hx;obtain⟨q,hq,rfl⟩:=Option.map_eq_some_iff.1 hx;exact⟨q.1,by rw[List.getElem?_map,hq];rfl,(hp i q hq).2.2.1⟩
  ·rw[List.length_map];rcases Nat.eq_zero_or_pos l.length with h0|h0
   ·exact⟨_,_,rfl,by rw[zcj 7 _ all5,List.length_map],hl,hm,fun h=>absurd h (by omega)⟩
   ·obtain⟨q0,hq0⟩:∃p,l[0]? = some p:=⟨_,List.getElem?_eq_getElem h0⟩;have hs0:=hp 0 q0 hq0;obtain⟨u0,hu0⟩:∃u,q0.1[0]? = some u:=⟨_,List.getElem?_eq_getElem (by rw[hs0.1];decide)⟩;have hc0:=hs0.2.1 0 u0 hu0;have e0:(a.add (0 * 7)).add 0=a:=rfl;rw[e0] at hc0;obtain⟨ha,hb⟩:=z9b hc0;refine zcf (b:=a.block) (o:=a.off) (fun _=>by rw[←ha]) (by rw[zcj 7 _ all5,List.length_map]) hl hm (fun _=>hb) (fun j u hu=>?_);obtain⟨i,k,cs,h3,h4,rfl,h6⟩:=zin 7 (by decide) _ j u all5 hu;rw[List.getElem?_map] at h3;obtain⟨q,hq,rfl⟩:=Option.map_eq_some_iff.1 h3;have:=(hp i q hq).2.1 k u h6;rw[ha,z6n,z6n,Nat.add_assoc] at this;exact this
  ·obtain⟨q,hq,rfl⟩:=List.mem_map.1 hx;obtain⟨i,hi⟩:=List.getElem?_of_mem hq;exact(hp i q hi).2.2.2
end
end Go.Proofs.YtmalkppcahogjaaGreatDoor
