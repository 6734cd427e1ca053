/- Contracts; no condition but each theorem's own. -/
import Derived.Test.YtmkhmejempcimaaGreatDoorSlU15
import Derived.Lib.RowBridge
import Derived.Lib.SlicesCompact
import Derived.Maps.RangeWalk
import Derived.Sort.OwnSorted
import Derived.Sort.Walk0
set_option linter.unusedVariables false
set_option linter.unusedSimpArgs false
set_option maxHeartbeats 8000000
set_option maxRecDepth 100000
namespace Go.Proofs.YtmkhmejempcimaaGreatDoor
open Lib (hid)
open Go.Proofs.Tryz (prog)
open Go.ChangeShapes Go.WideShapes Go.RowKit Go.Deep
theorem zlm:prog.bytesOf 50=144:=by kernel_rfl
theorem zk6:prog.cellsOf 50=10:=by kernel_rfl
theorem zhc:prog.cellsOf 22=1:=by kernel_rfl
theorem zl6:prog.cellsOf 23=1:=by kernel_rfl
theorem zns:prog.cellsOf 48=2:=by kernel_rfl
theorem zo5:prog.cellsOf 4=1:=by kernel_rfl
theorem zky:prog.cellsOf 25=2:=by kernel_rfl
section
variable {H:Type} {enc:TypeId×Value→H} {w:World}
theorem zpo{fuel:Nat}{l:List Value}{xd:DataW H×List MemPlace}(hf:DataW.trod enc prog w 0 (fun _=>true) true fuel 48 l=some xd)(hsz:l.length=2):
  ∃a b:Int,l=[.int .i64 a,.int .i64 b]∧(-9223372036854775808≤a∧a≤9223372036854775807)∧(-9223372036854775808≤b∧b≤9223372036854775807):=by
 match l,hsz with
 | [a0,a1],_=>
  obtain⟨ys,k,_,hy,_,hyl,hg⟩:=DataW.trod_struct Tryz.underlying48 hf;have f0:=hg 0 _ rfl;have f1:=hg 1 _ rfl;simp[z7o] at f0 f1
  match ys,hyl with
  | [y0,y1],_=>
   obtain⟨n,hn,-,hwf⟩:=DataW.trod_int Tryz.underlying3 f0;obtain⟨m,hm,-,hwf2⟩:=DataW.trod_int Tryz.underlying3 f1;simp[Value.cells] at hn hm;subst hn;subst hm;exact⟨n,m,rfl,bounds_i64 hwf,bounds_i64 hwf2⟩
theorem zo9{fuel:Nat}{l:List Value}{xd:DataW H×List MemPlace}(hsz:l.length=10)(hf:DataW.trod enc prog w 0 (fun _=>true) true fuel 50 l=some xd)
  (hw:∀q∈xd.1.weights prog 50,q≤reachBytes):∃x,zar w w.heap.size l x∧x.Small:=by
 match l,hsz with
 | [a0,a1,a2,a3,a4,a5,a6,a7,a8,a9],_=>
  obtain⟨ys,k,_,hy,_,hyl,hg⟩:=DataW.trod_struct Tryz.underlying50 hf;have f0:=hg 0 _ rfl;have f1:=hg 1 _ rfl;have f2:=hg 2 _ rfl;have f3:=hg 3 _ rfl;have f4:=hg 4 _ rfl;simp[z4y,z7o,zj3,zns,zo5] at f0 f1 f2 f3 f4
  match ys,hyl with
  | [y0,y1,y2,y3,y4],_=>
   rw[hy] at hw;simp only[DataW.weights,Tryz.underlying50,List.map_cons,List.map_nil,DataW.weightsEach,List.append_nil,List.mem_append] at hw;obtain⟨t,ht,rfl,_⟩:=DataW.trod_string Tryz.underlying9 f0;obtain⟨bo,hbo,rfl⟩:=DataW.trod_bool Tryz.underlying4 f1;obtain⟨x,hx,hxs⟩:=zic rfl f2 (fun q hq=>hw q (by simp[hq]));obtain⟨pa,pb,hpl,ba,bb⟩:=zpo f3 rfl;obtain⟨n,hn,rfl,hwf⟩:=DataW.trod_int Tryz.underlying3 f4;simp[Value.cells] at hn ht hbo hpl;subst hn;subst ht;subst hbo;obtain⟨rfl,rfl⟩:=hpl;obtain⟨A1,c1,A2,c2,A3,c3,hv,s1,s2,s3⟩:=hx;simp at hv;obtain⟨rfl,rfl,rfl,rfl,rfl⟩:=hv;refine⟨⟨t,bo,x,pa,pb,n⟩,⟨A1,c1,A2,c2,A3,c3,rfl,s1,s2,s3⟩,⟨?_,hxs,ba,bb,bounds_i64 hwf⟩⟩;have:=hw t.data.toList.length (by simp[DataW.weights]);unfold reachBytes at this;have e:t.data.toList.length=t.size:=by simp
   show t.size≤_;omega
theorem zlo{fuel:Nat}{cs:List Value}{x:DataW H×List MemPlace}(h:DataW.trod enc prog w 0 (fun _=>true) true fuel 22 cs=some x)(hw:∀q∈x.1.weights prog 22,q≤reachBytes):
  ∃v l,cs=[v]∧z3f w w.heap.size v l∧l.length≤281474976710656∧∀x∈l,x.Small:=by
 rcases open_slice Tryz.underlying22 h with⟨hc,hd⟩|⟨a,len,cap,m,n,D,Pl,hc,_,hl,hm,hmm,hx,hi⟩
 ·exact⟨.slice none 0 0,[],hc,z3f.nil _ _,by simp,fun x hx=>by cases hx⟩
 ·rw[hx] at hw;obtain⟨h1,h2⟩:=z2a Tryz.underlying22 hw;simp only[if_true] at hmm;rw[zlm] at h1;simp only[List.length_map,List.length_range] at h1;unfold reachBytes at h1;rw[zk6] at hi
  have each:∀i,i < len→∃q:List Value×Slt,q.1.length=10∧(∀j u,q.1[j]? = some u→w.cell? ((a.add (i * 10)).add j)=some u)∧zar w w.heap.size q.1 q.2∧q.2.Small:=by
   intro i hlt;obtain⟨cs',hc,ht⟩:=hi i (by omega);obtain⟨_,hl5,hat⟩:=World.cells?_some hc;have hd:=h2 (D i) (List.mem_map.2 ⟨i,by simpa using hlt,rfl⟩);obtain⟨x,hx,hs⟩:=zo9 hl5 ht hd;refine⟨(cs',x),hl5,fun j u hu=>?_,hx,hs⟩;have hj:j < cs'.length:=(List.getElem?_eq_some_iff.1 hu).1;have:=hat j (by omega);rw[this];exact hu
  obtain⟨l,hll,hp⟩:=zcc _ len each;subst hll
  have all4:∀c∈l.map (·.1),c.length=10:=fun c hc=>by
   obtain⟨q,hq,rfl⟩:=List.mem_map.1 hc;obtain⟨i,hi⟩:=List.getElem?_of_mem hq;exact(hp i q hi).1
  refine⟨.slice (some a) l.length cap,l.map (·.2),hc,⟨some a,cap,l.map (·.1),by rw[List.length_map],by simp,fun i x hx=>?_,?_⟩,by rw[List.length_map];omega,fun x hx=>?_⟩
  ·rw[List.getElem?_map] at hx;obtain⟨q,hq,rfl⟩:=Option.map_eq_some_iff.1 hx;exact⟨q.1,by rw[List.getElem?_map,hq];rfl,(hp i q hq).2.2.1⟩
  ·rw[List.length_map];rcases Nat.eq_zero_or_pos l.length with h0|h0
   ·exact⟨_,_,rfl,by rw[z8j 10 _ all4,List.length_map],hl,hm,fun h=>absurd h (by omega)⟩
   ·obtain⟨q0,hq0⟩:∃p,l[0]? = some p:=⟨_,List.getElem?_eq_getElem h0⟩;have hs0:=hp 0 q0 hq0;obtain⟨u0,hu0⟩:∃u,q0.1[0]? = some u:=⟨_,List.getElem?_eq_getElem (by rw[hs0.1];decide)⟩;have hc0:=hs0.2.1 0 u0 hu0;have e0:(a.add (0 * 10)).add 0=a:=rfl;rw[e0] at hc0;obtain⟨ha,hb⟩:=z4v hc0;refine z67 (b:=a.block) (o:=a.off) (fun _=>by rw[←ha]) (by rw[z8j 10 _ all4,List.length_map]) hl hm (fun _=>hb) (fun j u hu=>?_);obtain⟨i,k,cs,h3,h4,rfl,h6⟩:=zav 10 (by decide) _ j u all4 hu;rw[List.getElem?_map] at h3;obtain⟨q,hq,rfl⟩:=Option.map_eq_some_iff.1 h3;have:=(hp i q hq).2.1 k u h6;rw[ha,z3k,z3k,Nat.add_assoc] at this;exact this
  ·obtain⟨q,hq,rfl⟩:=List.mem_map.1 hx;obtain⟨i,hi⟩:=List.getElem?_of_mem hq;exact(hp i q hi).2.2.2
theorem zat{r:Reach}{b0:Nat}{v:Value}{d:DataW H}{p:List MemPlace}(hv:Value.okWide prog w r b0 25 v)(h:DataW.Trod enc prog w 0 (fun _=>true) true 25 v d p)
  (hw:∀q∈d.weights prog 25,q≤reachBytes):∃x,z2h w w.heap.size v x∧x.Small:=by
 obtain⟨cs,rfl,hsz⟩:=okWide_struct Tryz.underlying25 hv;obtain⟨l⟩:=cs
 match l,hsz.trans zky with
 | [a0,a1],_=>
  obtain⟨fuel,hf⟩:=h;obtain⟨ys,k,_,hy,_,hyl,hg⟩:=DataW.trod_struct Tryz.underlying25 hf;have f0:=hg 0 _ rfl;have f1:=hg 1 _ rfl;simp[zhc,zl6] at f0 f1
  match ys,hyl with
  | [y0,y1],_=>
   simp only[Prod.mk.injEq] at hy;rw[hy.1] at hw;simp only[DataW.weights,Tryz.underlying25,List.map_cons,List.map_nil,DataW.weightsEach,List.append_nil,List.mem_append] at hw;obtain⟨v1,l1,h1,s1,z1,q1⟩:=zlo f0 (fun q hq=>hw q (by simp[hq]));obtain⟨A,c,l2,h2,s2,z2,q2⟩:=zma f1 (fun q hq=>hw q (by simp[hq]));simp[Value.cells] at h1 h2;subst h1;subst h2;exact⟨⟨l1,l2⟩,⟨_,_,rfl,s1,s2⟩,⟨q1,z1,q2,by show l2.length≤_;omega⟩⟩
end
end Go.Proofs.YtmkhmejempcimaaGreatDoor
namespace Go.Proofs.YtmkhmejempcimaaGreatDoor
open Lib (hid)
open Go.Proofs.Tryz (prog)
open Go.RowKit
def zo3(s:ByteArray):Itm:=⟨1,s,[],[],[]⟩
def zj9(x:Itm)(s:ByteArray):Int:=if z0a 1 x≠0 then z0a 1 x else if 60 < x.text.size+s.size then 2 else 0
def apY(x:Itm)(s:ByteArray):Itm:=if zj9 x s=0 then zo3 (x.text++s) else z2l 0
def apN(x:Itm)(s:ByteArray):Int:=if zj9 x s=0 then ((x.text.size+s.size:Nat):Int) else 0
def lnN(x:Itm):Int:=if z0a 1 x=0 then (x.text.size:Int) else 0
def rgS(x:Itm)(f t:Int):ByteArray:=if z0a 1 x=0 then x.text.extract (zpu x.text.size f t) (zp0 x.text.size f t) else ⟨#[]⟩
def kindI(k:Int)(l:List ByteArray):Itm:=⟨k,⟨#[]⟩,l,[],[]⟩
def ofK(k:Int)(l:List ByteArray):Itm:=if l.length=0 then z2l 0 else kindI k l
end Go.Proofs.YtmkhmejempcimaaGreatDoor
namespace Go.Proofs.YtmkhmejempcimaaGreatDoor
open Lib (hid)
open Go.Proofs.Tryz (prog)
def unB(l:List UInt8):ByteArray:=⟨l.toArray⟩
def datas(l:List ByteArray):List (List UInt8):=l.map (·.data.toList)
def sortB(l:List ByteArray):List ByteArray:=((datas l).mergeSort fun x y=>decide (x≤y)).map unB
def compB(l:List ByteArray):List ByteArray:=(Lib.compact (datas l)).map unB
def setU(l:List ByteArray):List ByteArray:=compB (sortB l)
end Go.Proofs.YtmkhmejempcimaaGreatDoor
namespace Go.Proofs.YtmkhmejempcimaaGreatDoor
open Lib (hid)
open Go.Proofs.Tryz (prog)
open Go.RowKit
attribute [local go_sem] z0p
theorem zfu(l:List ByteArray)(base:Nat)(v:Value)(w:World)(hl:l.length≤1000000)(ht:∀s∈l,s.size≤281474976710656)(h:w.ownsRow base 9 1 v l.length (z04 l)):
  Calls prog 192 #[v] w (OwnI base (ofL l) w):=by
 obtain⟨A,c,rfl,-⟩:=z02 h;refine(zh5 l A c w w.heap.size (z8d hl ht) (Nat.le_refl _) (z0o h)).mono ?_;rintro e w' ⟨rfl,hf⟩;unfold ofL;by_cases h0:l.length=0
 ·rw[if_pos h0,if_pos h0];exact⟨_,rfl,z0l.nothing _ _,hf⟩
 ·rw[if_neg h0,if_neg h0];exact⟨_,rfl,⟨_,_,_,rfl,z05 h hf (by simp),⟨rfl,.inl ⟨rfl,rfl⟩⟩,⟨rfl,.inl ⟨rfl,rfl⟩⟩⟩,hf⟩
def z91(l:List Ent)(now:Int)(s:ByteArray):Option Ent:=l.find? fun e=>decide (e.key=s)&&!z3n e.til now
def z0q(l:List Ent)(now:Int)(s:ByteArray):Ent:=(z91 l now s).getD newE
def zag(l:List Ent)(now:Int)(s:ByteArray):Bool:=(z91 l now s).isSome
theorem zji{l:List Ent}(hr:rises (ltK Ent.key) l=true){i j:Nat}{a b:Ent}(ha:l[i]? = some a)(hb:l[j]? = some b)(h:a.key=b.key):a=b:=by
 have h1:=zex Ent.key hr ha;have h2:=zex Ent.key hr hb;rw[h] at h1;have:i=j:=by rw[←h1,←h2]
 subst this;rw[ha] at hb;exact Option.some.inj hb
theorem zlg{l:List Ent}(hr:rises (ltK Ent.key) l=true){i:Nat}{e:Ent}(he:l[i]? = some e)(now:Int):z91 l now e.key=if z3n e.til now=true then none else some e:=by
 unfold z91;by_cases hg:z3n e.til now=true
 ·rw[if_pos hg,List.find?_eq_none];intro x hx hp;obtain⟨j,hj⟩:=List.getElem?_of_mem hx;simp at hp;have:=zji hr hj he hp.1;rw[this,hg] at hp;exact absurd hp.2 (by decide)
 ·rw[if_neg hg];rcases hf:l.find? (fun x=>decide (x.key=e.key)&&!z3n x.til now) with _|x
  ·have:=List.find?_eq_none.1 hf e (List.mem_of_getElem? he);simp at this;exact absurd this hg
  ·have h1:=List.find?_some hf;have h2:=List.mem_of_find?_eq_some hf;obtain⟨j,hj⟩:=List.getElem?_of_mem h2;simp at h1;rw[hf,zji hr hj he h1.1]
theorem zn6{l:List Ent}(hr:rises (ltK Ent.key) l=true){s:ByteArray}(h:z5e Ent.key l s=false)(now:Int):z91 l now s=none:=by
 unfold z91;rw[List.find?_eq_none];intro x hx hp;simp at hp;obtain⟨j,hj⟩:=List.getElem?_of_mem hx;have:=zcr Ent.key hr hj;rw[hp.1,h] at this;cases this
def set7(w:World)(o:Nat)(a b c d e f g:Value):World:=((((((w.setCell ⟨o,0,none⟩ a).setCell ⟨o,1,none⟩ b).setCell ⟨o,2,none⟩ c).setCell ⟨o,3,none⟩ d).setCell ⟨o,4,none⟩ e).setCell ⟨o,5,none⟩ f).setCell ⟨o,6,none⟩ g
theorem z8o{w wr:World}{o:Nat}(h:Fr [] w wr)(ho:w.heap.size≤o)(a b c d e f g:Value):Fr [] w (set7 wr o a b c d e f g):=
 ((((((h.setCell (p:=⟨o,0,none⟩) (.inr ho) _).setCell (p:=⟨o,1,none⟩) (.inr ho) _).setCell (p:=⟨o,2,none⟩) (.inr ho) _).setCell (p:=⟨o,3,none⟩) (.inr ho) _).setCell (p:=⟨o,4,none⟩) (.inr ho) _).setCell (p:=⟨o,5,none⟩) (.inr ho) _).setCell (p:=⟨o,6,none⟩) (.inr ho) _
theorem zgb(a b:ByteArray):(z36 a b < 0∧ltS a b=true)∨(a=b∧ltS a b=false)∨(z36 b a < 0∧ltS a b=false):=by
 have h2:=z88 a b;rcases Int.lt_trichotomy (z36 a b) 0 with h|h|h
 ·exact .inl ⟨h,decide_eq_true h⟩
 ·exact .inr (.inl ⟨zcv h,decide_eq_false (by omega)⟩)
 ·exact .inr (.inr ⟨by omega,decide_eq_false (by omega)⟩)
theorem lessT{a b:ByteArray}(h:z36 a b < 0):Op.bytesLess a.toList b.toList=true:=by rw[zbj];exact decide_eq_true h
theorem zb2(s:ByteArray):z1t none s=false:=rfl
theorem z77(k s:ByteArray):z1t (some k) s=!ltS k s:=rfl
theorem z9b(k s:ByteArray)(b c d e f g h i j:Value)(w:World):Calls prog 108 (#[.agg #[.string k,b,c,d,e,f,g,h,i,j],.string s]++#[]) w fun e w'=>e=.returned (.int .i64 (z36 k s))∧Fr [] w w':=by
 have F1:=hid ((Fr.refl [] w).alloc (.cells #[.string k,b,c,d,e,f,g,h,i,j] 50));go_enter Tryz.func108,Tryz.ntmps108;go_wp2_with fail;refine(z3e k s _).mono ?_;rintro e w1 ⟨rfl,rfl⟩;go_wp2;go_ret;exact⟨rfl,F1.out⟩
theorem zkt(l:List Slt)(s:ByteArray)(A:Option Addr)(c B:Nat)(w:World)(hr:rises (ltK Slt.key) l=true)(hl:l.length≤281474976710656)(hB:B≤w.heap.size)(h:z3f w B (.slice A l.length c) l):
  Calls prog 107 #[.slice A l.length c,.string s,.func (Fn.func 108) #[] #[]] w (z2n (z1k Slt.key l s) (z5e Slt.key l s) w):=by
 have HS:=hid h;have hlow:=z6j Slt.key l s;have HR:=hid hr;clear h hr;have eg:=z3z Tryz.func108 (by kernel_rfl) rfl;go_enter Tryz.func107,Tryz.ntmps107;go_wp2;go_loopg [9,10] l.length (fun g s9 s10 wr=>∃(lo hi:Nat),g=hi - lo∧s9=.int .i64 lo∧s10=.int .i64 hi∧lo≤z1k Slt.key l s∧z1k Slt.key l s≤hi∧hi≤l.length∧Fr [] w wr)
 case atStart=>exact⟨0,l.length,rfl,rfl,rfl,Nat.zero_le _,hlow,Nat.le_refl _,Fr.refl _ _⟩
 case round=>
  obtain⟨lo,hi,rfl,rfl,rfl,h1,h2,h3,hf⟩:=hrel;have HF:=hid hf;clear hf;by_cases hlt:lo < hi
  ·obtain⟨m,hm⟩:∃m,m=(lo+hi) / 2:=⟨_,rfl⟩;have hml:m < l.length:=by omega
   obtain⟨b,off,rfl,hb,hc,hmx,hat⟩:=HS.out.at_ (by omega);obtain⟨q,hq⟩:∃q,l[m]? = some q:=⟨_,List.getElem?_eq_getElem hml⟩;obtain⟨A1,A2,A3,c1,c2,c3,h7⟩:=hat m q hq;obtain⟨x0,x1,x2,x3,x4,x5,x6,x7,x8,x9,-⟩:=h7.fr HF.out hb hB (by simp);have hmi:((lo:Int)+(hi:Int)) / 2=(m:Int):=by omega
   have hM:=hid hm
   have hnew:(z36 q.key s < 0→m < z1k Slt.key l s)∧(¬z36 q.key s < 0→z1k Slt.key l s≤m):=⟨fun h=>by
    rcases Nat.lt_or_ge m (z1k Slt.key l s) with h'|h'
    ·exact h'
    ·exact absurd h (ze9 Slt.key HR.out h' hq),fun h=>by
    rcases Nat.lt_or_ge m (z1k Slt.key l s) with h'|h'
    ·exact absurd (z6q Slt.key h' hq) h
    ·exact h'⟩
   have HN:=hid hnew;have FL:=hid (fun W b c d e f g h i j=>z9b q.key s b c d e f g h i j W);clear hat h7 hq hnew hm;generalize z36 q.key s=o at *;by_cases ho:o < 0
   ·have hn:=HN.out.1 ho;clear HN;go_wp2_with fail;refine(FL.out _ _ _ _ _ _ _ _ _ _).mono ?_;rintro e w2 ⟨rfl,f2⟩;clear hmi;go_wp2;go_roundg (hi - (m+1))
    case measure=>have:=hM.out;omega
    case rel=>exact⟨m+1,hi,rfl,by go_num,rfl,by omega,h2,h3,HF.out.trans f2⟩
   ·have hn:=HN.out.2 ho;clear HN;go_wp2_with fail;refine(FL.out _ _ _ _ _ _ _ _ _ _).mono ?_;rintro e w2 ⟨rfl,f2⟩;clear hmi;go_wp2;go_roundg (m - lo)
    case measure=>have:=hM.out;omega
    case rel=>exact⟨lo,m,rfl,rfl,rfl,h1,hn,by omega,HF.out.trans f2⟩
  ·obtain rfl:hi=lo:=by omega
   obtain⟨lw,hlw⟩:∃lw,lw=z1k Slt.key l s:=⟨_,rfl⟩;obtain rfl:hi=lw:=by omega
   have HL:=hid hlw;by_cases hn:hi < l.length
   ·obtain⟨b,off,rfl,hb,hc,hmx,hat⟩:=HS.out.at_ (by omega);obtain⟨q,hq⟩:∃q,l[hi]? = some q:=⟨_,List.getElem?_eq_getElem hn⟩;obtain⟨A1,A2,A3,c1,c2,c3,h7⟩:=hat hi q hq;obtain⟨x0,x1,x2,x3,x4,x5,x6,x7,x8,x9,-⟩:=h7.fr HF.out hb hB (by simp);have FL:=hid (fun W b c d e f g h i j=>z9b q.key s b c d e f g h i j W);have HH:=hid (show z5e Slt.key l s=decide (z36 q.key s=0) from by unfold z5e;rw[←hlw,hq]);clear hat h7 hq hlw h1 h2;generalize z36 q.key s=o at *;by_cases ho:o=0
    ·subst ho;have HH2:=hid (HH.out.trans (decide_eq_true rfl));clear HH;go_wp2_with fail;refine(FL.out _ _ _ _ _ _ _ _ _ _).mono ?_;rintro e w2 ⟨rfl,f2⟩;go_wp2;go_ret2;refine⟨?_,HF.out.trans f2⟩;rw[←HL.out,HH2.out];rfl
    ·have q1:(o==0)=false:=by simpa using ho
     have HH2:=hid (HH.out.trans (decide_eq_false ho));clear ho HH;go_wp2_with fail;refine(FL.out _ _ _ _ _ _ _ _ _ _).mono ?_;rintro e w2 ⟨rfl,f2⟩;go_wp2;go_ret2;refine⟨?_,HF.out.trans f2⟩;rw[←HL.out,HH2.out];rfl
   ·have HH:=hid (show z5e Slt.key l s=false from by unfold z5e;rw[←hlw,List.getElem?_eq_none (by omega)]);clear h1 h2 hlw;go_wp2;go_ret2;refine⟨?_,HF.out⟩;rw[←HL.out,HH.out];rfl
theorem zb4(l:List Slt)(s:ByteArray)(A:Option Addr)(c B:Nat)(u:Value)(w:World)(hr:rises (ltK Slt.key) l=true)(hl:l.length≤281474976710656)(hB:B≤w.heap.size)(h:z3f w B (.slice A l.length c) l):
  Calls prog 71 #[.agg #[.slice A l.length c,u],.string s] w (z2n (z1k Slt.key l s) (z5e Slt.key l s) w):=by
 have F1:=hid ((Fr.refl [] w).alloc (.cells #[.slice A l.length c,u] 25));have I:=hid (zkt l s A c B (w.alloc (.cells #[.slice A l.length c,u] 25)) hr hl (Nat.le_trans hB F1.out.size) (h.fr F1.out hB (by simp)));clear h;unfold z2n at I ⊢;go_enter Tryz.func71,Tryz.ntmps71;go_wp2_with fail;refine I.out.mono ?_;rintro e w1 ⟨rfl,f1⟩;go_wp2;go_ret2;exact⟨rfl,F1.out.trans f1⟩
theorem zhj{α:Type}{l:List α}{k:Nat}{t:α}(h:l[k]? = some t):l.take (k+1)=l.take k++[t]:=by rw[List.take_add_one,h];rfl
def znl(x:Itm):Int:=if x.kind=0 then 0 else (zcu x.text.data.toList).getD 0
def zk0(x:Itm)(n:Int):Int:=if z0a 1 x≠0 then z0a 1 x else if x.kind≠0∧zcu x.text.data.toList=none then 1 else if z17 n=true∧z17 (znl x+n)=true then 0 else 3
def adY(x:Itm)(n:Int):Itm:=if zk0 x n=0 then zo3 ⟨(Lib.itoa (znl x+n)).toArray⟩ else z2l 0
def adN(x:Itm)(n:Int):Int:=if zk0 x n=0 then znl x+n else 0
def zof(k:Int)(x:Itm)(m:List ByteArray):Itm:=if z0a k x=0 then ofK k (zou x.list m) else z2l 0
def zov(k:Int)(x:Itm)(m:List ByteArray):Int:=if z0a k x=0 then (x.list.length:Int) - (zou x.list m).length else 0
def pairI(l:List (ByteArray×ByteArray)):Itm:=⟨4,⟨#[]⟩,[],l,[]⟩
def ofP(l:List (ByteArray×ByteArray)):Itm:=if l.length=0 then z2l 0 else pairI l
def hasN(l:List Itm)(s:ByteArray):Nat:=(l.filter fun x=>hasT x.list s).length
def allT(l:List Itm):List ByteArray:=l.flatMap (·.list)
def zcq(k:Int):List Itm→Int
 | []=>0
 | x :: l=>if z0a k x≠0 then z0a k x else zcq k l
def z61(l:List Itm):Int:=if l.length=0 then 1 else zcq 3 l
def zp1:List Itm→List ByteArray
 | []=>[]
 | x :: _=>x.list
def pick(p:Nat→Bool→Bool)(l:List Itm)(s:ByteArray):Bool:=p (hasN l s) (hasT (zp1 l) s)
def zmc(p:Nat→Bool→Bool)(l:List Itm):List ByteArray:=if z61 l=0 then setU ((allT l).filter (pick p l)) else []
theorem zbv(x:Itm)(v:Value)(left:Bool)(l:List ByteArray)(Al:Option Addr)(cl:Nat)(w:World)(B:Nat)(hs:x.Small)(hB:B≤w.heap.size)(h:z1m w B v x)(hl:l.length≤281474976710656)(hL:Sl w B 1 (.slice Al l.length cl) l.length (z04 l)):
  Calls prog 144 #[v,.bool left,.slice Al l.length cl] w (zmp (z99 x left l) (z0r x l) (z6t x left l) w):=by
 have RD:=hid (fun W (hf:Fr [] w W)=>zjf x v W B hs (Nat.le_trans hB hf.size) (h.fr hf hB (by simp)));have SM:=hid (fun W (hf:Fr [] w W)=>zlj l Al cl W B hl (Nat.le_trans hB hf.size) (hL.fr hf hB (by simp)));have HL:=hid hL;obtain⟨A1,c1,A2,c2,A3,c3,rfl,h1,h2,h3⟩:=h;have H1:=hid h1;have D0:=hid (BO.new w (.int .i64 x.kind) (.string x.text) (.slice A1 x.list.length c1) (.slice A2 x.pairs.length c2) (.slice A3 x.scores.length c3));obtain⟨d0,d1,d2,d3,d4⟩:=five D0.out.b;have EC:=hid (show z0r x l=if z0a 2 x≠0 then z0a 2 x else if z19 l≠0 then z19 l else if 24 < x.list.length+l.length then 2 else 0 from rfl);have EY:=hid (show z6t x left l=if z0r x l=0 then ofL (z4t x left l) else z2l 0 from rfl);have EK:=hid (show z99 x left l=if z0r x l=0 then ((z4t x left l).length:Int) else 0 from rfl);have OK:=hid (fun(h:z0a 2 x=0)=>zjq h);have OS:=hid (fun(h:z19 l=0)=>z9n h);have hs1:=hs.list;clear h1 h2 h3 hs hL
 have no0:∀c:Int,c≠0→z0r x l=c→z6t x left l=z2l 0∧z99 x left l=0:=fun c hc he=>by
  have h0:z0r x l≠0:=by rw[he];exact hc
  exact⟨by rw[EY.out,if_neg h0],by rw[EK.out,if_neg h0]⟩
 have NO:=hid no0;clear no0;by_cases ha:z0a 2 x=0
 ·rw[ha] at RD;by_cases hb:z19 l=0
  ·rw[hb] at SM;by_cases hc:24 < x.list.length+l.length
   ·have E:=hid (show z0r x l=2 from by rw[EC.out,if_neg (by simpa using ha),if_neg (by simpa using hb),if_pos hc]);obtain⟨e1,e2⟩:=NO.out 2 (by decide) E.out;rw[e1,e2,E.out];have q:(x.list.length:Int)+(l.length:Int) > 24:=by omega
    clear e1 e2 EC EY EK OK OS ha hb hc NO;generalize x.list.length=n at *;go_enter Tryz.func144,Tryz.ntmps144;go_wp2_with fail;refine(RD.out _ D0.out.f).mono ?_;rintro e w1 ⟨rfl,f1⟩;have D1:=hid (D0.out.go f1);clear d0 d1 d2 d3 d4;obtain⟨d0,d1,d2,d3,d4⟩:=five D1.out.b;go_wp2_with fail;refine(SM.out _ D1.out.f).mono ?_;rintro e w2 ⟨rfl,f2⟩;have D2:=hid (D1.out.go f2);clear d0 d1 d2 d3 d4;obtain⟨d0,d1,d2,d3,d4⟩:=five D2.out.b;obtain⟨a0,a1,a2,a3,a4⟩:=five D2.out.o;obtain⟨b0,b2,b3,b4,b5⟩:=z23 D2.out.o;go_wp2;refine bodyPost_ret (v:=.tuple #[.agg #[.int .i64 0,.string ⟨#[]⟩,.slice none 0 0,.slice none 0 0,.slice none 0 0],.int .i64 0,.int .i64 2]) (by simp[results,Tryz.results144,go_sem,a0,a1,a2,a3,a4]) rfl ?_;exact⟨_,rfl,z0l.nothing _ _,D2.out.end5 _ _ _ _ _⟩
   ·have E:=hid (show z0r x l=0 from by rw[EC.out,if_neg (by simpa using ha),if_neg (by simpa using hb),if_neg hc]);have hok:=OK.out ha;have hos:=OS.out hb
    have OF:=hid (fun W base u hu=>zfu (z4t x left l) base u W (by rw[z49];omega) (fun s hs=>by
     rcases zfk hs with h|h
     ·have:=hok.texts s h;omega
     ·have:=hos s h;omega) hu)
    rw[EY.out,EK.out,E.out,if_pos rfl,if_pos rfl];have q:¬((x.list.length:Int)+(l.length:Int) > 24):=by omega
    have h24:x.list.length+l.length≤24:=by omega
    clear hok hos E EC EY EK OK OS ha hb hc NO;cases left
    ·have EP:=hid (show z4t x false l=x.list++l from rfl);generalize ofL (z4t x false l)=y at *;go_enter Tryz.func144,Tryz.ntmps144;go_wp2_with fail;refine(RD.out _ D0.out.f).mono ?_;rintro e w1 ⟨rfl,f1⟩;have D1:=hid (D0.out.go f1);clear d0 d1 d2 d3 d4;obtain⟨d0,d1,d2,d3,d4⟩:=five D1.out.b;go_wp2_with fail;refine(SM.out _ D1.out.f).mono ?_;rintro e w2 ⟨rfl,f2⟩;have D2:=hid (D1.out.go f2);clear d0 d1 d2 d3 d4;obtain⟨d0,d1,d2,d3,d4⟩:=five D2.out.b;have D3:=hid (D2.out.alloc (.cells #[.slice A1 x.list.length c1,.slice Al l.length cl] 41));have V3:=hid (Whole.new w2 41 [.slice A1 x.list.length c1,.slice Al l.length cl]);have CC:=hid (z6p x.list l _ _ w2.heap.size 2 _ B (by omega) (by omega) (by omega) (by omega) (Nat.le_trans hB D3.out.f.size) (H1.out.fr D3.out.f hB (by simp)) (HL.out.fr D3.out.f hB (by simp)) (V3.out.cell 0) (V3.out.cell 1));go_wp2_with fail;refine CC.out.mono ?_;rintro e w3 ⟨u,rfl,ho,f3⟩;have D4:=hid (D3.out.go f3);have hz:=D3.out.lt;rw[←EP.out] at ho;have HO:=hid ho;obtain⟨U,cu,rfl,-⟩:=z02 ho;clear d0 d1 d2 d3 d4 ho;have hle:(z4t x false l).length≤24:=by rw[z49];omega
     go_wp2_with fail;refine(OF.out _ _ _ HO.out).mono ?_;rintro e w4 ⟨u,rfl,hi,f4⟩;have D5:=hid (D4.out.go f4);have HI:=hid hi;obtain⟨P1,p1,P2,p2,P3,p3,rfl⟩:=hi.form;clear hi;obtain⟨a0,a1,a2,a3,a4⟩:=five D5.out.o;obtain⟨b0,b2,b3,b4,b5⟩:=z23 D5.out.o;go_wp2;refine bodyPost_ret (v:=.tuple #[.agg #[.int .i64 y.kind,.string y.text,.slice P1 y.list.length p1,.slice P2 y.pairs.length p2,.slice P3 y.scores.length p3],.int .i64 ((z4t x false l).length:Nat),.int .i64 0]) (by simp[results,Tryz.results144,go_sem,a0,a1,a2,a3,a4]) rfl ?_;exact⟨_,rfl,(z39 HI.out (by omega) _ _ _ _ _).less (by omega),D5.out.end5 _ _ _ _ _⟩
    ·have EP:=hid (show z4t x true l=l.reverse++x.list from rfl);generalize ofL (z4t x true l)=y at *;go_enter Tryz.func144,Tryz.ntmps144;go_wp2_with fail;refine(RD.out _ D0.out.f).mono ?_;rintro e w1 ⟨rfl,f1⟩;have D1:=hid (D0.out.go f1);clear d0 d1 d2 d3 d4;obtain⟨d0,d1,d2,d3,d4⟩:=five D1.out.b;go_wp2_with fail;refine(SM.out _ D1.out.f).mono ?_;rintro e w2 ⟨rfl,f2⟩;have D2:=hid (D1.out.go f2);clear d0 d1 d2 d3 d4;obtain⟨d0,d1,d2,d3,d4⟩:=five D2.out.b;have D3:=hid (D2.out.alloc (.cells #[.slice A1 x.list.length c1,.slice Al l.length cl] 41));have V3:=hid (Whole.new w2 41 [.slice A1 x.list.length c1,.slice Al l.length cl]);have CC:=hid (z6p x.list l _ _ w2.heap.size 2 _ B (by omega) (by omega) (by omega) (by omega) (Nat.le_trans hB D3.out.f.size) (H1.out.fr D3.out.f hB (by simp)) (HL.out.fr D3.out.f hB (by simp)) (V3.out.cell 0) (V3.out.cell 1));go_wp2_with fail;refine CC.out.mono ?_;rintro e w3 ⟨u,rfl,ho,f3⟩;have D4:=hid (D3.out.go f3);have hz:=D3.out.lt;obtain⟨U,cu,rfl,-⟩:=z02 ho;clear d0 d1 d2 d3 d4 ho;have CL:=hid (z6s l.length (z04 l) Al cl w3 B (by omega) (Nat.le_trans hB D4.out.f.size) (HL.out.fr D4.out.f hB (by simp)) (z3b l));go_wp2_with fail;refine CL.out.mono ?_;rintro e w4 ⟨u2,rfl,ho2,f4⟩;have D5:=hid (D4.out.go f4);have hz4:=D4.out.lt;have RV:=hid (zna l _ u2 w4 (by omega) ho2);obtain⟨U2,cu2,rfl,-⟩:=z02 ho2;have HO2:=hid ho2;clear ho2;go_wp2_with fail;refine RV.out.mono ?_;rintro e w5 ⟨rfl,ho5,hg5⟩
     have D6:=hid (D5.out.step (S:=z1o (.slice U2 l.length cu2)) ((Fr.refl _ w4).grown hg5 (fun k hk=>.inl (by cases U2 with|none=>cases hk|some ad=>simp[Value.ownBlock] at hk;simp[z1o,hk]))) (fun g hg=>by
      cases U2 with
      | none=>simp[z1o] at hg
      | some ad=>simp[z1o] at hg;have:=(HO2.out.lt g (by simp[Value.ownBlock,hg])).1;omega))
     have hz6:=D6.out.lt;have HO5:=hid ho5;clear ho5 hg5;obtain⟨d0,d1,d2,d3,d4⟩:=five D6.out.b;have D7:=hid (D6.out.alloc (.cells #[.slice U2 l.length cu2,.slice A1 x.list.length c1] 41));have V7:=hid (Whole.new w5 41 [.slice U2 l.length cu2,.slice A1 x.list.length c1]);have hzz:w.heap.size+1 < w5.heap.size:=hz6;have SL5:=hid (z0o (z05 HO5.out ((Fr.refl [] w5).alloc (.cells #[.slice U2 l.length cu2,.slice A1 x.list.length c1] 41)) (by simp)));have CD:=hid (z6p l.reverse x.list (.slice U2 l.length cu2) (.slice A1 x.list.length c1) w5.heap.size 2 _ _ (by simp;omega) (by omega) (by omega) (by omega) (Nat.le_refl _) (by rw[List.length_reverse];exact SL5.out) ((H1.out.fr D7.out.f hB (by simp)).more (Nat.le_trans hB D7.out.f.size)) (V7.out.cell 0) (V7.out.cell 1));go_wp2_with fail;refine CD.out.mono ?_;rintro e w6 ⟨u6,rfl,ho6,f6⟩;have D8:=hid (D7.out.go f6);have hz7:=D7.out.lt;rw[←EP.out] at ho6;have HO6:=hid ho6;obtain⟨U6,cu6,rfl,-⟩:=z02 ho6;clear d0 d1 d2 d3 d4 ho6;have hle:(z4t x true l).length≤24:=by rw[z49];omega
     go_wp2_with fail;refine(OF.out _ _ _ HO6.out).mono ?_;rintro e w7 ⟨u7,rfl,hi,f7⟩;have D9:=hid (D8.out.go f7);have HI:=hid hi;obtain⟨P1,p1,P2,p2,P3,p3,rfl⟩:=hi.form;clear hi;obtain⟨a0,a1,a2,a3,a4⟩:=five D9.out.o;obtain⟨b0,b2,b3,b4,b5⟩:=z23 D9.out.o;go_wp2;refine bodyPost_ret (v:=.tuple #[.agg #[.int .i64 y.kind,.string y.text,.slice P1 y.list.length p1,.slice P2 y.pairs.length p2,.slice P3 y.scores.length p3],.int .i64 ((z4t x true l).length:Nat),.int .i64 0]) (by simp[results,Tryz.results144,go_sem,a0,a1,a2,a3,a4]) rfl ?_;exact⟨_,rfl,(z39 HI.out (by omega) _ _ _ _ _).less (by omega),D9.out.end5 _ _ _ _ _⟩
  ·have E:=hid (show z0r x l=z19 l from by rw[EC.out,if_neg (by simpa using ha),if_pos hb]);obtain⟨e1,e2⟩:=NO.out _ hb E.out;rw[e1,e2,E.out];have q:(z19 l==0)=false:=by simpa using hb
   have q2:(z19 l != 0)=true:=by simpa using hb
   clear e1 e2 EC EY EK OK OS ha hb NO E;generalize z19 l=r at *;go_enter Tryz.func144,Tryz.ntmps144;go_wp2_with fail;refine(RD.out _ D0.out.f).mono ?_;rintro e w1 ⟨rfl,f1⟩;have D1:=hid (D0.out.go f1);clear d0 d1 d2 d3 d4;obtain⟨d0,d1,d2,d3,d4⟩:=five D1.out.b;go_wp2_with fail;refine(SM.out _ D1.out.f).mono ?_;rintro e w2 ⟨rfl,f2⟩;have D2:=hid (D1.out.go f2);clear d0 d1 d2 d3 d4;obtain⟨a0,a1,a2,a3,a4⟩:=five D2.out.o;obtain⟨b0,b2,b3,b4,b5⟩:=z23 D2.out.o;go_wp2;refine bodyPost_ret (v:=.tuple #[.agg #[.int .i64 0,.string ⟨#[]⟩,.slice none 0 0,.slice none 0 0,.slice none 0 0],.int .i64 0,.int .i64 r]) (by simp[results,Tryz.results144,go_sem,a0,a1,a2,a3,a4]) rfl ?_;exact⟨_,rfl,z0l.nothing _ _,D2.out.end5 _ _ _ _ _⟩
 ·have E:=hid (show z0r x l=z0a 2 x from by rw[EC.out,if_pos ha]);obtain⟨e1,e2⟩:=NO.out _ ha E.out;rw[e1,e2,E.out];have q:(z0a 2 x==0)=false:=by simpa using ha
  have q2:(z0a 2 x != 0)=true:=by simpa using ha
  clear e1 e2 EC EY EK OK OS ha NO E;generalize z0a 2 x=r at *;go_enter Tryz.func144,Tryz.ntmps144;go_wp2_with fail;refine(RD.out _ D0.out.f).mono ?_;rintro e w1 ⟨rfl,f1⟩;have D1:=hid (D0.out.go f1);clear d0 d1 d2 d3 d4;obtain⟨a0,a1,a2,a3,a4⟩:=five D1.out.o;obtain⟨b0,b2,b3,b4,b5⟩:=z23 D1.out.o;go_wp2;refine bodyPost_ret (v:=.tuple #[.agg #[.int .i64 0,.string ⟨#[]⟩,.slice none 0 0,.slice none 0 0,.slice none 0 0],.int .i64 0,.int .i64 r]) (by simp[results,Tryz.results144,go_sem,a0,a1,a2,a3,a4]) rfl ?_;exact⟨_,rfl,z0l.nothing _ _,D1.out.end5 _ _ _ _ _⟩
end Go.Proofs.YtmkhmejempcimaaGreatDoor
