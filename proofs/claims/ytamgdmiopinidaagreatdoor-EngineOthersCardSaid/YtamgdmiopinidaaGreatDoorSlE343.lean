/- Contracts that the proof of E3 uses. No condition beyond those in each theorem. -/
import Derived.Test.YtamgdmiopinidaaGreatDoorSlE342
set_option linter.unusedVariables false
set_option linter.unusedSimpArgs false
set_option maxHeartbeats 8000000
set_option maxRecDepth 100000
namespace Go.Proofs.YtamgdmiopinidaaGreatDoor
open Lib (hid)
open Go.Proofs.Tryz (prog)
open Go.RowKit
theorem zh9{α:Type}{l:List α}{p:α→Bool}(h:∀x∈l,p x=false):l.any p=false:=by
 rw[List.any_eq_false]
 intro x hx
 rw[h x hx]
 decide
theorem zj8{x:Itm}(h1:∀s∈x.list,s.size≤60)(h2:∀p∈x.pairs,p.1.size≤60∧p.2.size≤60)(h3:∀p∈x.scores,p.2.size≤60):z9n x=false:=by
 unfold z9n
 rw[zh9 (fun s hs=>by unfold z40;exact decide_eq_false (by have:=h1 s hs;omega)),zh9 (fun s hs=>by unfold z4p;rw[decide_eq_false (by have:=h2 s hs;omega),decide_eq_false (by have:=h2 s hs;omega)];rfl),zh9 (fun s hs=>by unfold z8l;exact decide_eq_false (by have:=h3 s hs;omega))]
 rfl
theorem zvg{x:Itm}(hk:2≤x.kind∧x.kind≤5)(hb:z6g x=true)(h0:0 < many x)(h24:many x≤24)(hl:z9n x=false)(h3:x.kind=3→rises ltS x.list=true)(h4:x.kind=4→rises ltP x.pairs=true)(h5:z1h x.scores=0):z0d x=0:=by
 unfold z0d
 rw[if_neg (by omega),if_neg (by rw[hb];decide),if_neg (by omega),if_neg (by omega),if_neg (by rw[hl];simp;omega),if_neg (by
  rintro(⟨h,he⟩|⟨h,he⟩)
  ·rw[h3 h] at he;exact absurd he (by decide)
  ·rw[h4 h] at he;exact absurd he (by decide))]
 exact h5
def OkI(y:Itm):Prop:=z0d y=0∨z0o y=true
theorem z4n:OkI (z2r 0):=.inr z26
theorem zq7{s:ByteArray}(h:s.size≤60):z0d (z27 s)=0:=by
 unfold z0d z6g z27
 simp
 omega
theorem zib{s:ByteArray}(h:s.size≤60):OkI (z27 s):=.inl (zq7 h)
theorem zn2{k:Int}{L:List ByteArray}(hk:k=2∨k=3∧rises ltS L=true)(h0:0 < L.length)(h24:L.length≤24)(ht:∀s∈L,s.size≤60):z0d (zbh k L)=0:=by
 have e:many (zbh k L)=L.length:=by show L.length+0+0=L.length;omega
 refine zvg (x:=zbh k L) (by show 2≤k∧k≤5;omega) ?_ (by omega) (by omega) (zj8 ht (fun p hp=>by cases hp) (fun p hp=>by cases hp)) (fun h=>?_) (fun h=>?_) rfl
 ·rcases hk with rfl|⟨rfl,_⟩ <;> rfl
 ·rcases hk with rfl|⟨_,hr⟩
  ·exact absurd (show(2:Int)=3 from h) (by decide)
  ·exact hr
 ·have:k=4:=h
  omega
theorem zge{L:List ByteArray}(h24:L.length≤24)(ht:∀s∈L,s.size≤60):OkI (ofL L):=by
 unfold ofL
 split
 ·exact z4n
 ·exact .inl (zn2 (.inl rfl) (by omega) h24 ht)
theorem ztv{L:List ByteArray}(hr:rises ltS L=true)(h24:L.length≤24)(ht:∀s∈L,s.size≤60):OkI (ofK 3 L):=by
 unfold ofK
 split
 ·exact z4n
 ·exact .inl (zn2 (.inr ⟨rfl,hr⟩) (by omega) h24 ht)
theorem zu5{L:List (ByteArray×ByteArray)}(hr:rises ltP L=true)(h24:L.length≤24)(ht:∀p∈L,p.1.size≤60∧p.2.size≤60):OkI (ofP L):=by
 unfold ofP
 split
 ·exact z4n
 ·have e:many (zhf L)=L.length:=by show 0+L.length+0=L.length;omega
  exact .inl (zvg (x:=zhf L) (by show(2:Int)≤4∧(4:Int)≤5;omega) rfl (by omega) (by omega) (zj8 (fun p hp=>by cases hp) ht (fun p hp=>by cases hp)) (fun h=>absurd (show(4:Int)=3 from h) (by decide)) (fun _=>hr) rfl)
theorem ztt{L:List (Int×ByteArray)}(h:z8g L)(h24:L.length≤24):OkI (ofC L):=by
 unfold ofC
 split
 ·exact z4n
 ·have e:many (zb1 L)=L.length:=by show 0+0+L.length=L.length;omega
  refine .inl (zvg (x:=zb1 L) (by show(2:Int)≤5∧(5:Int)≤5;omega) rfl (by omega) (by omega) (zj8 (fun p hp=>by cases hp) (fun p hp=>by cases hp) (fun p hp=>(h.ok p hp).2)) (fun k=>absurd (show(5:Int)=3 from k) (by decide)) (fun k=>absurd (show(5:Int)=4 from k) (by decide)) ?_)
  show z1h L=0
  unfold z1h
  rw[if_neg (by rw[zh9 (fun p hp=>by rw[(h.ok p hp).1];rfl)];decide),if_neg (by intro hn;exact hn h.dist),if_pos h.rise]
theorem zwp(x:Itm)(s:ByteArray):OkI (apY x s):=by
 unfold apY
 split
 ·rename_i h
  refine zib ?_
  unfold z3e at h
  split at h
  ·rename_i ha;exact absurd h ha
  ·split at h
   ·cases h
   ·rw[ByteArray.size_append];omega
 ·exact z4n
theorem adOk{x:Itm}{n:Int}(h:z3r x n=0):z0m (z5m x+n)=true:=by
 unfold z3r at h
 split at h
 ·rename_i ha;exact absurd h ha
 ·split at h
  ·cases h
  ·split at h
   ·rename_i h2;exact h2.2
   ·cases h
theorem zxu(x:Itm)(n:Int):OkI (adY x n):=by
 unfold adY
 split
 ·rename_i h
  refine zib ?_
  have:=(zka (adOk h)).2
  show(Lib.itoa (z5m x+n)).toArray.size≤60
  have e:(Lib.itoa (z5m x+n)).toArray.size≤10:=by simpa using this
  omega
 ·exact z4n
theorem zjy(x:Itm)(left:Bool)(l:List ByteArray):OkI (z8p x left l):=by
 unfold z8p
 split
 ·rename_i h
  unfold z14 at h
  split at h
  ·rename_i ha;exact absurd h ha
  ·rename_i ha
   split at h
   ·rename_i hb;exact absurd h hb
   ·rename_i hb
    split at h
    ·cases h
    ·have hok:=z18 (Decidable.not_not.1 ha)
     refine zge (by rw[z4e];omega) (fun s hs=>?_)
     rcases zfn hs with h1|h1
     ·exact hok.texts s h1
     ·exact z64 (Decidable.not_not.1 hb) s h1
 ·exact z4n
theorem zh0{k:Int}{x:Itm}(h:z02 k x=0):x.list.length≤24∧x.pairs.length≤24∧x.scores.length≤24:=by
 have:=(z18 h).le24
 unfold many at this
 omega
theorem popOk{x:Itm}(h:z1u x=0):z02 2 x=0∧x.kind≠0:=by
 unfold z1u at h
 split at h
 ·rename_i ha;exact absurd h ha
 ·rename_i ha
  split at h
  ·cases h
  ·rename_i hk;exact⟨Decidable.not_not.1 ha,hk⟩
theorem znk(x:Itm)(left:Bool):OkI (zdu x left):=by
 unfold zdu
 split
 ·rename_i h
  have ha:=(popOk h).1
  have hl:=(zh0 ha).1
  have hok:=z18 ha
  unfold zr1
  cases left
  ·exact zge (by simp;omega) (fun s hs=>hok.texts s (List.mem_of_mem_take (show s∈x.list.take (x.list.length - 1) from hs)))
  ·exact zge (by simp;omega) (fun s hs=>hok.texts s (List.mem_of_mem_drop (show s∈x.list.drop 1 from hs)))
 ·exact z4n
theorem ztg{x:Itm}(h:z02 2 x=0)(a b:Int):OkI (ofL (z29 x.list a b)):=by
 have hl:=(zh0 h).1
 have hok:=z18 h
 have hs:=z5y x.list.length a b
 exact zge (by rw[z2j];omega) (fun s hs=>hok.texts s (z6y hs))
theorem zvl(x:Itm)(s:ByteArray):OkI (zmz x s):=by
 unfold zmz
 split
 ·rename_i h
  exact zge (Nat.le_trans (List.length_filter_le _ _) (zh0 h).1) (fun t ht=>(z18 h).texts t (List.mem_filter.1 ht).1)
 ·exact z4n
theorem zox(x:Itm)(m:List ByteArray):OkI (z60 3 x m):=by
 unfold z60
 split
 ·rename_i h
  exact ztv (z3i ((z2n zec (zfo h).1).filter _)) (Nat.le_trans (List.length_filter_le _ _) (zh0 h).1) (fun t ht=>(z18 h).texts t (List.mem_filter.1 ht).1)
 ·exact z4n
theorem zst(x:Itm)(l:List ByteArray):OkI (z9c x l):=by
 unfold z9c
 split
 ·rename_i h
  obtain⟨h1,h2⟩:=zik h
  exact ztv (z82 _) h2 (z8u h1)
 ·exact z4n
theorem zuv(x:Itm)(l:List (ByteArray×ByteArray)):OkI (zl9 x l):=by
 unfold zl9
 split
 ·rename_i h
  unfold z1v at h
  split at h
  ·rename_i hp;exact absurd h hp
  ·rename_i hp
   have hp:=Decidable.not_not.1 hp
   split at h
   ·cases h
   ·rename_i h24
    unfold z1y at hp
    split at hp
    ·rename_i ha;exact absurd hp ha
    ·rename_i ha
     have ha:=Decidable.not_not.1 ha
     split at hp
     ·cases hp
     ·split at hp
      ·cases hp
      ·rename_i hl
       refine zu5 (zao Prod.fst l (z83 ha)) (by omega) (fun p hq=>?_)
       rcases zbz Prod.fst l hq with h1|h1
       ·exact zes hl p h1
       ·exact(z96 ha).2 p h1
 ·exact z4n
theorem zro(x:Itm)(l:List ByteArray):OkI (z9j x l):=by
 unfold z9j
 split
 ·rename_i h
  exact zu5 (z3i ((z2n (z33 Prod.fst) (z83 h)).filter _)) (Nat.le_trans (List.length_filter_le _ _) (zh0 h).2.1) (fun p hp=>(z96 h).2 p (List.mem_filter.1 hp).1)
 ·exact z4n
theorem zr9(x:Itm)(l:List (Int×ByteArray)):OkI (z9i x l):=by
 unfold z9i
 split
 ·rename_i h
  unfold zbk at h
  split at h
  ·rename_i hp;exact absurd h hp
  ·rename_i hp
   split at h
   ·cases h
   ·rename_i h24
    obtain⟨h1,h2⟩:=zpe (Decidable.not_not.1 hp)
    exact ztt (z8g.fold l (z32 h1).1 (zak h2).2) (by omega)
 ·exact z4n
theorem zoo(x:Itm)(l:List ByteArray):OkI (z61 x l):=by
 unfold z61
 split
 ·rename_i h
  exact ztt ((z32 h).1.sub List.filter_sublist) (Nat.le_trans (List.length_filter_le _ _) (z32 h).2)
 ·exact z4n
theorem zxf{s:List Ent}{now til:Int}{key:ByteArray}{y:Itm}(ok:z1m s)(hk:key.size≤60)(hy:OkI y)(ht:z0o y=true∨(0≤til∧til≤1000000))(hp:z1e s now key y til=0):z1m (z5l s now key y til):=by
 unfold z5l
 by_cases hn:z0o y=true
 ·rw[if_pos hn]
  exact z4d ok _
 ·rw[if_neg hn]
  unfold z1e at hp
  rw[if_neg hn] at hp
  by_cases h16:16 < (z8z s now key y til).length
  ·rw[if_pos h16] at hp;cases hp
  ·rw[if_neg h16]
   have hy':z0d y=0:=by
    rcases hy with h|h
    ·exact h
    ·exact absurd h hn
   have ht':0≤til∧til≤1000000:=by
    rcases ht with h|h
    ·exact absurd h hn
    ·exact h
   exact⟨by omega,zfp (P:=fun e=>e.key.size≤60) ok.keys hk,zfp (P:=fun e=>z0d e.item=0) ok.items hy',zfp (P:=fun e=>0≤e.til∧e.til≤1000000) ok.times ht',za5 ok.rise now key y til⟩
theorem z3y{s:List Ent}{now:Int}{key:ByteArray}{y:Itm}{til:Int}{chg nn:Bool}{e:Int}{r:Rep}(ok:z1m s)(hk:key.size≤60)(h:chg=true→e=0→OkI y∧(z0o y=true∨(0≤til∧til≤1000000))):z1m (fin s now key y til chg nn e r).1:=by
 unfold fin
 by_cases he:e=0
 ·rw[if_pos he]
  by_cases hc:chg=true
  ·rw[if_pos hc]
   by_cases hp:z1e s now key y til=0
   ·rw[if_pos hp]
    obtain⟨h1,h2⟩:=h hc he
    exact zxf ok hk h1 h2 hp
   ·rw[if_neg hp];exact ok
  ·rw[if_neg hc];exact ok
 ·rw[if_neg he]
  split <;> exact ok
theorem z8v{s:List Ent}{now:Int}{key:ByteArray}{y:Itm}{til:Int}{nn:Bool}{e:Int}{r:Rep}(ok:z1m s):z1m (fin s now key y til false nn e r).1:=by
 have:(fin s now key y til false nn e r).1=s:=by
  unfold fin
  split
  ·rfl
  ·split <;> rfl
 rw[this]
 exact ok
theorem zhb{s:List Ent}(ok:z1m s)(now:Int)(k:ByteArray):0≤(z00 s now k).til∧(z00 s now k).til≤1000000:=by
 rcases z5j s now k with⟨h1,h2⟩|⟨h1,h2,h3,_⟩
 ·rw[h1];exact⟨Int.le_refl _,by decide⟩
 ·exact ok.times _ h1
theorem zfy{s:List Ent}(ok:z1m s)(now:Int)(k:ByteArray):OkI (z00 s now k).item:=by
 rcases z5h ok now k with⟨h1,_⟩|⟨h1,_⟩
 ·rw[h1];exact z4n
 ·exact .inl h1
theorem ztu(now:Int):∀(l:List ByteArray) {s:List Ent} (n:Nat),z1m s→z1m (z8c now l s n).1
 | [],_,_,ok=>ok
 | k :: l,s,n,ok=>by
  unfold z8c
  refine ztu now l _ ?_
  unfold z5l
  rw[if_pos z26]
  exact z4d ok _
theorem zy1(c:Cm)(s:List Ent)(now:Int)(l:List ByteArray)(ok:z1m s)(h0:0≤now∧now≤1000000)(hz:∀t∈l,t.size≤60):z1m (doC c s now l).1:=by
 have hw:∀i,(wd l i).size≤60:=z0s hz
 have ht:=zhb ok now (wd l 1)
 cases c
 case ping=>exact ok
 case get=>
  simp only[doC]
  split
  ·exact z8v ok
  ·exact z8v ok
 case set_=>exact z3y ok (hw 1) (fun _ _=>⟨zib (hw 2),.inr (by omega)⟩)
 case append_=>exact z3y ok (hw 1) (fun _ _=>⟨zwp _ _,.inr ht⟩)
 case incrby=>exact z3y ok (hw 1) (fun _ _=>⟨zxu _ _,.inr ht⟩)
 case del=>exact ztu now _ 0 ok
 case exists_=>exact ok
 case type_=>exact ok
 case ttl=>exact ok
 case expire=>
  simp only[doC]
  split
  ·exact ok
  ·split
   ·exact z3y ok (hw 1) (fun _ _=>⟨z4n,.inl z26⟩)
   ·refine z3y ok (hw 1) (fun _ he=>⟨zfy ok _ _,.inr ?_⟩)
    by_cases hm:1000000 < now+wn l 2
    ·rw[if_pos hm] at he;cases he
    ·omega
 case persist=>
  simp only[doC]
  split
  ·exact ok
  ·exact z3y ok (hw 1) (fun _ _=>⟨zfy ok _ _,.inr (by omega)⟩)
 case lpush=>exact z3y ok (hw 1) (fun _ _=>⟨zjy _ _ _,.inr ht⟩)
 case rpush=>exact z3y ok (hw 1) (fun _ _=>⟨zjy _ _ _,.inr ht⟩)
 case lpop=>exact z3y ok (hw 1) (fun _ _=>⟨znk _ _,.inr ht⟩)
 case rpop=>exact z3y ok (hw 1) (fun _ _=>⟨znk _ _,.inr ht⟩)
 case ltrim=>exact z3y ok (hw 1) (fun _ he=>⟨ztg he _ _,.inr ht⟩)
 case lrem=>exact z3y ok (hw 1) (fun _ _=>⟨zvl _ _,.inr ht⟩)
 case sadd=>exact z3y ok (hw 1) (fun _ _=>⟨zst _ _,.inr ht⟩)
 case srem=>exact z3y ok (hw 1) (fun _ _=>⟨zox _ _,.inr ht⟩)
 case hset=>exact z3y ok (hw 1) (fun _ _=>⟨zuv _ _,.inr ht⟩)
 case hdel=>exact z3y ok (hw 1) (fun _ _=>⟨zro _ _,.inr ht⟩)
 case zadd=>exact z3y ok (hw 1) (fun _ _=>⟨zr9 _ _,.inr ht⟩)
 case zrem=>exact z3y ok (hw 1) (fun _ _=>⟨zoo _ _,.inr ht⟩)
 all_goals exact z8v ok
theorem za7{l:List ByteArray}(h:z1l l=0):∀t∈l,t.size≤60:=by
 unfold z1l at h
 by_cases hw:z0r l=0
 ·exact(z3q hw).2.2
 ·rw[if_pos hw] at h;exact absurd h hw
theorem zcu{s:List Ent}{now:Int}{l:List ByteArray}(ok:z1m s)(h0:0≤now∧now≤1000000):z1m (doR s now l).1:=by
 unfold doR
 by_cases hk:z1l l=0
 ·rw[if_neg (by simpa using hk)]
  split
  ·exact ok
  ·exact zy1 _ s now l ok h0 (za7 hk)
 ·rw[if_pos hk];exact ok
theorem zlk(s:List Ent)(sv:Value)(now:Int)(l:List ByteArray)(A:Option Addr)(c B:Nat)(w:World)(ok:z1m s)(h0:0≤now∧now≤1000000)(hl:l.length≤281474976710656)(hv:Vars w)(hB:B≤w.heap.size)(hs:z0v w B sv s)(h:Sl w B 1 (.slice A l.length c) l.length (z03 l)) :
  Calls prog 29 #[sv,.int .i64 now,.slice A l.length c] w (ztw s now l w):=by
 by_cases hk:z1l l=0
 ·by_cases hc:c=1
  ·exact zlp s sv now l A c B w ok h0 hk (zcu ok h0) hc hv hB hs h
  ·exact zms s sv now l A c B w ok h0 hk (zcu ok h0) hc hv hB hs h
 ·exact zqj s sv now l A c B w ok hk hl hv hB hs h
def doE(s:List Ent)(now:Int):Int:=if z1t s≠0 then z1t s else if z3a now=false then 3 else 0
def doS(s:List Ent)(now:Int)(l:List ByteArray):List Ent:=if doE s now=0 then (doR s now l).1 else []
def doV(s:List Ent)(now:Int)(l:List ByteArray):Rep:=if doE s now=0 then (doR s now l).2 else zeroR
def DoQ(s:List Ent)(r:Rep)(c:Int)(w:World)(e:Ending)(w':World):Prop:=
 ∃u v,e=.returned (.tuple #[u,v,.int .i64 c])∧z1w w' w.heap.size u s∧z1f w' w.heap.size v r∧Fr [] w w'
theorem zb6{s:List Ent}{now:Int}(h:doE s now=0):z1m s∧0≤now∧now≤1000000:=by
 unfold doE at h
 by_cases hc:z1t s=0
 ·rw[if_neg (by simpa using hc)] at h
  by_cases ht:z3a now=true
  ·unfold z3a at ht
   exact⟨zta hc,by simpa using ht⟩
  ·rw[if_pos (by simpa using ht)] at h;cases h
 ·rw[if_pos hc] at h;exact absurd h hc
theorem zu1{s:List Ent}{now:Int}(ok:z1m s)(h:0≤now∧now≤1000000):doE s now=0:=by
 unfold doE
 rw[if_neg (by simpa using zji ok),if_neg (by unfold z3a;rw[decide_eq_true h.1,decide_eq_true h.2];decide)]
theorem zc7(s:List Ent)(sv:Value)(now:Int)(l:List ByteArray)(A:Option Addr)(c B:Nat)(w:World)(hs:∀e∈s,e.Small)(hsl:s.length≤281474976710656)(hl:l.length≤281474976710656)(hv:Vars w)(hB:B≤w.heap.size)(h:z0v w B sv s)(hL:Sl w B 1 (.slice A l.length c) l.length (z03 l)) :
  Calls prog 8 #[sv,.int .i64 now,.slice A l.length c] w (DoQ (doS s now l) (doV s now l) (doE s now) w):=by
 have F0:=hid ((Fr.refl [] w).alloc (.cells #[.int .i64 0,.string ⟨#[]⟩,.int .i64 0,.slice none 0 0] 27))
 have Q0:=hid (Whole.new w 27 [.int .i64 0,.string ⟨#[]⟩,.int .i64 0,.slice none 0 0])
 have CK:=hid (fun W (hW:Fr [] w W)=>z5u s sv W B hs hsl (Nat.le_trans hB hW.size) (h.fr hW hB (by simp)))
 have TM:=hid (fun W=>z88 now W)
 obtain⟨n,hn⟩:∃n,n=l.length:=⟨_,rfl⟩
 by_cases hc:z1t s=0
 ·rw[hc] at CK
  by_cases ht:z3a now=true
  ·rw[ht] at TM
   have ok:=zta hc
   have h0:0≤now∧now≤1000000:=by unfold z3a at ht;simpa using ht
   have RW:=hid (fun W (hW:Fr [] w W)=>zlk s sv now l A c B W ok h0 hl (hv.fr hW) (Nat.le_trans hB hW.size) (h.fr hW hB (by simp)) (hL.fr hW hB (by simp)))
   have e0:=zu1 ok h0
   have GD:=hid (zt2 s now l)
   unfold doS doV
   rw[e0,if_pos rfl,if_pos rfl]
   unfold ztw at RW
   rw[←hn] at RW ⊢
   clear h hL hs hsl hl hv hc ht ok h0 e0 hn
   generalize doR s now l=pp at *
   obtain⟨ps,pr⟩:=pp
   simp only at RW GD ⊢
   go_enter Tryz.func8,Tryz.ntmps8
   go_wp2_with fail
   refine(CK.out _ F0.out).mono ?_
   rintro e1 w1 ⟨rfl,f1⟩
   have F1:=hid (F0.out.trans f1)
   have Q1:=hid (Q0.out.fr f1 (by simp))
   clear f1
   go_wp2_with fail
   refine(TM.out _).mono ?_
   rintro e2 w2 ⟨rfl,rfl⟩
   go_wp2_with fail
   refine(RW.out _ F1.out).mono ?_
   rintro e5 w5 ⟨u,v,rfl,hu,hr,f5⟩
   obtain⟨UA,uc,rfl⟩:=hu.form
   obtain⟨R,rc,rfl⟩:=hr.form
   have hz1:=F1.out.size
   have HU:=hid (hu.base hz1)
   have HR:=hid (hr.base hz1)
   have Q5:=hid (Q1.out.fr f5 (by simp))
   have F5:=hid (F1.out.trans f5)
   clear hu hr f5
   have R6:=hid (Whole.new w5 27 [.int .i64 pr.kind,.string pr.text,.int .i64 pr.n,.slice R pr.list.length rc])
   have K6:=hid ((Fr.refl [] w5).alloc (.cells #[.int .i64 pr.kind,.string pr.text,.int .i64 pr.n,.slice R pr.list.length rc] 27))
   have F6:=hid (F5.out.trans K6.out)
   have Q6:=hid (Q5.out.fr K6.out (by simp))
   have HU6:=hid (HU.out.fr K6.out)
   have HR6:=hid (HR.out.fr K6.out)
   have hne1:¬w.heap.size=w5.heap.size:=by have:=Q5.out.lt;omega
   have hne2:¬w5.heap.size=w.heap.size:=by have:=Q5.out.lt;omega
   obtain⟨r0,r1,r2,r3⟩:=four R6.out
   obtain⟨q0,q1,q2,q3⟩:=four Q6.out
   obtain⟨z0,z1,z2,z3⟩:=z0w Q6.out
   go_upto_region 7 with fail
   go_region
   go_wp2
   refine bodyPost_ret (v:=.tuple #[.slice UA ps.length uc,.agg #[.int .i64 pr.kind,.string pr.text,.int .i64 pr.n,.slice R pr.list.length rc],.int .i64 0]) (by simp[results,Tryz.results8,go_sem,q0,q1,q2,q3]) rfl ?_
   exact⟨_,_,rfl,(HU6.out.set4W Q6.out (.int .i64 pr.kind) (.string pr.text) (.int .i64 pr.n) (.slice R pr.list.length rc)).fr (Fr.refl [] _).drew,(z2k HR6.out GD.out Q6.out (.int .i64 pr.kind) (.string pr.text) (.int .i64 pr.n) (.slice R pr.list.length rc)).fr (Fr.refl [] _).drew,(z1o F6.out (Nat.le_refl _) (.int .i64 pr.kind) (.string pr.text) (.int .i64 pr.n) (.slice R pr.list.length rc)).trans (Fr.refl [] _).drew⟩
  ·have hf:z3a now=false:=by simpa using ht
   rw[hf] at TM
   have e3:doE s now=3:=by unfold doE;rw[if_neg (by simpa using hc),if_pos hf]
   unfold doS doV
   rw[e3,if_neg (by decide),if_neg (by decide)]
   rw[←hn]
   clear h hL hs hsl hl hv hc ht hf e3 hn
   go_enter Tryz.func8,Tryz.ntmps8
   go_wp2_with fail
   refine(CK.out _ F0.out).mono ?_
   rintro e1 w1 ⟨rfl,f1⟩
   have F1:=hid (F0.out.trans f1)
   have Q1:=hid (Q0.out.fr f1 (by simp))
   clear f1
   go_wp2_with fail
   refine(TM.out _).mono ?_
   rintro e2 w2 ⟨rfl,rfl⟩
   obtain⟨q0,q1,q2,q3⟩:=four Q1.out
   obtain⟨z0,z1,z2,z3⟩:=z0w Q1.out
   go_wp2
   refine bodyPost_ret (v:=.tuple #[.slice none 0 0,.agg #[.int .i64 0,.string ⟨#[]⟩,.int .i64 0,.slice none 0 0],.int .i64 3]) (by simp[results,Tryz.results8,go_sem,q0,q1,q2,q3]) rfl ?_
   exact⟨_,_,rfl,z1w.nil _ _,z1f.bare _ _ _ _ _,z1o F1.out (Nat.le_refl _) _ _ _ _⟩
 ·have q1:(z1t s==0)=false:=by simpa using hc
  have q2:(z1t s != 0)=true:=by simpa using hc
  have e1:doE s now=z1t s:=by unfold doE;rw[if_pos hc]
  unfold doS doV
  rw[e1,if_neg hc,if_neg hc]
  rw[←hn]
  clear h hL hs hsl hl hv hc e1 hn TM
  generalize z1t s=ec at *
  go_enter Tryz.func8,Tryz.ntmps8
  go_wp2_with fail
  refine(CK.out _ F0.out).mono ?_
  rintro e1 w1 ⟨rfl,f1⟩
  have F1:=hid (F0.out.trans f1)
  have Q1:=hid (Q0.out.fr f1 (by simp))
  clear f1
  obtain⟨y0,y1,y2,y3⟩:=four Q1.out
  obtain⟨z0,z1,z2,z3⟩:=z0w Q1.out
  go_wp2
  refine bodyPost_ret (v:=.tuple #[.slice none 0 0,.agg #[.int .i64 0,.string ⟨#[]⟩,.int .i64 0,.slice none 0 0],.int .i64 ec]) (by simp[results,Tryz.results8,go_sem,y0,y1,y2,y3]) rfl ?_
  exact⟨_,_,rfl,z1w.nil _ _,z1f.bare _ _ _ _ _,z1o F1.out (Nat.le_refl _) _ _ _ _⟩
theorem zxt{α:Type}{lt:α→α→Bool}(irr:∀a,lt a a=false)(htr:∀a b c,lt a b=true→lt b c=true→lt a c=true):∀ {a b:List α},a.Pairwise (fun x y=>lt x y=true)→b.Pairwise (fun x y=>lt x y=true)→(∀s,s∈a↔s∈b)→a=b:=by
 intro a b pa pb h
 have asy:∀s t,lt s t=true→lt t s=true→False:=fun s t h1 h2=>by
  have:=htr s t s h1 h2
  rw[irr] at this
  cases this
 induction a generalizing b with
 | nil=>
  cases b with
  | nil=>rfl
  | cons y b=>exact absurd ((h y).2 (by simp)) (by simp)
 | cons x a ih=>
  cases b with
  | nil=>exact absurd ((h x).1 (by simp)) (by simp)
  | cons y b=>
   have pa':=List.pairwise_cons.1 pa
   have pb':=List.pairwise_cons.1 pb
   have exy:x=y:=by
    rcases List.mem_cons.1 ((h x).1 (by simp)) with e|hx
    ·exact e
    ·rcases List.mem_cons.1 ((h y).2 (by simp)) with e|hy
     ·exact e.symm
     ·exact(asy _ _ (pa'.1 y hy) (pb'.1 x hx)).elim
   subst exy
   congr 1
   refine ih pa'.2 pb'.2 (fun s=>⟨fun hs=>?_,fun hs=>?_⟩)
   ·rcases List.mem_cons.1 ((h s).1 (List.mem_cons_of_mem _ hs)) with e|k
    ·subst e;have:=pa'.1 s hs;rw[irr] at this;cases this
    ·exact k
   ·rcases List.mem_cons.1 ((h s).2 (List.mem_cons_of_mem _ hs)) with e|k
    ·subst e;have:=pb'.1 s hs;rw[irr] at this;cases this
    ·exact k
theorem zux(e:Ent):ltK Ent.key e e=false:=decide_eq_false (by rw[z4l];omega)
theorem zfw{a b:List Ent}(ha:rises (ltK Ent.key) a=true)(hb:rises (ltK Ent.key) b=true)(h:∀e,e∈a↔e∈b):a=b:=zxt zux (z33 Ent.key) (z2n (z33 Ent.key) ha) (z2n (z33 Ent.key) hb) h
theorem zfh{l:List Ent}{p q:Ent}:q∈zb5 l p↔q=p∨q∈l:=by
 refine⟨zhm,?_⟩
 unfold zb5 zcv
 rintro(rfl|h)
 ·simp
 ·have:=List.take_append_drop (z1z Ent.key l p.key) l
  rw[←this] at h
  rcases List.mem_append.1 h with h|h
  ·exact List.mem_append.2 (.inl h)
  ·exact List.mem_append.2 (.inr (.tail _ h))
theorem zas{l:List Ent}{s:ByteArray}{e:Ent}:e∈z2m l s↔e∈l∧e.key≠s:=by
 unfold z2m
 rw[List.mem_filter]
 simp
theorem z68{l:List Ent}{now:Int}{e:Ent}:e∈z17 l now↔e∈l∧z1r e.til now=false:=by
 unfold z17
 rw[List.mem_filter]
 simp
theorem z5i{l:List Ent}(h:rises (ltK Ent.key) l=true)(now:Int):rises (ltK Ent.key) (z17 l now)=true:=z3i ((z2n (z33 Ent.key) h).filter _)
structure Seen(now:Int)(a b:List Ent):Prop where
 ra:rises (ltK Ent.key) a=true
 rb:rises (ltK Ent.key) b=true
 eq:z17 a now=z17 b now
theorem Seen.look{now:Int}{a b:List Ent}(h:Seen now a b)(k:ByteArray):z00 a now k=z00 b now k:=by
 unfold z00
 rw[←zaf (Int.le_refl now) a,h.eq,zaf (Int.le_refl now)]
theorem Seen.keys{now:Int}{a b:List Ent}(h:Seen now a b)(p:ByteArray):z8b a now p=z8b b now p:=by
 rw[←zea (Int.le_refl now) a,h.eq,zea (Int.le_refl now)]
theorem Seen.items{now:Int}{a b:List Ent}(h:Seen now a b)(l:List ByteArray):z05 a now l=z05 b now l:=by
 unfold z05
 congr 1
 funext k
 rw[h.look]
theorem Seen.there{now:Int}{a b:List Ent}(h:Seen now a b)(k:ByteArray):z3x a now k=z3x b now k:=by
 unfold z3x
 rw[h.look]
theorem Seen.mem{now:Int}{a b:List Ent}(h:Seen now a b)(e:Ent)(hg:z1r e.til now=false):e∈a↔e∈b:=by
 have h1:e∈z17 a now↔e∈z17 b now:=by rw[h.eq]
 rw[z68,z68] at h1
 simpa[hg] using h1
theorem Seen.off{now:Int}{a b:List Ent}(h:Seen now a b)(k:ByteArray):Seen now (z2m a k) (z2m b k):=by
 refine⟨z7s h.ra k,z7s h.rb k,zfw (z5i (z7s h.ra k) now) (z5i (z7s h.rb k) now) (fun e=>?_)⟩
 rw[z68,z68,zas,zas]
 by_cases hg:z1r e.til now=false
 ·rw[h.mem e hg]
 ·simp[hg]
theorem Seen.ins{now:Int}{a b:List Ent}(h:Seen now a b)(k:ByteArray)(x:Itm)(u:Int):z17 (zb5 (z2m a k) ⟨k,x,u⟩) now=z17 (zb5 (z2m b k) ⟨k,x,u⟩) now:=by
 refine zfw (z5i (z7p h.ra k x u) now) (z5i (z7p h.rb k x u) now) (fun e=>?_)
 rw[z68,z68,zfh,zfh,zas,zas]
 by_cases hg:z1r e.til now=false
 ·rw[h.mem e hg]
 ·simp[hg]
theorem ze1(a:List Ent)(now:Int)(k:ByteArray)(x:Itm)(u:Int):z17 (z8z a now k x u) now=z17 (zb5 (z2m a k) ⟨k,x,u⟩) now:=by
 unfold z8z
 split
 ·exact zd8 _ _
 ·rfl
theorem z9p(a:List Ent)(now:Int)(k:ByteArray)(x:Itm)(u:Int):16 < (z8z a now k x u).length↔16 < (z17 (zb5 (z2m a k) ⟨k,x,u⟩) now).length:=by
 unfold z8z
 split
 ·exact Iff.rfl
 ·rename_i h
  have:(z17 (zb5 (z2m a k) ⟨k,x,u⟩) now).length≤(zb5 (z2m a k) ⟨k,x,u⟩).length:=List.length_filter_le _ _
  omega
theorem Seen.code{now:Int}{a b:List Ent}(h:Seen now a b)(k:ByteArray)(x:Itm)(u:Int):z1e a now k x u=z1e b now k x u:=by
 unfold z1e
 split
 ·rfl
 ·have:(16 < (z8z a now k x u).length)=(16 < (z8z b now k x u).length):=propext (by rw[z9p,z9p,h.ins])
  simp only[this]
theorem Seen.put{now:Int}{a b:List Ent}(h:Seen now a b)(k:ByteArray)(x:Itm)(u:Int):Seen now (z5l a now k x u) (z5l b now k x u):=by
 unfold z5l
 by_cases hn:z0o x=true
 ·rw[if_pos hn,if_pos hn];exact h.off k
 ·rw[if_neg hn,if_neg hn]
  have hm:16 < (z8z a now k x u).length↔16 < (z8z b now k x u).length:=by rw[z9p,z9p,h.ins]
  by_cases h16:16 < (z8z a now k x u).length
  ·rw[if_pos h16,if_pos (hm.1 h16)];exact⟨rfl,rfl,rfl⟩
  ·rw[if_neg h16,if_neg (fun k=>h16 (hm.2 k))]
   exact⟨za5 h.ra _ _ _ _,za5 h.rb _ _ _ _,by rw[ze1,ze1,h.ins]⟩
def zv9(now:Int)(p q:List Ent×Rep):Prop:=Seen now p.1 q.1∧p.2=q.2
theorem Seen.fin{now:Int}{a b:List Ent}(h:Seen now a b)(key:ByteArray)(y:Itm)(til:Int)(chg nn:Bool)(e:Int)(r:Rep):zv9 now (fin a now key y til chg nn e r) (fin b now key y til chg nn e r):=by
 unfold Go.Proofs.YtamgdmiopinidaaGreatDoor.fin
 by_cases he:e=0
 ·rw[if_pos he,if_pos he]
  by_cases hc:chg=true
  ·rw[if_pos hc,if_pos hc,h.code]
   by_cases hp:z1e b now key y til=0
   ·rw[if_pos hp,if_pos hp];exact⟨h.put _ _ _,rfl⟩
   ·rw[if_neg hp,if_neg hp];exact⟨h,rfl⟩
  ·rw[if_neg hc,if_neg hc];exact⟨h,rfl⟩
 ·rw[if_neg he,if_neg he]
  split <;> exact⟨h,rfl⟩
theorem Seen.del{now:Int}:∀(l:List ByteArray) {a b:List Ent} (n:Nat),Seen now a b→Seen now (z8c now l a n).1 (z8c now l b n).1∧(z8c now l a n).2=(z8c now l b n).2
 | [],_,_,_,h=>⟨h,rfl⟩
 | k :: l,a,b,n,h=>by
  unfold z8c
  rw[h.there]
  exact Seen.del l _ (h.put k (z2r 0) 0)
theorem Seen.doC{now:Int}{a b:List Ent}(h:Seen now a b)(c:Cm)(l:List ByteArray):zv9 now (doC c a now l) (doC c b now l):=by
 have hl:=h.look (wd l 1)
 have hi:=h.items (l.drop 1)
 have hk:=h.keys (wd l 1)
 have hf:=fun y til chg nn e r=>h.fin (wd l 1) y til chg nn e r
 cases c
 case ping=>exact⟨h,rfl⟩
 case get=>
  simp only[Go.Proofs.YtamgdmiopinidaaGreatDoor.doC,hl]
  split
  ·exact hf _ _ _ _ _ _
  ·exact hf _ _ _ _ _ _
 case del=>
  have:=Seen.del (now:=now) (l.drop 1) 0 h
  exact⟨this.1,by show z0h _=z0h _;rw[this.2]⟩
 case exists_=>
  refine⟨h,?_⟩
  show z0h _=z0h _
  have:(fun k=>z3x a now k)=(fun k=>z3x b now k):=funext h.there
  rw[this]
 case type_=>
  simp only[Go.Proofs.YtamgdmiopinidaaGreatDoor.doC,hl]
  exact⟨h,rfl⟩
 case ttl=>
  simp only[Go.Proofs.YtamgdmiopinidaaGreatDoor.doC,hl]
  exact⟨h,rfl⟩
 case expire=>
  simp only[Go.Proofs.YtamgdmiopinidaaGreatDoor.doC,hl]
  split
  ·exact⟨h,rfl⟩
  ·split
   ·exact hf _ _ _ _ _ _
   ·exact hf _ _ _ _ _ _
 case persist=>
  simp only[Go.Proofs.YtamgdmiopinidaaGreatDoor.doC,hl]
  split
  ·exact⟨h,rfl⟩
  ·exact hf _ _ _ _ _ _
 all_goals
  simp only[Go.Proofs.YtamgdmiopinidaaGreatDoor.doC,hl,hi,hk]
  exact hf _ _ _ _ _ _
theorem Seen.doR{now:Int}{a b:List Ent}(h:Seen now a b)(l:List ByteArray):zv9 now (doR a now l) (doR b now l):=by
 unfold Go.Proofs.YtamgdmiopinidaaGreatDoor.doR
 by_cases hk:z1l l=0
 ·rw[if_neg (by simpa using hk),if_neg (by simpa using hk)]
  split
  ·exact⟨h,rfl⟩
  ·exact h.doC _ l
 ·rw[if_pos hk,if_pos hk];exact⟨h,rfl⟩
theorem zmi{s:List Ent}(hr:rises (ltK Ent.key) s=true)(now:Int):Seen now s (z17 s now):=⟨hr,z5i hr now,(zd8 s now).symm⟩
theorem zlj{s:List Ent}{now til:Int}{key o:ByteArray}{y:Itm}(h:o≠key)(hp:z1e s now key y til=0):z2c (z5l s now key y til) now o=z2c s now o:=by
 unfold z5l
 by_cases hn:z0o y=true
 ·rw[if_pos hn];exact zgw s h now
 ·rw[if_neg hn]
  unfold z1e at hp
  rw[if_neg hn] at hp
  by_cases h16:16 < (z8z s now key y til).length
  ·rw[if_pos h16] at hp;cases hp
  ·rw[if_neg h16];exact zp9 s y til h now
theorem zps{s:List Ent}{now:Int}{key o:ByteArray}{y:Itm}{til:Int}{chg nn:Bool}{e:Int}{r:Rep}(h:o≠key):z2c (fin s now key y til chg nn e r).1 now o=z2c s now o:=by
 unfold fin
 by_cases he:e=0
 ·rw[if_pos he]
  by_cases hc:chg=true
  ·rw[if_pos hc]
   by_cases hp:z1e s now key y til=0
   ·rw[if_pos hp];exact zlj h hp
   ·rw[if_neg hp]
  ·rw[if_neg hc]
 ·rw[if_neg he]
  split <;> rfl
theorem zh1{now:Int}{o:ByteArray}:∀(l:List ByteArray) (s:List Ent) (n:Nat),o∉l→z2c (z8c now l s n).1 now o=z2c s now o
 | [],_,_,_=>rfl
 | k :: l,s,n,h=>by
  unfold z8c
  rw[zh1 l _ _ (fun hm=>h (.tail _ hm))]
  have:o≠k:=fun e=>h (by rw[e];exact .head _)
  unfold z5l
  rw[if_pos z26]
  exact zgw s this now
theorem zwz{l:List ByteArray}{i:Nat}(h:i < l.length):wd l i∈l:=by
 unfold wd
 rw[List.getD_eq_getElem?_getD,List.getElem?_eq_getElem h]
 exact List.getElem_mem h
theorem zog(c:Cm)(s:List Ent)(now:Int)(l:List ByteArray)(o:ByteArray)(h:o∉l)(h2:c≠.ping→2≤l.length):z2c (doC c s now l).1 now o=z2c s now o:=by
 by_cases hp:c=.ping
 ·subst hp;rfl
 have ho:o≠wd l 1:=fun e=>h (by rw[e];exact zwz (h2 hp))
 have hf:=fun y til chg nn e r=>zps (s:=s) (now:=now) (key:=wd l 1) (o:=o) (y:=y) (til:=til) (chg:=chg) (nn:=nn) (e:=e) (r:=r) ho
 cases c
 case ping=>rfl
 case get=>
  simp only[doC]
  split
  ·exact hf _ _ _ _ _ _
  ·exact hf _ _ _ _ _ _
 case del=>exact zh1 (l.drop 1) s 0 (fun hm=>h (List.mem_of_mem_drop hm))
 case exists_=>rfl
 case type_=>rfl
 case ttl=>rfl
 case expire=>
  simp only[doC]
  split
  ·rfl
  ·split
   ·exact hf _ _ _ _ _ _
   ·exact hf _ _ _ _ _ _
 case persist=>
  simp only[doC]
  split
  ·rfl
  ·exact hf _ _ _ _ _ _
 all_goals exact hf _ _ _ _ _ _
theorem zht(s:List Ent)(now:Int)(l:List ByteArray)(o:ByteArray)(h:o∉l):z2c (doR s now l).1 now o=z2c s now o:=by
 unfold doR
 by_cases hk:z1l l=0
 ·rw[if_neg (by simpa using hk)]
  obtain⟨c0,l',c,rfl,h1,h2,KF⟩:=z6n hk
  rw[h2]
  refine zog c s now _ o h (fun hp=>?_)
  have:=z0c KF.ok
  have hl:1≤c.shp.least:=by cases c <;> first|exact absurd rfl hp|exact(by decide)
  rw[List.length_cons]
  omega
 ·rw[if_pos hk]
theorem zpb{s:List Ent}{now:Int}{l:List ByteArray}{e:Ent}(ok:z1m s)(he:e∈s)(hk:e.key∉l)(hg:z1r e.til now=false):z00 (doR s now l).1 now e.key=e:=by
 unfold z00
 rw[zht s now l e.key hk,zd9 ok.rise he now,hg]
 rfl
theorem zs5{s:List Ent}{now:Int}{l:List ByteArray}{e:Ent}(ok:z1m s)(h0:0≤now∧now≤1000000)(he:e∈(doR s now l).1)(hk:e.key∉l)(hg:z1r e.til now=false):(z00 s now e.key).item.kind≠0:=by
 have oa:=zcu (l:=l) ok h0
 have h1:=zd9 oa.rise he now
 rw[hg,zht s now l e.key hk] at h1
 unfold z00
 rw[h1]
 have:=(z4h (oa.items e he)).kind
 show e.item.kind≠0
 omega
def zeh:ByteArray:=⟨#[115,101,116]⟩
def zwh:ByteArray:=⟨#[103,101,116]⟩
def zwi:ByteArray:=⟨#[100,101,108]⟩
def zfr:ByteArray:=⟨#[112,101,114,115,105,115,116]⟩
theorem zrs{l:List ByteArray}(h1:1≤l.length)(h2:l.length≤12)(h3:∀s∈l,s.size≤60):z0r l=0:=by
 unfold z0r
 rw[if_neg (by omega),if_neg (by omega),if_neg (by rw[zh9 (fun s hs=>by unfold z40;exact decide_eq_false (by have:=h3 s hs;omega))];decide)]
theorem zpv{c0 key:ByteArray}{c:Cm}(hc:zwn (zrv c0)=some c)(h0:c0.size≤60)(hk:key.size≤60)(hb:c.shp.bad 1=false)(hn:c.shp.nums=0):z1l [c0,key]=0:=by
 unfold z1l
 have hw:z0r [c0,key]=0:=zrs (by simp) (by simp) (fun s hs=>by
  rcases List.mem_cons.1 hs with rfl|hs
  ·exact h0
  ·rw[List.mem_singleton.1 hs];exact hk)
 rw[if_neg (by simpa using hw)]
 have hm:cmL [c0,key]=some c:=hc
 rw[hm]
 show(if c.shp.bad 1=true then (1:Int) else if z5e c.shp 0 [key]=true then 0 else 3)=0
 rw[hb]
 have:z5e c.shp 0 [key]=true:=by
  show((!c.shp.num 0||isN key)&&true)=true
  have hn':c.shp.num 0=false:=by unfold Shp.num;rw[hn];rfl
  rw[hn']
  rfl
 rw[this]
 rfl
theorem zvm{c0 key:ByteArray}{c:Cm}(hc:zwn (zrv c0)=some c)(h0:c0.size≤60)(hk:key.size≤60)(hb:c.shp.bad 1=false)(hn:c.shp.nums=0)(s:List Ent)(now:Int):doR s now [c0,key]=doC c s now [c0,key]:=by
 unfold doR
 rw[if_neg (by simpa using zpv hc h0 hk hb hn)]
 have hm:cmL [c0,key]=some c:=hc
 rw[hm]
structure TwI(s:List Ent)(now:Int)(k v:ByteArray)(a c:List Ent):Prop where
 set1:doR s now [zeh,k,v]=(a,z2x tOK)
 oka:z1m a
 set2:doR a now [zeh,k,v]=(a,z2x tOK)
 get1:doR a now [zwh,k]=(a,z1b v)
 del1:doR a now [zwi,k]=(c,z0h 1)
 okc:z1m c
 del2:doR c now [zwi,k]=(c,z0h 0)
 get2:doR c now [zwh,k]=(c,zbq)
 per:doR a now [zfr,k]=(a,z0h 0)
theorem twI{s:List Ent}{now:Int}{k v:ByteArray}(ok:z1m s)(h0:0≤now∧now≤1000000)(h2:(doR s now [zeh,k,v]).2.kind≠2):TwI s now k v (doR s now [zeh,k,v]).1 (z2m (doR s now [zeh,k,v]).1 k):=by
 have hkn:z1l [zeh,k,v]=0:=by
  by_cases h:z1l [zeh,k,v]=0
  ·exact h
  ·exact absurd (by unfold doR;rw[if_pos h];rfl) h2
 have hsz:=za7 hkn
 have hk:k.size≤60:=hsz k (.tail _ (.head _))
 have hv:v.size≤60:=hsz v (.tail _ (.tail _ (.head _)))
 have ES:∀b,doR b now [zeh,k,v]=if z1e b now k (z27 v) 0=0 then (z5l b now k (z27 v) 0,z2x tOK) else (b,z78 (z1e b now k (z27 v) 0)):=fun b=>by
  unfold doR
  rw[if_neg (by simpa using hkn)]
  rfl
 have hp:z1e s now k (z27 v) 0=0:=by
  by_cases h:z1e s now k (z27 v) 0=0
  ·exact h
  ·rw[ES,if_neg h] at h2;exact absurd rfl h2
 have e1:doR s now [zeh,k,v]=(z5l s now k (z27 v) 0,z2x tOK):=by rw[ES,if_pos hp]
 have oka:=zcu (l:=[zeh,k,v]) ok h0
 rw[e1] at oka ⊢
 obtain⟨a,ha⟩:∃a,a=z5l s now k (z27 v) 0:=⟨_,rfl⟩
 have hn:z0o (z27 v)=false:=by
  have h1:((1:Int)==0)=false:=by decide
  show(((1:Int)==0)&&_)=false
  rw[h1];rfl
 have h16:¬16 < (z8z s now k (z27 v) 0).length:=fun h=>by
  unfold z1e at hp
  rw[if_neg (by rw[hn];decide),if_pos h] at hp
  cases hp
 have ha2:a=z8z s now k (z27 v) 0:=by
  rw[ha];unfold z5l
  rw[if_neg (by rw[hn];decide),if_neg h16]
 rw[←ha] at oka e1 ⊢
 have oka1:z1m a:=oka
 clear oka
 have oka:=oka1
 have hm:(⟨k,z27 v,0⟩:Ent)∈a:=by
  rw[ha2];unfold z8z
  split
  ·exact List.mem_filter.2 ⟨zkz,rfl⟩
  ·exact zkz
 have hlo:z2c a now k=some ⟨k,z27 v,0⟩:=zd9 oka.rise hm now
 have hle:z00 a now k=⟨k,z27 v,0⟩:=by unfold z00;rw[hlo];rfl
 have only:∀e∈a,e.key=k→e=⟨k,z27 v,0⟩:=fun e he hek=>by
  have hl0:z2c a 0 k=some ⟨k,z27 v,0⟩:=zd9 oka.rise hm 0
  have:=zd9 oka.rise he 0
  rw[hek,hl0] at this
  split at this
  ·cases this
  ·exact(Option.some.inj this).symm
 have hins:zb5 (z2m a k) ⟨k,z27 v,0⟩=a:=zfw (z7p oka.rise k _ _) oka.rise (fun e=>by
  rw[zfh,zas]
  constructor
  ·rintro(rfl|h)
   ·exact hm
   ·exact h.1
  ·intro he
   by_cases hek:e.key=k
   ·exact .inl (only e he hek)
   ·exact .inr ⟨he,hek⟩)
 have hput:z8z a now k (z27 v) 0=a:=by
  unfold z8z
  rw[hins,if_neg (by have:=oka.le;omega)]
 have hpc:z1e a now k (z27 v) 0=0:=by
  unfold z1e
  rw[hput,if_neg (by rw[hn];decide),if_neg (by have:=oka.le;omega)]
 have hpe:z5l a now k (z27 v) 0=a:=by
  unfold z5l
  rw[hput,if_neg (by rw[hn];decide),if_neg (by have:=oka.le;omega)]
 have okc:z1m (z2m a k):=z4d oka _
 have hcn:∀e∈z2m a k,e.key≠k:=fun e he=>(zas.1 he).2
 have hlc:z00 (z2m a k) now k=zwk:=by unfold z00;rw[zlr hcn];rfl
 have hoc:z2m (z2m a k) k=z2m a k:=zff okc.rise (zhu oka.rise k)
 have D2:=fun(c0:ByteArray) (c:Cm) hc h0' hb hn' b=>zvm (c0:=c0) (key:=k) (c:=c) hc h0' hk hb hn' b now
 refine⟨by rw[e1],oka,?_,?_,?_,okc,?_,?_,?_⟩
 ·rw[ES,if_pos hpc,hpe]
 ·rw[D2 zwh .get rfl (by decide) rfl rfl]
  have e2:(z00 a now k).item=z27 v:=by rw[hle]
  show(if (z00 a now k).item.kind=0 then _ else _)=_
  rw[e2,if_neg (by show ¬(1:Int)=0;decide)]
  have hc:z02 1 (z27 v)=0:=by
   unfold z02
   rw[if_neg (by rw[hn];decide),if_pos (zq7 hv)]
   rfl
  show fin a now k _ _ false false (z02 1 (z00 a now k).item) (z1b (z00 a now k).item.text)=_
  rw[z23,e2,hc]
  rfl
 ·rw[D2 zwi .del rfl (by decide) rfl rfl]
  have ht:z3x a now k=true:=by
   unfold z3x
   rw[hle]
   exact decide_eq_true (by show(1:Int)≠0;decide)
  show((z8c now [k] a 0).1,z0h (z8c now [k] a 0).2)=_
  unfold z8c
  rw[ht]
  unfold z8c z5l
  rw[if_pos z26]
  rfl
 ·rw[D2 zwi .del rfl (by decide) rfl rfl]
  have ht:z3x (z2m a k) now k=false:=by
   unfold z3x
   rw[hlc]
   exact decide_eq_false (by show ¬((0:Int)≠0);decide)
  show((z8c now [k] (z2m a k) 0).1,z0h (z8c now [k] (z2m a k) 0).2)=_
  unfold z8c
  rw[ht]
  unfold z8c z5l
  rw[if_pos z26,hoc]
  rfl
 ·rw[D2 zwh .get rfl (by decide) rfl rfl]
  have e2:(z00 (z2m a k) now k).item=z2r 0:=by rw[hlc];rfl
  show(if (z00 (z2m a k) now k).item.kind=0 then fin (z2m a k) now k _ _ false false (z02 1 (z00 (z2m a k) now k).item) zbq else _)=_
  rw[e2,if_pos (by rfl),z23]
  have hc:z02 1 (z2r 0)=0:=by unfold z02;rw[if_pos z26]
  rw[hc]
  rfl
 ·rw[D2 zfr .persist rfl (by decide) rfl rfl]
  show(if (z00 a now k).item.kind=0∨(z00 a now k).til=0 then _ else _)=_
  rw[hle,if_pos (.inr rfl)]
end Go.Proofs.YtamgdmiopinidaaGreatDoor
