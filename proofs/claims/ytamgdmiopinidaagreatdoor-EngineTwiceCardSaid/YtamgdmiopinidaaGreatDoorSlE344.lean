/- Contracts that the proof of E3 uses. No condition beyond those in each theorem. -/
import Derived.Test.YtamgdmiopinidaaGreatDoorSlE343
import Derived.Deep.DeepLaidRun
import Derived.Lib.LaidTab
import Derived.ProofKit
import Derived.Stop.ErrReads
import Derived.Stop.LaidErr
import Derived.Test.YtamgdmiopinidaaGreatDoorRows
set_option linter.unusedVariables false
set_option linter.unusedSimpArgs false
set_option maxHeartbeats 8000000
set_option maxRecDepth 100000
namespace Go.Proofs.YtamgdmiopinidaaGreatDoor
open Lib (hid)
open Go.Proofs.Tryz (prog)
open Go.RowKit
theorem zrm{n:Int}(h1:-999999999≤n)(h2:n≤999999999):z0m n=true:=by
 unfold z0m
 rw[decide_eq_true h1,decide_eq_true h2]
 rfl
theorem zv8:(⟨#[]⟩:ByteArray)=ByteArray.empty:=rfl
theorem znm{n:Int}(h:z0m n=true):z1n (z0h n)=0:=by
 show z3l ⟨3,⟨#[]⟩,n,0⟩=0
 unfold z3l
 simp[h,zv8]
theorem z5q{n:Int}(h1:-1000000≤n)(h2:n≤1000000):z1n (z0h n)=0:=znm (zrm (by omega) (by omega))
theorem zf3{s:ByteArray}(h:s.size≤60):z1n (z1b s)=0:=by
 show z3l ⟨4,s,0,0⟩=0
 unfold z3l
 simp
 omega
theorem zfi{e:Int}(h:1≤e∧e≤8):z1n (z78 e)=0:=by
 show z3l ⟨2,⟨#[]⟩,e,0⟩=0
 unfold z3l
 simp[zv8]
 omega
theorem zop:z1n zbq=0:=by decide
theorem zxy:z1n (z2x tOK)=0:=by decide
theorem zv7:z1n (z2x zy6)=0:=by decide
theorem zuu(k:Int):z1n (z2x (zio k))=0:=by
 unfold zio
 repeat' split
 all_goals decide
theorem zat{l:List ByteArray}(hl:l.length≤300)(ht:∀s∈l,s.size≤60):z1n (z25 l)=0:=by
 unfold z1n z25
 rw[if_neg (by simp),if_neg (by simp[zv8]),if_neg (by simp;omega)]
 refine zci fun x hx=>?_
 obtain⟨s,hs,rfl⟩:=List.mem_map.1 hx
 have:=ht s hs
 unfold z3l
 simp
 omega
abbrev Cd(e:Int):Prop:=0≤e∧e≤8
theorem zwm(s:List Ent)(now:Int)(k:ByteArray)(y:Itm)(u:Int):z1e s now k y u=0∨z1e s now k y u=2:=by
 unfold z1e
 repeat' split
 all_goals simp
theorem z1s{s:List Ent}{now:Int}{key:ByteArray}{y:Itm}{til:Int}{chg nn:Bool}{e:Int}{r:Rep}(hr:e=0→z1n r=0)(he:Cd e):z1n (fin s now key y til chg nn e r).2=0:=by
 unfold fin
 by_cases h0:e=0
 ·rw[if_pos h0]
  by_cases hc:chg=true
  ·rw[if_pos hc]
   by_cases hp:z1e s now key y til=0
   ·rw[if_pos hp];exact hr h0
   ·rw[if_neg hp]
    rcases zwm s now key y til with h|h
    ·exact absurd h hp
    ·show z1n (z78 (z1e s now key y til))=0
     rw[h];exact zfi (by decide)
  ·rw[if_neg hc];exact hr h0
 ·rw[if_neg h0]
  split
  ·exact zop
  ·unfold Cd at he
   exact zfi (by omega)
structure BdI(x:Itm):Prop where
 text:x.text.size≤60
 list:x.list.length≤24
 pairs:x.pairs.length≤24
 scores:x.scores.length≤24
 texts:∀s∈x.list,s.size≤60
 fields:∀p∈x.pairs,p.1.size≤60∧p.2.size≤60
 members:∀p∈x.scores,z0m p.1=true∧p.2.size≤60
theorem zvi{x:Itm}(h:OkI x):BdI x:=by
 rcases h with h|h
 ·have r:=z4h h
  have hm:=r.many
  unfold many at hm
  exact⟨r.text,by omega,by omega,by omega,r.texts,r.fields,r.members⟩
 ·rw[zil h]
  exact⟨by decide,by decide,by decide,by decide,fun s hs=>(by cases hs),fun s hs=>(by cases hs),fun s hs=>(by cases hs)⟩
theorem z4w{x:Itm}(h:OkI x)(k:Int):Cd (z02 k x):=by
 unfold z02 Cd
 by_cases hn:z0o x=true
 ·rw[if_pos hn];decide
 ·rw[if_neg hn]
  rcases h with h|h
  ·rw[if_pos h]
   split <;> decide
  ·exact absurd h hn
theorem cd_ap{x:Itm}(h:OkI x)(s:ByteArray):Cd (z3e x s):=by
 have:=z4w h 1
 unfold z3e
 repeat' split
 all_goals first|exact this|decide
theorem cd_ad{x:Itm}(h:OkI x)(n:Int):Cd (z3r x n):=by
 have:=z4w h 1
 unfold z3r
 repeat' split
 all_goals first|exact this|decide
theorem zp4(l:List ByteArray):Cd (z13 l):=by
 unfold z13
 repeat' split
 all_goals decide
theorem zqv{x:Itm}(h:OkI x)(l:List ByteArray):Cd (z14 x l):=by
 have:=z4w h 2
 have h2:=zp4 l
 unfold z14
 repeat' split
 all_goals first|exact this|exact h2|decide
theorem zu6{x:Itm}(h:OkI x):Cd (z1u x):=by
 have:=z4w h 2
 unfold z1u
 repeat' split
 all_goals first|exact this|decide
theorem zva{x:Itm}(h:OkI x)(l:List ByteArray):Cd (zdf x l):=by
 have:=z4w h 3
 have h2:=zp4 l
 unfold zdf zjr
 repeat' split
 all_goals first|exact this|exact h2|decide
theorem zk5(k:Int):∀ {l:List Itm},(∀x∈l,OkI x)→Cd (z2s k l)
 | [],_=>by show Cd 0;decide
 | x :: l,h=>by
  unfold z2s
  split
  ·exact z4w (h x (.head _)) k
  ·exact zk5 k fun y hy=>h y (.tail _ hy)
theorem zf4{l:List Itm}(h:∀x∈l,OkI x):Cd (z0u l):=by
 have:=zk5 3 h
 unfold z0u
 split
 ·decide
 ·exact this
theorem zuf{x:Itm}(h:OkI x)(l:List (ByteArray×ByteArray)):Cd (z1v x l):=by
 have:=z4w h 4
 unfold z1v z1y
 repeat' split
 all_goals first|exact this|decide
theorem zxk{x:Itm}(h:OkI x)(f:ByteArray):Cd (z5k x f):=by
 have:=z4w h 4
 unfold z5k
 repeat' split
 all_goals first|exact this|decide
theorem zkk:∀(l:List (Int×ByteArray)),Cd (zbf l)
 | []=>by decide
 | s :: r=>by
  have:=zkk r
  unfold zbf
  repeat' split
  all_goals first|exact this|decide
theorem zvj{x:Itm}(h:OkI x)(l:List (Int×ByteArray)):Cd (zbk x l):=by
 have:=z4w h 5
 have h2:=zkk l
 unfold zbk zl2 z45
 repeat' split
 all_goals first|exact this|exact h2|decide
theorem zoq{x:Itm}(h:OkI x)(m:ByteArray):Cd (z19 x m):=by
 have:=z4w h 5
 unfold z19
 repeat' split
 all_goals first|exact this|decide
theorem zvp(p:ByteArray):Cd (z0y p):=by
 unfold z0y
 repeat' split
 all_goals decide
theorem zy0(now:Int):∀(l:List ByteArray) (s:List Ent) (n:Nat),(z8c now l s n).2≤n+l.length
 | [],_,n=>Nat.le_refl _
 | k :: l,s,n=>by
  unfold z8c
  have:=zy0 now l (z5l s now k (z2r 0) 0) (n+if z3x s now k=true then 1 else 0)
  rw[List.length_cons]
  have hd:(if z3x s now k=true then 1 else 0)≤1:=by split <;> omega
  generalize (if z3x s now k=true then 1 else 0)=d at *
  omega
theorem zn1:∀ {l:List Itm},(∀x∈l,OkI x)→(zbp l).length≤24 * l.length∧∀s∈zbp l,s.size≤60
 | [],_=>⟨Nat.le_refl _,fun s hs=>by cases hs⟩
 | x :: l,h=>by
  obtain⟨h1,h2⟩:=zn1 (l:=l) fun y hy=>h y (.tail _ hy)
  have b:=zvi (h x (.head _))
  have e:zbp (x :: l)=x.list++zbp l:=by unfold zbp;rw[List.flatMap_cons]
  rw[e]
  refine⟨?_,fun s hs=>?_⟩
  ·have:=b.list
   rw[List.length_append,List.length_cons]
   omega
  ·rcases List.mem_append.1 hs with hs|hs
   ·exact b.texts s hs
   ·exact h2 s hs
theorem zf9{l:List Itm}(h:∀x∈l,OkI x)(hl:l.length≤11)(p:Nat→Bool→Bool):z1n (z25 (z2b p l))=0:=by
 obtain⟨h1,h2⟩:=zn1 h
 unfold z2b
 split
 ·refine zat ?_ (fun s hs=>h2 s (List.mem_filter.1 (z81.1 hs)).1)
  have:=za3 ((zbp l).filter (pick p l))
  have:=List.length_filter_le (pick p l) (zbp l)
  omega
 ·exact zat (by simp) (fun s hs=>by cases hs)
theorem zsb{s:List Ent}(ok:z1m s)(now:Int)(l:List ByteArray):∀x∈z05 s now l,OkI x:=fun x hx=>by
 obtain⟨k,_,rfl⟩:=List.mem_map.1 hx
 exact zfy ok now k
theorem zt5{x:Itm}{left:Bool}{l:List ByteArray}(h:z14 x l=0):(z79 x left l).length≤24:=by
 unfold z14 at h
 rw[z4e]
 split at h
 ·rename_i ha;exact absurd h ha
 ·split at h
  ·rename_i ha;exact absurd h ha
  ·split at h
   ·cases h
   ·omega
theorem zov{x:Itm}(left:Bool)(l:List ByteArray):z1n (z0h (zbe x left l))=0:=by
 unfold zbe
 split
 ·rename_i h
  have:=zt5 (left:=left) h
  exact z5q (by omega) (by omega)
 ·decide
theorem zqn{l:List ByteArray}(h:∀s∈l,s.size≤60)(i:Nat):(l.getD i ⟨#[]⟩).size≤60:=by
 rw[List.getD_eq_getElem?_getD]
 rcases hq:l[i]? with _|s
 ·decide
 ·exact h s (List.mem_of_getElem? hq)
theorem zu4{x:Itm}(h:OkI x)(left:Bool):z1n (z1b (zr3 x left))=0:=by
 have b:=zvi h
 unfold zr3 zwx
 split
 ·exact zf3 (zqn b.texts _)
 ·decide
theorem zwy(n:Nat)(a b:Int):z5t n a b - z5s n a b≤n:=by
 have:=z5y n a b
 omega
theorem zk2{l:List ByteArray}(hl:l.length≤24)(ht:∀s∈l,s.size≤60)(a b:Int):z1n (z25 (z29 l a b))=0:=by
 have:=zwy l.length a b
 exact zat (by rw[z2j];omega) (fun s hs=>ht s (z6y hs))
theorem znc(c:Cm){s:List Ent}{now:Int}{l:List ByteArray}(ok:z1m s)(h0:0≤now∧now≤1000000)(hz:∀t∈l,t.size≤60)(hl:l.length≤12):z1n (doC c s now l).2=0:=by
 have hw:∀i,(wd l i).size≤60:=z0s hz
 have ho:=zfy ok now (wd l 1)
 have hb:=zvi ho
 have ht:=zhb ok now (wd l 1)
 have hi:=zsb ok now (l.drop 1)
 have hil:(z05 s now (l.drop 1)).length≤11:=by unfold z05;rw[List.length_map,List.length_drop];omega
 cases c
 case ping=>exact zv7
 case get=>
  simp only[doC]
  split
  ·exact z1s (fun _=>zop) (z4w ho 1)
  ·exact z1s (fun _=>zf3 hb.text) (z4w ho 1)
 case set_=>exact z1s (fun _=>zxy) (by decide)
 case append_=>
  refine z1s (fun he=>?_) (cd_ap ho _)
  unfold apN
  rw[if_pos he]
  have h2:=hw 2
  have h3:=hb.text
  exact z5q (by omega) (by omega)
 case strlen=>
  refine z1s (fun he=>?_) (z4w ho 1)
  unfold lnN
  rw[if_pos he]
  have h3:=hb.text
  exact z5q (by omega) (by omega)
 case incrby=>
  refine z1s (fun he=>?_) (cd_ad ho _)
  unfold adN
  rw[if_pos he]
  exact znm (adOk he)
 case getrange=>
  refine z1s (fun he=>?_) (z4w ho 1)
  unfold rgS
  rw[if_pos he]
  refine zf3 ?_
  have h3:=hb.text
  rw[ByteArray.size_extract]
  omega
 case del=>
  show z1n (z0h _)=0
  have:=zy0 now (l.drop 1) s 0
  rw[List.length_drop] at this
  exact z5q (by omega) (by omega)
 case exists_=>
  show z1n (z0h _)=0
  have:=List.length_filter_le (fun k=>z3x s now k) (l.drop 1)
  rw[List.length_drop] at this
  exact z5q (by omega) (by omega)
 case type_=>exact zuu _
 case keys_=>
  refine z1s (fun he=>?_) (zvp _)
  have h1:=zla s s.length now (wd l 1)
  rw[List.take_length] at h1
  have:=ok.le
  refine zat (by omega) (fun t ht=>?_)
  obtain⟨e,he,rfl⟩:=List.mem_map.1 ht
  exact ok.keys e (List.mem_filter.1 he).1
 case expire=>
  simp only[doC]
  split
  ·show z1n (z0h 0)=0;decide
  ·split
   ·exact z1s (fun _=>by decide) (by decide)
   ·exact z1s (fun _=>by decide) (by split <;> decide)
 case ttl=>
  have h3:-1000000≤(z00 s now (wd l 1)).til - now∧(z00 s now (wd l 1)).til - now≤1000000:=by omega
  show z1n (z0h (if _ then _ else if _ then _ else _))=0
  split
  ·decide
  ·split
   ·decide
   ·exact z5q h3.1 h3.2
 case persist=>
  simp only[doC]
  split
  ·show z1n (z0h 0)=0;decide
  ·exact z1s (fun _=>by decide) (by decide)
 case lpush=>exact z1s (fun _=>zov _ _) (zqv ho _)
 case rpush=>exact z1s (fun _=>zov _ _) (zqv ho _)
 case lpop=>exact z1s (fun _=>zu4 ho _) (zu6 ho)
 case rpop=>exact z1s (fun _=>zu4 ho _) (zu6 ho)
 case lrange=>exact z1s (fun _=>zk2 hb.list hb.texts _ _) (z4w ho 2)
 case ltrim=>exact z1s (fun _=>zxy) (z4w ho 2)
 case lrem=>
  refine z1s (fun he=>?_) (z4w ho 2)
  unfold zud
  rw[if_pos he]
  have h1:(zm2 (z00 s now (wd l 1)).item (wd l 2)).length≤(z00 s now (wd l 1)).item.list.length:=List.length_filter_le _ _
  have:=hb.list
  exact z5q (by omega) (by omega)
 case sadd=>
  refine z1s (fun he=>?_) (zva ho _)
  unfold zdh
  rw[if_pos he]
  have h1:=(zik he).2
  have:=hb.list
  exact z5q (by omega) (by omega)
 case srem=>
  refine z1s (fun he=>?_) (z4w ho 3)
  unfold z9r
  rw[if_pos he]
  have h1:(z8m (z00 s now (wd l 1)).item.list (l.drop 2)).length≤(z00 s now (wd l 1)).item.list.length:=List.length_filter_le _ _
  have:=hb.list
  exact z5q (by omega) (by omega)
 case sismember=>exact z1s (fun _=>by split <;> decide) (z4w ho 3)
 case smembers=>exact z1s (fun _=>zf9 hi hil _) (zf4 hi)
 case sunion=>exact z1s (fun _=>zf9 hi hil _) (zf4 hi)
 case sinter=>exact z1s (fun _=>zf9 hi hil _) (zf4 hi)
 case sdiff=>exact z1s (fun _=>zf9 hi hil _) (zf4 hi)
 case hset=>
  refine z1s (fun he=>?_) (zuf ho _)
  unfold zr6
  rw[if_pos he]
  unfold z1v at he
  split at he
  ·rename_i ha;exact absurd he ha
  ·split at he
   ·cases he
   ·have:=hb.pairs
    exact z5q (by omega) (by omega)
 case hget=>
  refine z1s (fun he=>?_) (zxk ho _)
  unfold zr5
  split
  ·decide
  ·split
   ·rename_i q hq
    exact zf3 (hb.fields q (zfm Prod.fst hq).1).2
   ·decide
 case hdel=>
  refine z1s (fun he=>?_) (z4w ho 4)
  unfold zdj
  rw[if_pos he]
  have h1:(zam (z00 s now (wd l 1)).item (l.drop 2)).length≤(z00 s now (wd l 1)).item.pairs.length:=List.length_filter_le _ _
  have:=hb.pairs
  exact z5q (by omega) (by omega)
 case hgetall=>
  refine z1s (fun he=>?_) (z4w ho 4)
  have e:∀(q:List (ByteArray×ByteArray)),(q.flatMap fun p=>[p.1,p.2]).length=2 * q.length:=fun q=>by
   induction q with
   | nil=>rfl
   | cons p q ih=>rw[List.flatMap_cons,List.length_append,ih,List.length_cons];simp;omega
  have:=hb.pairs
  refine zat (by rw[e];omega) (fun t ht=>?_)
  obtain⟨p,hp,hm⟩:=List.mem_flatMap.1 ht
  have:=hb.fields p hp
  rcases List.mem_cons.1 hm with rfl|hm
  ·exact this.1
  ·rw[List.mem_singleton.1 hm];exact this.2
 case zadd=>
  refine z1s (fun he=>?_) (zvj ho _)
  unfold zdy
  rw[if_pos he]
  unfold zbk at he
  split at he
  ·rename_i ha;exact absurd he ha
  ·split at he
   ·cases he
   ·have:=hb.scores
    exact z5q (by omega) (by omega)
 case zrem=>
  refine z1s (fun he=>?_) (z4w ho 5)
  unfold z9y
  rw[if_pos he]
  have h1:(z8x (z00 s now (wd l 1)).item (l.drop 2)).length≤(z00 s now (wd l 1)).item.scores.length:=List.length_filter_le _ _
  have:=hb.scores
  exact z5q (by omega) (by omega)
 case zscore=>
  refine z1s (fun he=>?_) (zoq ho _)
  unfold zqx
  rw[if_pos he,List.getD_eq_getElem?_getD]
  rcases hq:(z00 s now (wd l 1)).item.scores[(z6b (z00 s now (wd l 1)).item (wd l 2)).toNat]? with _|q
  ·decide
  ·exact znm (hb.members q (List.mem_of_getElem? hq)).1
 case zrank=>
  refine z1s (fun he=>?_) (zoq ho _)
  unfold z9a
  rw[if_pos he]
  have hr:-1≤z6b (z00 s now (wd l 1)).item (wd l 2)∧z6b (z00 s now (wd l 1)).item (wd l 2)≤24:=by
   unfold z6b
   rcases zde (wd l 2) (z00 s now (wd l 1)).item.scores with⟨h,_⟩|⟨k,q,h,hk,_,_⟩
   ·rw[h];omega
   ·rw[h]
    have h1:=(List.getElem?_eq_some_iff.1 hk).1
    have:=hb.scores
    omega
  exact z5q (by omega) (by omega)
 case zrange=>
  refine z1s (fun he=>?_) (z4w ho 5)
  unfold z65
  rw[if_pos he]
  refine zk2 (by rw[List.length_map];exact hb.scores) (fun t ht=>?_) _ _
  obtain⟨q,hq,rfl⟩:=List.mem_map.1 ht
  exact(hb.members q hq).2
 case zrangebyscore=>
  refine z1s (fun he=>?_) (z4w ho 5)
  unfold z48
  rw[if_pos he]
  unfold z6l
  have h1:=List.length_filter_le (fun s:Int×ByteArray=>decide (wn l 2≤s.1)&&decide (s.1≤wn l 3)) (z00 s now (wd l 1)).item.scores
  have:=hb.scores
  refine zat (by rw[List.length_map];omega) (fun t ht=>?_)
  obtain⟨q,hq,rfl⟩:=List.mem_map.1 ht
  exact(hb.members q (List.mem_filter.1 hq).1).2
theorem zs6{l:List ByteArray}(h:z1l l≠0):1≤z1l l∧z1l l≤8:=by
 have hw:z0r l=0∨z0r l=1∨z0r l=2:=by
  unfold z0r
  repeat' split
  all_goals simp
 unfold z1l at *
 repeat' split
 all_goals first|omega|(simp_all;done)|(simp_all;omega)
theorem zo4{s:List Ent}{now:Int}{l:List ByteArray}(ok:z1m s)(h0:0≤now∧now≤1000000):z1n (doR s now l).2=0:=by
 unfold doR
 by_cases hk:z1l l=0
 ·rw[if_neg (by simpa using hk)]
  have hl:l.length≤12:=by
   obtain⟨c0,l',c,rfl,_,_,KF⟩:=z6n hk
   have:=KF.le
   rw[List.length_cons]
   omega
  split
  ·show z1n (z78 5)=0;exact zfi (by decide)
  ·exact znc _ ok h0 (za7 hk) hl
 ·rw[if_pos hk]
  exact zfi (zs6 hk)
structure LE(w0:World)(bl:List (Nat×List Value))(es:List (Value×List Ent))(rp:List (Value×Rep))(rs:List (Value×List ByteArray))(wr:World):Prop where
 f:Fr [] w0 wr
 v:Vars wr
 bl:∀p∈bl,Whole wr p.1 27 p.2
 es:∀p∈es,z0v wr wr.heap.size p.1 p.2
 rp:∀p∈rp,zca wr wr.heap.size p.1 p.2
 rs:∀p∈rs,Sl wr wr.heap.size 1 p.1 p.2.length (z03 p.2)
section
variable {w0 wr w1:World} {bl:List (Nat×List Value)} {es:List (Value×List Ent)} {rp:List (Value×Rep)} {rs:List (Value×List ByteArray)}
theorem LE.start{w:World}(hv:Vars w):LE w [] [] [] [] w:=
 ⟨Fr.refl _ _,hv,fun p hp=>by (cases hp),fun p hp=>by (cases hp),fun p hp=>by (cases hp),fun p hp=>by (cases hp)⟩
theorem LE.go(h:LE w0 bl es rp rs wr)(k:Fr [] wr w1):LE w0 bl es rp rs w1:=
 ⟨h.f.trans k,h.v.fr k,fun p hp=>(h.bl p hp).fr k (by simp),fun p hp=>(h.es p hp).go k,fun p hp=>(h.rp p hp).go k,fun p hp=>((h.rs p hp).fr k (Nat.le_refl _) (by simp)).more k.size⟩
theorem LE.alloc(h:LE w0 bl es rp rs wr)(o:Obj):LE w0 bl es rp rs (wr.alloc o):=h.go ((Fr.refl [] wr).alloc o)
theorem LE.ents{v:Value}{l:List Ent}(h:LE w0 bl es rp rs wr)(hv:z0v wr wr.heap.size v l):LE w0 bl ((v,l) :: es) rp rs wr:=
 ⟨h.f,h.v,h.bl,fun p hp=>by
  rcases List.mem_cons.1 hp with rfl|hp
  ·exact hv
  ·exact h.es p hp,h.rp,h.rs⟩
theorem LE.rep{v:Value}{r:Rep}(h:LE w0 bl es rp rs wr)(hv:zca wr wr.heap.size v r):LE w0 bl es ((v,r) :: rp) rs wr:=
 ⟨h.f,h.v,h.bl,h.es,fun p hp=>by
  rcases List.mem_cons.1 hp with rfl|hp
  ·exact hv
  ·exact h.rp p hp,h.rs⟩
theorem LE.row{v:Value}{l:List ByteArray}(h:LE w0 bl es rp rs wr)(hv:Sl wr wr.heap.size 1 v l.length (z03 l)):LE w0 bl es rp ((v,l) :: rs) wr:=
 ⟨h.f,h.v,h.bl,h.es,h.rp,fun p hp=>by
  rcases List.mem_cons.1 hp with rfl|hp
  ·exact hv
  ·exact h.rs p hp⟩
theorem LE.box(h:LE w0 bl es rp rs wr)(a b c d:Value):LE w0 ((wr.heap.size,[a,b,c,d]) :: bl) es rp rs (wr.alloc (.cells #[a,b,c,d] 27)):=
 have k:=h.alloc (.cells #[a,b,c,d] 27)
 ⟨k.f,k.v,fun p hp=>by
  rcases List.mem_cons.1 hp with rfl|hp
  ·exact Whole.new wr _ [a,b,c,d]
  ·exact k.bl p hp,k.es,k.rp,k.rs⟩
theorem LE.lit1(h:LE w0 bl es rp rs wr)(a:ByteArray):LE w0 bl es rp ((.slice (some ⟨wr.heap.size,0,none⟩) 1 1,[a]) :: rs) (wr.alloc (.cells #[.string a] 9)):=
 (h.alloc _).row (z0t (World.ownsRow_lit (base:=wr.heap.size) (e:=9) (size:=1) wr #[.string a] 1 (Nat.le_refl _) (by decide) rfl))
theorem LE.lit2(h:LE w0 bl es rp rs wr)(a b:ByteArray):LE w0 bl es rp ((.slice (some ⟨wr.heap.size,0,none⟩) 2 2,[a,b]) :: rs) (wr.alloc (.cells #[.string a,.string b] 9)):=
 (h.alloc _).row (z0t (World.ownsRow_lit (base:=wr.heap.size) (e:=9) (size:=1) wr #[.string a,.string b] 2 (Nat.le_refl _) (by decide) rfl))
theorem LE.lit3(h:LE w0 bl es rp rs wr)(a b c:ByteArray):LE w0 bl es rp ((.slice (some ⟨wr.heap.size,0,none⟩) 3 3,[a,b,c]) :: rs) (wr.alloc (.cells #[.string a,.string b,.string c] 9)):=
 (h.alloc _).row (z0t (World.ownsRow_lit (base:=wr.heap.size) (e:=9) (size:=1) wr #[.string a,.string b,.string c] 3 (Nat.le_refl _) (by decide) rfl))
theorem LE.lit4(h:LE w0 bl es rp rs wr)(a b c d:ByteArray):LE w0 bl es rp ((.slice (some ⟨wr.heap.size,0,none⟩) 4 4,[a,b,c,d]) :: rs) (wr.alloc (.cells #[.string a,.string b,.string c,.string d] 9)):=
 (h.alloc _).row (z0t (World.ownsRow_lit (base:=wr.heap.size) (e:=9) (size:=1) wr #[.string a,.string b,.string c,.string d] 4 (Nat.le_refl _) (by decide) rfl))
end
theorem z4u{s:List Ent}{now:Int}{l:List ByteArray}(ok:z1m s)(h0:0≤now∧now≤1000000)(hl:l.length≤281474976710656)(W:World)(sv:Value)(A:Option Addr)(c:Nat)(hv:Vars W)(h:z0v W W.heap.size sv s)(hL:Sl W W.heap.size 1 (.slice A l.length c) l.length (z03 l)) :
  Calls prog 8 #[sv,.int .i64 now,.slice A l.length c] W (DoQ (doR s now l).1 (doR s now l).2 0 W):=by
 have:=zc7 s sv now l A c W.heap.size W (z07 ok) (by have:=ok.le;omega) hl hv (Nat.le_refl _) h hL
 unfold doS doV at this
 rw[zu1 ok h0,if_pos rfl,if_pos rfl] at this
 exact this
theorem zns{s:List Ent}{now:Int}{l:List ByteArray}(ok:z1m s)(h0:0≤now∧now≤1000000):(doR s now l).2.list.length≤281474976710656∧∀x∈(doR s now l).2.list,x.sub=0:=by
 rcases zo5 (zo4 (l:=l) ok h0) with⟨_,_,h⟩|⟨_,_,_,h,hx⟩
 ·rw[h];exact⟨by simp,fun x hx=>by cases hx⟩
 ·exact⟨by omega,fun x hm=>(hx x hm).sub⟩
def ebA:List ByteArray:=[⟨#[73,78,67,82,66,89]⟩,⟨#[116]⟩,⟨#[51]⟩]
def ebB:List ByteArray:=[⟨#[108,112,111,112]⟩,⟨#[108]⟩]
def ebC:List ByteArray:=[⟨#[103,101,116]⟩,⟨#[108]⟩]
def ebD:List ByteArray:=[⟨#[116,116,108]⟩,⟨#[116]⟩]
theorem eb_a:(doR z11 5 ebA).1=[⟨⟨#[108]⟩,zbg,0⟩,⟨⟨#[116]⟩,adY zdn 3,10⟩]:=by kernel_rfl
theorem zxs:(doR z11 5 ebA).2=z0h 10:=by kernel_rfl
theorem eb_b:(doR z11 5 ebB).1=[⟨⟨#[108]⟩,zf5 [⟨#[98]⟩,⟨#[97]⟩],0⟩,⟨⟨#[116]⟩,zdn,10⟩]:=by kernel_rfl
theorem eb_br:(doR z11 5 ebB).2=z1b ⟨#[97]⟩:=by kernel_rfl
theorem zx6:(doR z11 5 ebC).2=z78 7:=by kernel_rfl
theorem eb_dr:(doR z11 5 ebD).2=z0h 5:=by kernel_rfl
theorem eb_k1:z1l [⟨#[122,97,100,100]⟩,⟨#[107]⟩,⟨#[49]⟩,⟨#[109]⟩]=0:=by kernel_rfl
theorem eb_k2:z1l [⟨#[122,97,100,100]⟩,⟨#[107]⟩,⟨#[120]⟩,⟨#[109]⟩]=3:=by kernel_rfl
theorem eb_k3:z1l [⟨#[110,111]⟩]=5:=by kernel_rfl
theorem sb_ok:z1m z11:=zta zk7
theorem z5a(w:World)(hv:Vars w):Calls prog 11 #[] w fun e w'=>e=.returned (.bool true)∧Fr [] w w':=by
 have S0:=hid (LE.start hv)
 have DO:=hid (fun(l:List ByteArray) (hl:l.length≤4) W sv A c hv h hL=>z4u (s:=z11) (now:=5) (l:=l) sb_ok ⟨by decide,by decide⟩ (by omega) W sv A c hv h hL)
 have KN:=hid (fun(l:List ByteArray) (hl:l.length≤4) W A c (hv:Vars W) h=>z9t l A c W.heap.size W (by omega) hv (Nat.le_refl _) h)
 unfold KnP at KN
 have RA:=hid zxs
 have EA:=hid (show(doR z11 5 ebA).1.length=2∧(doR z11 5 ebA).1[1]? = some ⟨⟨#[116]⟩,adY zdn 3,10⟩ from by rw[eb_a];exact⟨rfl,rfl⟩)
 have EB:=hid (show(doR z11 5 ebB).1.length=2∧(doR z11 5 ebB).1[0]? = some ⟨⟨#[108]⟩,zf5 [⟨#[98]⟩,⟨#[97]⟩],0⟩ from by rw[eb_b];exact⟨rfl,rfl⟩)
 have ka:((doR z11 5 ebA).2.n==10)=true:=by rw[zxs];rfl
 have kb:((doR z11 5 ebB).2.text.toList==[97])=true:=by rw[eb_br,ByteArray.toList_eq];rfl
 have kc:((doR z11 5 ebC).2.kind==2)=true:=by rw[zx6];rfl
 have kc2:((doR z11 5 ebC).2.n==7)=true:=by rw[zx6];rfl
 have kd:((doR z11 5 ebD).2.n==5)=true:=by rw[eb_dr];rfl
 have DA:=hid (fun W sv (b:Nat) (h:z0v W W.heap.size sv z11) (hv:Vars W) (hL:Sl W W.heap.size 1 (.slice (some ⟨b,0,none⟩) 3 3) 3 (z03 ebA))=>(show Calls prog 8 #[sv,.int .i64 5,.slice (some ⟨b,0,none⟩) 3 3] W (DoQ (doR z11 5 ebA).1 (doR z11 5 ebA).2 0 W) from DO.out ebA (by decide) W sv _ _ hv h hL))
 have DB:=hid (fun W sv (b:Nat) (h:z0v W W.heap.size sv z11) (hv:Vars W) (hL:Sl W W.heap.size 1 (.slice (some ⟨b,0,none⟩) 2 2) 2 (z03 ebB))=>(show Calls prog 8 #[sv,.int .i64 5,.slice (some ⟨b,0,none⟩) 2 2] W (DoQ (doR z11 5 ebB).1 (doR z11 5 ebB).2 0 W) from DO.out ebB (by decide) W sv _ _ hv h hL))
 have DC:=hid (fun W sv (b:Nat) (h:z0v W W.heap.size sv z11) (hv:Vars W) (hL:Sl W W.heap.size 1 (.slice (some ⟨b,0,none⟩) 2 2) 2 (z03 ebC))=>(show Calls prog 8 #[sv,.int .i64 5,.slice (some ⟨b,0,none⟩) 2 2] W (DoQ (doR z11 5 ebC).1 (doR z11 5 ebC).2 0 W) from DO.out ebC (by decide) W sv _ _ hv h hL))
 have DD:=hid (fun W sv (b:Nat) (h:z0v W W.heap.size sv z11) (hv:Vars W) (hL:Sl W W.heap.size 1 (.slice (some ⟨b,0,none⟩) 2 2) 2 (z03 ebD))=>(show Calls prog 8 #[sv,.int .i64 5,.slice (some ⟨b,0,none⟩) 2 2] W (DoQ (doR z11 5 ebD).1 (doR z11 5 ebD).2 0 W) from DO.out ebD (by decide) W sv _ _ hv h hL))
 generalize (doR z11 5 ebA).1=ea at *
 generalize (doR z11 5 ebB).1=eb at *
 generalize (doR z11 5 ebC).1=ec at *
 generalize (doR z11 5 ebD).1=ed at *
 generalize (doR z11 5 ebA).2=ra at *
 generalize (doR z11 5 ebB).2=rb at *
 generalize (doR z11 5 ebC).2=rc at *
 generalize (doR z11 5 ebD).2=rd at *
 clear DO RA
 go_enter Tryz.func11,Tryz.ntmps11
 go_wp2_with fail
 refine(z7k _).mono ?_
 rintro e w1 ⟨u1,rfl,o1,f1⟩
 obtain⟨A1,c1,rfl⟩:=o1.form
 have S1:=hid (((S0.out.go f1).ents o1.v).lit3 ⟨#[73,78,67,82,66,89]⟩ ⟨#[116]⟩ ⟨#[51]⟩)
 clear o1 f1 S0
 have C1:=hid (DA.out (w1.alloc (.cells #[.string ⟨#[73,78,67,82,66,89]⟩,.string ⟨#[116]⟩,.string ⟨#[51]⟩] 9)) _ _ (S1.out.es _ (.head _)) S1.out.v (S1.out.rs _ (.head _)))
 go_wp2_with fail
 refine C1.out.mono ?_
 rintro e w2 ⟨u2,v2,rfl,o2,r2,f2⟩
 obtain⟨PA,pA,rfl⟩:=o2.form
 obtain⟨RA,tA,rfl⟩:=r2.form
 have S2:=hid ((((S1.out.go f2).ents o2.v).rep r2.v).box (.int .i64 ra.kind) (.string ra.text) (.int .i64 ra.n) (.slice RA ra.list.length tA))
 clear o2 r2 f2 S1 C1 DA
 go_wp2_with fail
 refine(z7k _).mono ?_
 rintro e w3 ⟨u3,rfl,o3,f3⟩
 obtain⟨A3,c3,rfl⟩:=o3.form
 have S3:=hid (((S2.out.go f3).ents o3.v).lit2 ⟨#[108,112,111,112]⟩ ⟨#[108]⟩)
 clear o3 f3 S2
 have C3:=hid (DB.out (w3.alloc (.cells #[.string ⟨#[108,112,111,112]⟩,.string ⟨#[108]⟩] 9)) _ _ (S3.out.es _ (.head _)) S3.out.v (S3.out.rs _ (.head _)))
 go_wp2_with fail
 refine C3.out.mono ?_
 rintro e w4 ⟨u4,v4,rfl,o4,r4,f4⟩
 obtain⟨PB,pB,rfl⟩:=o4.form
 obtain⟨RB,tB,rfl⟩:=r4.form
 have S4:=hid ((((S3.out.go f4).ents o4.v).rep r4.v).box (.int .i64 rb.kind) (.string rb.text) (.int .i64 rb.n) (.slice RB rb.list.length tB))
 clear o4 r4 f4 S3 C3 DB
 go_wp2_with fail
 refine(z7k _).mono ?_
 rintro e w5 ⟨u5,rfl,o5,f5⟩
 obtain⟨A5,c5,rfl⟩:=o5.form
 have S5:=hid (((S4.out.go f5).ents o5.v).lit2 ⟨#[103,101,116]⟩ ⟨#[108]⟩)
 clear o5 f5 S4
 have C5:=hid (DC.out (w5.alloc (.cells #[.string ⟨#[103,101,116]⟩,.string ⟨#[108]⟩] 9)) _ _ (S5.out.es _ (.head _)) S5.out.v (S5.out.rs _ (.head _)))
 go_wp2_with fail
 refine C5.out.mono ?_
 rintro e w6 ⟨u6,v6,rfl,o6,r6,f6⟩
 obtain⟨PC,pC,rfl⟩:=o6.form
 obtain⟨RC,tC,rfl⟩:=r6.form
 have S6:=hid ((((S5.out.go f6).ents o6.v).rep r6.v).box (.int .i64 rc.kind) (.string rc.text) (.int .i64 rc.n) (.slice RC rc.list.length tC))
 clear o6 r6 f6 S5 C5 DC
 go_wp2_with fail
 refine(z7k _).mono ?_
 rintro e w7 ⟨u7,rfl,o7,f7⟩
 obtain⟨A7,c7,rfl⟩:=o7.form
 have S7:=hid (((S6.out.go f7).ents o7.v).lit2 ⟨#[116,116,108]⟩ ⟨#[116]⟩)
 clear o7 f7 S6
 have C7:=hid (DD.out (w7.alloc (.cells #[.string ⟨#[116,116,108]⟩,.string ⟨#[116]⟩] 9)) _ _ (S7.out.es _ (.head _)) S7.out.v (S7.out.rs _ (.head _)))
 go_wp2_with fail
 refine C7.out.mono ?_
 rintro e w8 ⟨u8,v8,rfl,o8,r8,f8⟩
 obtain⟨PD,pD,rfl⟩:=o8.form
 obtain⟨RD,tD,rfl⟩:=r8.form
 have S8:=hid ((((S7.out.go f8).ents o8.v).rep r8.v).box (.int .i64 rd.kind) (.string rd.text) (.int .i64 rd.n) (.slice RD rd.list.length tD))
 clear o8 r8 f8 S7 C7 DD
 have T9:=hid (S8.out.lit4 ⟨#[122,97,100,100]⟩ ⟨#[107]⟩ ⟨#[49]⟩ ⟨#[109]⟩)
 have K9:=hid (show Calls prog 12 #[.slice (some ⟨w8.heap.size+1,0,none⟩) 4 4] ((w8.alloc (.cells #[.int .i64 rd.kind,.string rd.text,.int .i64 rd.n,.slice RD rd.list.length tD] 27)).alloc (.cells #[.string ⟨#[122,97,100,100]⟩,.string ⟨#[107]⟩,.string ⟨#[49]⟩,.string ⟨#[109]⟩] 9)) (fun e w'=>e=.returned (.int .i64 0)∧Fr [] ((w8.alloc (.cells #[.int .i64 rd.kind,.string rd.text,.int .i64 rd.n,.slice RD rd.list.length tD] 27)).alloc (.cells #[.string ⟨#[122,97,100,100]⟩,.string ⟨#[107]⟩,.string ⟨#[49]⟩,.string ⟨#[109]⟩] 9)) w') from by have:=KN.out [⟨#[122,97,100,100]⟩,⟨#[107]⟩,⟨#[49]⟩,⟨#[109]⟩] (by decide) _ _ _ T9.out.v (T9.out.rs _ (.head _));rw[eb_k1] at this;simpa using this)
 go_wp2_with fail
 refine K9.out.mono ?_
 rintro e w9 ⟨rfl,f9⟩
 have S9:=hid (T9.out.go f9)
 clear f9 S8 T9 K9
 have T10:=hid (S9.out.lit4 ⟨#[122,97,100,100]⟩ ⟨#[107]⟩ ⟨#[120]⟩ ⟨#[109]⟩)
 have K10:=hid (show Calls prog 12 #[.slice (some ⟨w9.heap.size,0,none⟩) 4 4] ((w9).alloc (.cells #[.string ⟨#[122,97,100,100]⟩,.string ⟨#[107]⟩,.string ⟨#[120]⟩,.string ⟨#[109]⟩] 9)) (fun e w'=>e=.returned (.int .i64 3)∧Fr [] ((w9).alloc (.cells #[.string ⟨#[122,97,100,100]⟩,.string ⟨#[107]⟩,.string ⟨#[120]⟩,.string ⟨#[109]⟩] 9)) w') from by have:=KN.out [⟨#[122,97,100,100]⟩,⟨#[107]⟩,⟨#[120]⟩,⟨#[109]⟩] (by decide) _ _ _ T10.out.v (T10.out.rs _ (.head _));rw[eb_k2] at this;exact this)
 go_wp2_with fail
 refine K10.out.mono ?_
 rintro e w10 ⟨rfl,f10⟩
 have S10:=hid (T10.out.go f10)
 clear f10 S9 T10 K10
 have T11:=hid (S10.out.lit1 ⟨#[110,111]⟩)
 have K11:=hid (show Calls prog 12 #[.slice (some ⟨w10.heap.size,0,none⟩) 1 1] ((w10).alloc (.cells #[.string ⟨#[110,111]⟩] 9)) (fun e w'=>e=.returned (.int .i64 5)∧Fr [] ((w10).alloc (.cells #[.string ⟨#[110,111]⟩] 9)) w') from by have:=KN.out [⟨#[110,111]⟩] (by decide) _ _ _ T11.out.v (T11.out.rs _ (.head _));rw[eb_k3] at this;exact this)
 go_wp2_with fail
 refine K11.out.mono ?_
 rintro e w11 ⟨rfl,f11⟩
 have S11:=hid (T11.out.go f11)
 clear f11 S10 T11 K11
 clear KN
 have la:(1:Int) < (ea.length:Int):=by have:=EA.out.1;omega
 have lb:(0:Int) < (eb.length:Int):=by have:=EB.out.1;omega
 obtain⟨ba,oa,rfl,hba,hca,hma,hata⟩:=(S11.out.es _ (.tail _ (.tail _ (.tail _ (.tail _ (.tail _ (.tail _ (.head _)))))))).at_ (by omega)
 obtain⟨bb,ob,rfl,hbb,hcb,hmb,hatb⟩:=(S11.out.es _ (.tail _ (.tail _ (.tail _ (.tail _ (.head _)))))).at_ (by omega)
 obtain⟨X1,X2,X3,x1,x2,x3,ha7⟩:=hata 1 _ EA.out.2
 obtain⟨Y1,Y2,Y3,y1,y2,y3,hb7⟩:=hatb 0 _ EB.out.2
 have ga:=ha7.k6
 have gb:=hb7.k3
 clear ha7 hb7 hata hatb
 obtain⟨a0,a1,a2,a3⟩:=four (S11.out.bl _ (.tail _ (.tail _ (.tail _ (.head _)))))
 obtain⟨b0,b1,b2,b3⟩:=four (S11.out.bl _ (.tail _ (.tail _ (.head _))))
 obtain⟨c0,c1,c2,c3⟩:=four (S11.out.bl _ (.tail _ (.head _)))
 obtain⟨d0,d1,d2,d3⟩:=four (S11.out.bl _ (.head _))
 unfold maxLen at hma hmb
 go_wp2
 go_ret
 exact⟨rfl,S11.out.f⟩
end Go.Proofs.YtamgdmiopinidaaGreatDoor
namespace Go.Proofs.YtamgdmiopinidaaGreatDoor
open Lib (hid)
open Go.Proofs.Tryz (prog)
open Go.RowKit Go.ChangeShapes
abbrev zko:List (String×DataW Unit):=Rows.engineGoneRow.laid
theorem star : "*" ++ "errors.errorString" = "*errors.errorString" := by decide
theorem zq3(u:TypeId)(h:prog.typeName? 3 u=some "*errors.errorString"):u=266:=
 typeName_ptr_named (nm := "errors.errorString") (by rw[star];kernel_rfl) (by kernel_rfl) (by decide) u (by rw[star];exact h)
theorem zqq{W:World}(h:laidMetH prog zko W):Vars W:=by
 have h2:=laidMet.tail (laidMet.tail h)
 have h3:=laidMet.tail h2
 have h4:=laidMet.tail h3
 have t:=Lib.tabIs_of_head (P:=prog) (name := "internal/strconv.uint64pow10") (k:=.u64) (zs:=Lib.pow10Tab) (g:=3) (t:=270) (e:=235) (n:=20) (by kernel_rfl) (by kernel_rfl) (by kernel_rfl) (by kernel_rfl) (by kernel_rfl) (by kernel_rfl) h2
 obtain⟨a1,s1,hv1,_⟩:=laid_sentinel h3 (g:=2) (ti:=129) (tp:=266) (te:=268) (ts:=9) (by kernel_rfl) (by kernel_rfl) Tryz.underlying129 zq3 Tryz.underlying266 Tryz.underlying268 rfl rfl (by kernel_rfl) (by kernel_rfl) (by kernel_rfl)
 obtain⟨a2,s2,hv2,_⟩:=laid_sentinel h4 (g:=1) (ti:=129) (tp:=266) (te:=268) (ts:=9) (by kernel_rfl) (by kernel_rfl) Tryz.underlying129 zq3 Tryz.underlying266 Tryz.underlying268 rfl rfl (by kernel_rfl) (by kernel_rfl) (by kernel_rfl)
 exact⟨t,⟨_,_,hv2⟩,⟨_,_,hv1⟩⟩
noncomputable def low:Nat:=(World.holding prog default ⟨#[],#[],[]⟩).heap.size
def put(h:Array Obj)(g:Nat)(cs:Array Value):Array Obj:=h.modify g fun
 | .cells _ t frozen=>.cells cs t frozen
 | o=>o
def tab32:List Int:=[0,1,28,2,29,14,24,3,30,22,20,15,25,17,4,8,31,27,13,23,21,19,16,7,26,12,18,6,11,5,10,9]
def tab64:List Int:=[0,1,56,2,57,49,28,3,61,58,42,50,38,29,17,4,62,47,59,36,45,43,51,22,53,39,33,30,24,18,12,5,63,55,48,27,60,41,37,16,46,35,44,21,52,32,23,11,54,26,40,15,34,20,31,10,25,14,19,9,13,8,7,6]
noncomputable def z5f(os:Os):World:=
 let w0:=World.holding prog os ⟨#[.cells #[.string ⟨#[118,97,108,117,101,32,111,117,116,32,111,102,32,114,97,110,103,101]⟩] 268,.cells #[.string ⟨#[105,110,118,97,108,105,100,32,115,121,110,116,97,120]⟩] 268],#[],[]⟩
 let h1:=put w0.heap 2 #[.iface 266 (.pointer (some ⟨low,0,none⟩))]
 let h2:=put h1 1 #[.iface 266 (.pointer (some ⟨low+1,0,none⟩))]
 let h3:=put h2 3 (Lib.pow10Tab.map fun z=>Value.int .u64 z).toArray
 let h4:=put h3 4 (tab32.map fun z=>Value.int .u8 z).toArray
 let h5:=put h4 5 (tab64.map fun z=>Value.int .u8 z).toArray
 { w0 with heap:=h5 }
theorem zet(os:Os)(args:Array Value):laidMet prog zko ((z5f os).forCall (fun _ _=>0) ⟨#[],args,[]⟩).memory:=
 laidMet_of_run3 8 (by kernel_rfl) (by kernel_rfl) (by kernel_rfl)
end Go.Proofs.YtamgdmiopinidaaGreatDoor
