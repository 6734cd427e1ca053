/- Contracts; no condition but each theorem's own. -/
import Derived.Test.YtnmoajaelmimnaaGreatDoorSlY12
set_option linter.unusedVariables false
set_option linter.unusedSimpArgs false
set_option maxHeartbeats 8000000
set_option maxRecDepth 100000
namespace Go.Proofs.YtnmoajaelmimnaaGreatDoor
open Go.Proofs.Tryz
theorem q46{a b:Int×YY}(h:za7 a b=0):a=b:=by
 unfold za7 at h;by_cases h1:a.1=b.1
 ·rw[Xf h1] at h;exact Prod.ext h1 (za6 h)
 ·rw[Xc h1] at h;omega
theorem zw3(a b:Int×YY):za7 b a=- za7 a b:=by
 unfold za7;by_cases h1:a.1=b.1
 ·rw[Xf h1,Xf h1.symm];exact z78 _ _
 ·rw[Xc h1,Xc (fun h=>h1 h.symm)];omega
theorem zgo{a b c:Int×YY}(h1:za7 a b < 0)(h2:za7 b c < 0):za7 a c < 0:=by
 unfold za7 at *;by_cases e1:a.1=b.1
 ·rw[Xf e1] at h1;by_cases e2:b.1=c.1
  ·rw[Xf e2] at h2;rw[Xf (e1.trans e2)];exact z4u h1 h2
  ·rw[Xc e2] at h2;rw[Xc (by omega)];omega
 ·rw[Xc e1] at h1;by_cases e2:b.1=c.1
  ·rw[Xc (by omega)];omega
  ·rw[Xc e2] at h2;rw[Xc (by omega)];omega
theorem zay(a b c:Int×YY)(h1:ltC a b=true)(h2:ltC b c=true):ltC a c=true:=
 Xi (zgo (Yl h1) (Yl h2))
def z8k(l:List (Int×YY))(s:Int×YY):Nat:=(l.takeWhile fun q=>decide (za7 q s < 0)).length
theorem zhq(l:List (Int×YY))(s:Int×YY):z8k l s≤l.length:=(List.takeWhile_sublist _).length_le
theorem zn1:∀ {l:List (Int×YY)} {s:Int×YY} {k:Nat} {q:Int×YY},k < z8k l s→l[k]? = some q→za7 q s < 0
 | [],s,k,q,h,hq=>by simp at hq
 | x :: r,s,k,q,h,hq=>by
  unfold z8k at h;rw[Jm] at h;by_cases hx:za7 x s < 0
  ·rw[Xf (by simpa using hx)] at h
   match k with
   | 0=>rw[Uq] at hq;cases hq;exact hx
   | k'+1=>
    rw[Uf] at hq;exact zn1 (l:=r) (k:=k') (by unfold z8k;simp at h;omega) hq
  ·rw[Xc (by simpa using hx)] at h;simp at h
theorem zv9:∀ {l:List (Int×YY)} {s q:Int×YY},l[z8k l s]? = some q→¬za7 q s < 0
 | [],s,q,hq=>by simp at hq
 | x :: r,s,q,hq=>by
  unfold z8k at hq;rw[Jm] at hq;by_cases hx:za7 x s < 0
  ·rw[Xf (by simpa using hx),Xy,Uf] at hq;exact zv9 (l:=r) hq
  ·rw[Xc (by simpa using hx)] at hq;simp at hq;rw[←hq];exact hx
theorem zva{l:List (Int×YY)}{s:Int×YY}{k:Nat}{q:Int×YY}(hr:rises ltC l=true)(hk:z8k l s≤k)(hq:l[k]? = some q):¬za7 q s < 0:=by
 obtain⟨a,_⟩:=Xe.1 hq;obtain⟨f,b⟩:∃f,l[z8k l s]? = some f:=⟨_,Xa (by omega)⟩;have d:=zv9 b;rcases Yc (z8k l s) k with h|h
 ·intro a;have:=Yl (z83 zay hr h b hq);exact d (zgo this a)
 ·have e:k=z8k l s:=by omega
  rw[e,b] at hq;cases hq;exact d
def zxg(l:List (Int×YY))(s:Int×YY):List (Int×YY):=l.take (z8k l s)++s :: l.drop (z8k l s)
def q1p(l:List (Int×YY))(m:YY):List (Int×YY):=l.filter fun q=>!decide (q.2=m)
def zl2(l:List (Int×YY))(s:Int×YY):List (Int×YY):=zxg (q1p l s.2) s
structure z9s(l:List (Int×YY)):Prop where
 rise:rises ltC l=true
 dist:(l.map (·.2)).Nodup
 ok:∀s∈l,z0o s.1=true∧s.2.size≤60
theorem z9s.nil:z9s []:=⟨rfl,List.nodup_nil,fun s h=>by cases h⟩
theorem z9s.sub{l l':List (Int×YY)}(h:z9s l)(hs:l'.Sublist l):z9s l':=
 ⟨z34 ((z2u zay h.rise).sublist hs),h.dist.sublist (hs.map _),fun s hs'=>h.ok s (hs.subset hs')⟩
theorem z9s.off{l:List (Int×YY)}(h:z9s l)(m):z9s (q1p l m):=h.sub Kf
theorem zvt(l:List (Int×YY))(m):∀q∈q1p l m,q.2≠m:=by
 intro q a;have:=(Yj.1 a).2;simpa using this
theorem zhy(l:List (Int×YY))(m):(q1p l m).length≤l.length:=Xv _ _
theorem zz7(l:List (Int×YY))(s:Int×YY):(zxg l s).length=l.length+1:=by
 have:=zhq l s;unfold zxg;rw[Xk,Xy,Xp,Xr];omega
theorem zz8{l:List (Int×YY)}{s q:Int×YY}:q∈zxg l s↔q=s∨q∈l:=by
 unfold zxg;rw[Ys,Yh];constructor
 ·rintro(h|h|h)
  ·exact .inr (Ud h)
  ·exact .inl h
  ·exact .inr (Yp h)
 ·rintro(h|h)
  ·exact .inr (.inl h)
  ·rw[←Uk (z8k l s) l] at h;rcases Ys.1 h with h|h
   ·exact .inl h
   ·exact .inr (.inr h)
theorem z9s.ins{l:List (Int×YY)}{s:Int×YY}(h:z9s l)(hn:∀q∈l,q.2≠s.2)(hs:z0o s.1=true∧s.2.size≤60):z9s (zxg l s):=by
 have k:=z2u zay h.rise
 have f:∀q∈l.take (z8k l s),ltC q s=true:=by
  intro q e;obtain⟨j,g⟩:=Yd e;rw[Un] at g;split at g
  ·rename_i hlt;exact Xi (zn1 hlt g)
  ·cases g
 have d:∀q∈l.drop (z8k l s),ltC s q=true:=by
  intro q e;obtain⟨j,g⟩:=Yd e;rw[Yg] at g;have w:=zva h.rise (Nat.le_add_right (z8k l s) j) g;have u:=zw3 s q;rcases Jh (za7 s q) 0 with h3|h3|h3
  ·exact Xi h3
  ·exact absurd (congrArg Prod.snd (q46 h3)).symm (hn q (Yp e))
  ·omega
 refine⟨z34 ?_,?_,fun q e=>?_⟩
 ·unfold zxg;rw[List.pairwise_append];refine⟨k.sublist (List.take_sublist _ _),Kl.2 ⟨d,k.sublist (List.drop_sublist _ _)⟩,?_⟩;intro a n b m;rcases Yh.1 m with rfl|m
  ·exact f a n
  ·exact zay _ _ _ (f a n) (d b m)
 ·unfold zxg
  have p:(l.take (z8k l s)++s :: l.drop (z8k l s)).Perm (s :: l):=by
   have:=List.perm_middle (a:=s) (l₁:=l.take (z8k l s)) (l₂:=l.drop (z8k l s));rw[Uk] at this;exact this
  rw[(p.map (·.2)).nodup_iff,Yv,List.nodup_cons];refine⟨fun r=>?_,h.dist⟩;obtain⟨q,e,t⟩:=Yt.1 r;exact hn q e t
 ·rcases zz8.1 e with rfl|e
  ·exact hs
  ·exact h.ok q e
theorem z9s.put{l:List (Int×YY)}{s:Int×YY}(h:z9s l)(hs:z0o s.1=true∧s.2.size≤60):z9s (zl2 l s):=(h.off s.2).ins (zvt l s.2) hs
theorem z9s.fold:∀(l:List (Int×YY)) {xs:List (Int×YY)},z9s xs→(∀s∈l,z0o s.1=true∧s.2.size≤60)→z9s (l.foldl zl2 xs)
 | [],_,h,_=>h
 | s :: r,_,h,hs=>z9s.fold r (h.put (hs s (.head _))) (fun q hq=>hs q (.tail _ hq))
theorem q0h(l:List (Int×YY))(s:Int×YY):(zl2 l s).length≤l.length+1:=by
 have:=zhy l s.2;unfold zl2;rw[zz7];omega
theorem zk1:∀(l xs:List (Int×YY)),(l.foldl zl2 xs).length≤xs.length+l.length
 | [],xs=>Xb _
 | s :: r,xs=>by
  have h1:=zk1 r (zl2 xs s);have h2:=q0h xs s;rw[List.foldl_cons,Xy];omega
theorem q05{l:List (Int×YY)}{m:YY}{k:Nat}{s:Int×YY}(hd:(l.map (·.2)).Nodup)(hk:l[k]? = some s)(hm:s.2=m):q1p l m=l.take k++l.drop (k+1):=by
 obtain⟨f,d⟩:=Xe.1 hk;have e:l=l.take k++s :: l.drop (k+1):=by rw[←d,←Yu f,Uk]
 generalize l.take k=a at *;generalize l.drop (k+1)=b at *;subst hm;rw[e,Vu,Yv] at hd;rw[e];have h:=(List.nodup_append.1 hd);have h3:=List.nodup_cons.1 h.2.1;unfold q1p;rw[Vb,Vi];simp only[decide_true,Bool.not_true,Bool.false_eq_true,if_false];rw[Uy.2,Uy.2]
 ·intro q g;have:q.2≠s.2:=fun d=>h3.1 (by rw[←d];exact Kh g);simpa using this
 ·intro q g;have:q.2≠s.2:=fun d=>h.2.2 q.2 (Kh g) s.2 (.head _) d;simpa using this
theorem q04{l:List (Int×YY)}{m:YY}(h:∀q∈l,q.2≠m):q1p l m=l:=by
 unfold q1p;rw[Uy];intro q a;simpa using h q a
theorem ze5(m)(l:List (Int×YY)):(z3c (fun q:Int×YY=>decide (q.2=m)) l=-1∧∀q∈l,q.2≠m)∨∃(k:Nat) (s:Int×YY),z3c (fun q:Int×YY=>decide (q.2=m)) l=k∧l[k]? = some s∧s.2=m∧∀(j:Nat) t,j < k→l[j]? = some t→t.2≠m:=by
 cases h:l.findIdx? (fun q:Int×YY=>decide (q.2=m)) with
 | none=>
  refine .inl ⟨by unfold z3c;rw[h],fun q e=>?_⟩;have:=Vh.1 h q e;simpa using this
 | some k=>
  obtain⟨b,d,a⟩:=Vd.1 h;refine .inr ⟨k,l[k],by unfold z3c;rw[h],Xa b,by simpa using d,fun j t f n=>?_⟩;obtain⟨g,rfl⟩:=Xe.1 n;have:=a j f;simpa using this
def zd7:List (Int×YY)→Int
 | []=>0
 | s :: r=>if z0o s.1=false then 3 else if 60 < s.2.size then 2 else zd7 r
theorem zs3{l:List (Int×YY)}{k:Nat}{s:Int×YY}(h:l[k]? = some s):zd7 (l.drop k)=if z0o s.1=false then 3 else if 60 < s.2.size then 2 else zd7 (l.drop (k+1)):=by
 obtain⟨a,rfl⟩:=Xe.1 h;rw[Yu a];rfl
theorem zww{l:List (Int×YY)}{k:Nat}(h:l.length≤k):zd7 (l.drop k)=0:=by
 rw[Ui h];rfl
theorem zpu:∀ {l:List (Int×YY)},zd7 l=0→∀s∈l,z0o s.1=true∧s.2.size≤60
 | [],_,s,hs=>by cases hs
 | q :: r,h,s,hs=>by
  unfold zd7 at h;by_cases h1:z0o q.1=false
  ·rw[Xf h1] at h;cases h
  ·rw[Xc h1] at h;by_cases h2:60 < q.2.size
   ·rw[Xf h2] at h;cases h
   ·rw[Xc h2] at h;rcases Yh.1 hs with rfl|hs
    ·exact⟨by simpa using h1,by omega⟩
    ·exact zpu h s hs
def z4z(l:List (Int×YY)):Int:=if l.length=0 then 1 else zd7 l
theorem zcb{l:List (Int×YY)}(h:z4z l=0):l.length≠0∧∀s∈l,z0o s.1=true∧s.2.size≤60:=by
 unfold z4z at h;by_cases h0:l.length=0
 ·rw[Xf h0] at h;cases h
 ·rw[Xc h0] at h;exact⟨h0,zpu h⟩
def zcr(l:List (Int×YY)):Itm:=⟨5,⟨#[]⟩,[],[],l⟩
def ofC(l:List (Int×YY)):Itm:=if l.length=0 then z2q 0 else zcr l
def zf2(x:Itm)(l:List (Int×YY)):List (Int×YY):=l.foldl zl2 x.scores
def zpq(x:Itm)(l:List (Int×YY)):Int:=if z02 5 x≠0 then z02 5 x else z4z l
def zf1(x:Itm)(l:List (Int×YY)):Int:=if zpq x l≠0 then zpq x l else if 24 < (zf2 x l).length then 2 else 0
def zd2(x:Itm)(l:List (Int×YY)):Itm:=if zf1 x l=0 then ofC (zf2 x l) else z2q 0
def zl1(x:Itm)(l:List (Int×YY)):Int:=if zf1 x l=0 then ((zf2 x l).length:Int) - x.scores.length else 0
def z9z(x:Itm)(l:YX):List (Int×YY):=x.scores.filter fun p=>!(l.any fun y=>decide (y=p.2))
def z8s(x:Itm)(l:YX):Itm:=if z02 5 x=0 then ofC (z9z x l) else z2q 0
def zdx(x:Itm)(l:YX):Int:=if z02 5 x=0 then (x.scores.length:Int) - (z9z x l).length else 0
def z82(x:Itm)(m:YY):Int:=z3c (fun q:Int×YY=>decide (q.2=m)) x.scores
def z16(x:Itm)(m:YY):Int:=if z02 5 x≠0 then z02 5 x else if z82 x m < 0 then 5 else 0
def zba(x:Itm)(m:YY):Int:=if z16 x m=0 then z82 x m else 0
def zvo(x:Itm)(m:YY):Int:=if z16 x m=0 then (x.scores.getD (z82 x m).toNat (0,⟨#[]⟩)).1 else 0
def z79(x:Itm)(f t:Int):YX:=if z02 5 x=0 then z28 (x.scores.map (·.2)) f t else []
def z8c(l:List (Int×YY))(a b:Int):YX:=(l.filter fun s=>decide (a≤s.1)&&decide (s.1≤b)).map (·.2)
def z52(x:Itm)(a b:Int):YX:=if z02 5 x=0 then z8c x.scores a b else []
theorem z3t{x:Itm}(h:z02 5 x=0):z9s x.scores∧x.scores.length≤24:=by
 have b:=z1m h;have e:x.scores.length≤24:=by have:=b.le24;unfold many at this;omega
 refine⟨?_,e⟩;rcases b.kind with h0|h5
 ·have d:=b.none h0;unfold many at d;have:x.scores=[]:=Xo (by omega);rw[this];exact z9s.nil
 ·have a:=b.some (by omega);have f:=b.bare;unfold z0a at a;rw[Xc (by omega),Xc (by rw[f];decide),Xc (by omega)] at a;by_cases d:many x=0
  ·rw[Xf d] at a;cases a
  ·rw[Xc d] at a;by_cases h2:24 < many x∨zax x=true
   ·rw[Xf h2] at a;cases a
   ·rw[Xc h2,Xc (by omega)] at a;unfold z1d at a;by_cases c1:(x.scores.any fun p=>!z0o p.1)=true
    ·rw[Xf c1] at a;cases a
    ·rw[Xc c1] at a;by_cases c2:(x.scores.map (·.2)).Nodup
     ·rw[Xc (fun h=>h c2)] at a;by_cases c3:rises ltC x.scores=true
      ·exact⟨c3,c2,b.members⟩
      ·rw[Xc c3] at a;cases a
     ·rw[Xf c2] at a;cases a
theorem z9s.small{l:List (Int×YY)}(h:z9s l):∀s∈l,(-9223372036854775808≤s.1∧s.1≤9223372036854775807)∧s.2.size≤281474976710656:=fun s hs=>by
 obtain⟨h1,h2⟩:=h.ok s hs;unfold z0o at h1;simp at h1;omega
theorem zcs{l:List (Int×YY)}(hl:l.length≤1000000)(ht:∀s∈l,(-9223372036854775808≤s.1∧s.1≤9223372036854775807)∧s.2.size≤281474976710656):(zcr l).Small:=
 ⟨by show -9223372036854775808≤(5:Int)∧(5:Int)≤9223372036854775807;omega,by show(⟨#[]⟩:YY).size≤_;decide,by show 0≤_;omega,by show 0≤_;omega,by show l.length≤_;omega,(fun p hp=>by cases hp),(fun p hp=>by cases hp),ht⟩
theorem zw9{x:Itm}{l:List (Int×YY)}(h:zpq x l=0):z02 5 x=0∧z4z l=0:=by
 unfold zpq at h;by_cases ha:z02 5 x=0
 ·rw[Xc (by simpa using ha)] at h;exact⟨ha,h⟩
 ·rw[Xf ha] at h;exact absurd h ha
theorem q4c{x:Itm}{l:List (Int×YY)}(h:zf1 x l=0):zpq x l=0∧(zf2 x l).length≤24:=by
 unfold zf1 at h;by_cases ha:zpq x l=0
 ·rw[Xc (by simpa using ha)] at h;by_cases hb:24 < (zf2 x l).length
  ·rw[Xf hb] at h;cases h
  ·exact⟨ha,by omega⟩
 ·rw[Xf ha] at h;exact absurd h ha
theorem q0i{x:Itm}{l:List (Int×YY)}(h:zpq x l=0):z9s (zf2 x l):=by
 obtain⟨a,hs⟩:=zw9 h;exact z9s.fold l (z3t a).1 (zcb hs).2
theorem zkr{l:List (Int×YY)}(hl:l.length≤1000000)(h:z9s l):(ofC l).Small:=by
 unfold ofC;split
 ·exact z12 0 (by decide)
 ·exact zcs hl h.small
theorem znf(x)(l:List (Int×YY)):(zd2 x l).Small:=by
 unfold zd2;split
 ·rename_i h;obtain⟨a,b⟩:=q4c h;exact zkr (by omega) (q0i a)
 ·exact z12 0 (by decide)
theorem zot{x:Itm}(l)(h:z02 5 x=0):z9s (z9z x l)∧(z9z x l).length≤24:=by
 obtain⟨a,b⟩:=z3t h;have:=Xv (fun p:Int×YY=>!(l.any fun y=>decide (y=p.2))) x.scores;exact⟨a.sub Kf,by unfold z9z;omega⟩
theorem zjj(x)(l):(z8s x l).Small:=by
 unfold z8s;split
 ·rename_i h;have:=zot l h;exact zkr (by omega) this.1
 ·exact z12 0 (by decide)
def z74(p:Nat→Int×YY→Bool)(l:List (Int×YY)):Nat→YX
 | 0=>[]
 | k+1=>match l[k]? with
  | some s=>if p k s=true then z74 p l k++[s.2] else z74 p l k
  | none=>z74 p l k
theorem zc1{p:Nat→Int×YY→Bool}{l:List (Int×YY)}{k:Nat}{s:Int×YY}(h:l[k]? = some s):z74 p l (k+1)=if p k s=true then z74 p l k++[s.2] else z74 p l k:=by
 rw[z74,h]
theorem zkl(p:Nat→Int×YY→Bool)(l:List (Int×YY)):∀k,(z74 p l k).length≤k
 | 0=>Xb _
 | k+1=>by
  have:=zkl p l k;unfold z74;split
  ·split
   ·rw[Xk,Jw];omega
   ·omega
  ·omega
theorem zcn(a b:Int)(l:List (Int×YY)):∀k,k≤l.length→z74 (fun _ s=>decide (a≤s.1)&&decide (s.1≤b)) l k=z8c (l.take k) a b
 | 0,_=>by simp[z74,z8c]
 | k+1,h=>by
  obtain⟨s,hs⟩:∃s,l[k]? = some s:=⟨_,Xa (by omega)⟩;rw[zc1 hs,zcn a b l k (by omega)];unfold z8c;rw[Xz,hs,Uo,Vb,Vu];cases hc:(decide (a≤s.1)&&decide (s.1≤b)) <;> simp[Vi,hc]
theorem zen(a b:Nat)(l:List (Int×YY)):∀k,k≤l.length→z74 (fun i _=>decide (a≤i)&&decide (i < b)) l k=(((l.map (·.2)).take k).take b).drop a
 | 0,_=>by simp[z74]
 | k+1,h=>by
  obtain⟨s,hs⟩:∃s,l[k]? = some s:=⟨_,Xa (by omega)⟩;have hs2:(l.map (·.2))[k]? = some s.2:=by rw[Uc,hs];rfl
  rw[zc1 hs,zen a b l k (by omega)];generalize l.map (·.2)=L at *;have e:k < L.length:=(Xe.1 hs2).1;have d:(L.take k).length=k:=by rw[Xp];omega
  rw[Xz,hs2,Uo];by_cases h1:k < b
  ·rw[Xw (l:=L.take k++[s.2]) (by rw[Xk,d,Jw];omega),Xw (l:=L.take k) (by omega)];by_cases h2:a≤k
   ·rw[Xf (by simp[h1,h2]),List.drop_append_of_le_length (by omega)]
   ·rw[Xc (by simp[h2]),Ui (by omega),Ui (by rw[Xk,d,Jw];omega)]
  ·rw[Xc (by simp[h1]),Yz (by omega)]
section
open Go.RowKit
structure RelL{α:Type}(P:List Value→α→Prop)(rs:List (List Value))(l:List α):Prop where
 len:rs.length=l.length
 at_:∀(i:Nat) (x:α),l[i]? = some x→∃cs:List Value,rs[i]? = some cs∧P cs x
theorem RelL.mem{α:Type}{P:List Value→α→Prop}{rs:List (List Value)}{l:List α}(h:RelL P rs l){c:List Value}(hc:c∈rs):∃x,x∈l∧P c x:=by
 obtain⟨i,hi⟩:=Yd hc;have a:=(Xe.1 hi).1;obtain⟨d,b,e⟩:=h.at_ i _ (Xa (show i < l.length by rw[←h.len];exact a));rw[hi] at b;cases b;exact⟨_,Vj _,e⟩
def rp4(x:Rp1)(A:YV)(c:Nat):List Value:=[.int .i64 x.kind,.string x.text,.int .i64 x.n,.slice A x.sub c]
def RpC(cs:List Value)(x:Rp1):Prop:=∃A c,cs=rp4 x A c
def zg9(w:World)(B:Nat)(v:Value)(r:Rep):Prop:=
 ∃A c,∃rs:List (List Value),v=.agg #[.int .i64 r.kind,.string r.text,.int .i64 r.n,.slice A r.list.length c]∧RelL RpC rs r.list∧Sl w B 4 (.slice A r.list.length c) r.list.length rs.flatten
theorem zg9.fr{w w':World}{B:Nat}{S:List Nat}{v:Value}{r:Rep}(h:zg9 w B v r)(hf:Fr S w w')(hB:B≤w.heap.size)(hS:∀k,k∈S→B≤k):zg9 w' B v r:=by
 obtain⟨A,c,a,e,hr,hs⟩:=h;exact⟨A,c,a,e,hr,hs.fr hf hB hS⟩
theorem zg9.more{w:World}{B B':Nat}{v:Value}{r:Rep}(h:zg9 w B v r)(hB:B≤B'):zg9 w B' v r:=by
 obtain⟨A,c,a,e,hr,hs⟩:=h;exact⟨A,c,a,e,hr,hs.more hB⟩
theorem zg9.go{w w':World}{v:Value}{r:Rep}(h:zg9 w w.heap.size v r)(hf:Fr [] w w'):zg9 w' w'.heap.size v r:=(h.fr hf (Xb _) (by simp)).more hf.size
theorem zg9.form{w:World}{B:Nat}{v:Value}{r:Rep}(h:zg9 w B v r):∃A c,v=.agg #[.int .i64 r.kind,.string r.text,.int .i64 r.n,.slice A r.list.length c]:=by
 obtain⟨A,c,a,e,_⟩:=h;exact⟨A,c,e⟩
structure At4(w:World)(b o:Nat)(x:Rp1)(A:YV)(c:Nat):Prop where
 k0:w.cell? ⟨b,o,none⟩=some (.int .i64 x.kind)
 k1:w.cell? ⟨b,o+1,none⟩=some (.string x.text)
 k2:w.cell? ⟨b,o+2,none⟩=some (.int .i64 x.n)
 k3:w.cell? ⟨b,o+3,none⟩=some (.slice A x.sub c)
theorem At4.fr{w w':World}{b o:Nat}{x:Rp1}{A:YV}{c:Nat}{S:List Nat}(h:At4 w b o x A c)(hf:Fr S w w')(hn:b∉S):At4 w' b o x A c:=
 ⟨hf.cell h.k0 hn,hf.cell h.k1 hn,hf.cell h.k2 hn,hf.cell h.k3 hn⟩
theorem At4.f0{w w':World}{b o:Nat}{x:Rp1}{A:YV}{c:Nat}{S:List Nat}(h:At4 w b o x A c)(hf:Fr S w w')(hn:b∉S:=by simp):At4 w' b o x A c:=h.fr hf hn
theorem zg9.at_{w:World}{B:Nat}{A:YV}{c:Nat}{r:Rep}(h:zg9 w B (.agg #[.int .i64 r.kind,.string r.text,.int .i64 r.n,.slice A r.list.length c]) r)(hn:0 < r.list.length):
  ∃b off,A=some ⟨b,off,none⟩∧b < B∧r.list.length≤c∧c≤maxLen∧∀(i:Nat) (x:Rp1),r.list[i]? = some x→∃A1 c1,At4 w b (off+i * 4) x A1 c1:=by
 obtain⟨D,E,k,l,hr,hs⟩:=h;simp at l;obtain⟨rfl,rfl⟩:=l;obtain⟨b,off,rfl,t,f,m,a⟩:=hs.at_ hn;refine⟨b,off,rfl,t,f,m,fun i x z=>?_⟩;obtain⟨F,e,A1,c1,rfl⟩:=hr.at_ i x z
 have d:∀c∈k,c.length=4:=fun c f=>by
  obtain⟨y,_,C,c2,rfl⟩:=hr.mem f;rfl
 have g:∀j u,j < 4→(rp4 x A1 c1)[j]? = some u→w.cell? ⟨b,off+(i * 4+j),none⟩=some u:=fun j u p s=>
  a _ _ (by rw[z3q 4 k i j _ d e p];exact s)
 exact⟨A1,c1,g 0 _ (by decide) rfl,by rw[Yb];exact g 1 _ (by decide) rfl,by rw[Yb];exact g 2 _ (by decide) rfl,by rw[Yb];exact g 3 _ (by decide) rfl⟩
def z84(l:List Rp1):List Value:=l.flatMap fun x=>rp4 x none 0
def z1i(w:World)(base:Nat)(v:Value)(r:Rep):Prop:=(∀x∈r.list,x.sub=0)∧∃u,v=.agg #[.int .i64 r.kind,.string r.text,.int .i64 r.n,u]∧w.ownsRow base 27 4 u r.list.length (z84 r.list)
theorem z1i.v{w:World}{base:Nat}{v:Value}{r:Rep}(h:z1i w base v r):zg9 w w.heap.size v r:=by
 obtain⟨d,u,rfl,a⟩:=h;obtain⟨A,c,rfl,-⟩:=z05 a;refine⟨A,c,r.list.map fun x=>rp4 x none 0,rfl,⟨by simp,fun i x b=>⟨rp4 x none 0,by rw[Uc,b];rfl,none,0,rfl⟩⟩,?_⟩;have:=z0l a;unfold z84 at this;rw[List.flatMap_def] at this;exact this
theorem z1i.form{w:World}{base:Nat}{v:Value}{r:Rep}(h:z1i w base v r):∃A c,v=.agg #[.int .i64 r.kind,.string r.text,.int .i64 r.n,.slice A r.list.length c]:=h.v.form
theorem z1i.fr{w w':World}{base:Nat}{v:Value}{r:Rep}(h:z1i w base v r)(hf:Fr [] w w'):z1i w' base v r:=by
 obtain⟨a,u,rfl,b⟩:=h;exact⟨a,u,rfl,z08 b hf (by simp)⟩
theorem z1i.base{w:World}{base base':Nat}{v:Value}{r:Rep}(h:z1i w base v r)(hb:base'≤base):z1i w base' v r:=by
 obtain⟨a,u,rfl,b⟩:=h;exact⟨a,u,rfl,z0i b hb⟩
theorem z1i.bare(w)(base:Nat)(k n:Int)(t):z1i w base (.agg #[.int .i64 k,.string t,.int .i64 n,.slice none 0 0]) ⟨k,t,n,[]⟩:=
 ⟨(fun x hx=>by cases hx),_,rfl,World.ownsRow_nil _ _ _ _⟩
theorem four{w:World}{g t:Nat}{a b c d:Value}(hw:Whole w g t [a,b,c,d]):
  w.cell? ⟨g,0,none⟩=some a∧w.cell? ⟨g,1,none⟩=some b∧w.cell? ⟨g,2,none⟩=some c∧w.cell? ⟨g,3,none⟩=some d:=⟨hw.cell 0,hw.cell 1,hw.cell 2,hw.cell 3⟩
theorem z1p{w:World}{g t:Nat}{a b c d:Value}(hw:Whole w g t [a,b,c,d]):
  w.frozen? ⟨g,0,none⟩=false∧w.frozen? ⟨g,1,none⟩=false∧w.frozen? ⟨g,2,none⟩=false∧w.frozen? ⟨g,3,none⟩=false:=⟨hw.frozen 0,hw.frozen 1,hw.frozen 2,hw.frozen 3⟩
theorem zwk:(prog.info? 27).map (fun i=>(i.zero,i.size,i.bytes))=some (some (.agg #[.int .i64 0,.string ⟨#[]⟩,.int .i64 0,.slice none 0 0]),4,56):=by kernel_rfl
theorem zbc(x:Itm)(v)(w:World)(B:Nat)(hs:x.Small)(hB:B≤w.heap.size)(h:z0p w B v x):
  Calls prog 259 #[v] w fun e w'=>e=.returned (.int .i64 (z02 2 x))∧Fr [] w w':=by
 have M:=hid (fun W (hf:Fr [] w W)=>zj0 x 2 v W B hs (Xd hB hf.size) (h.fr hf hB (by simp)));obtain⟨b,c1,g,c2,d,j,rfl,m,l,h3⟩:=h;have a:Fr [] w (w.alloc (.cells (yIa x b c1 g c2 d j) 68)):=(Fr.refl [] w).alloc _;go_enter func259,ntmps259;go_wp2_with fail;refine(M.o _ a).mono ?_;rintro e k ⟨rfl,f⟩;go_wp2;go_ret;exact⟨rfl,a.trans f⟩
theorem q74:(∀(l) (A) (c:Nat) (w:World) (B:Nat) (hs:(zho l).Small) (hB:B≤w.heap.size) (h:Sl w B 1 (.slice A l.length c) l.length (z03 l)),Calls prog 262 #[.slice A l.length c] w fun e w'=>e=.returned (if l.length=0 then .agg #[.int .i64 0,.string ⟨#[]⟩,.slice none 0 0,.slice none 0 0,.slice none 0 0] else .agg #[.int .i64 2,.string ⟨#[]⟩,.slice A l.length c,.slice none 0 0,.slice none 0 0])∧Fr [] w w')∧(∀(l:List (Int×YY)) (A) (c:Nat) (w:World) (B:Nat) (hs:(zcr l).Small) (hB:B≤w.heap.size) (h:Sl w B 2 (.slice A l.length c) l.length (z06 l)),Calls prog 287 #[.slice A l.length c] w fun e w'=>e=.returned (if l.length=0 then .agg #[.int .i64 0,.string ⟨#[]⟩,.slice none 0 0,.slice none 0 0,.slice none 0 0] else .agg #[.int .i64 5,.string ⟨#[]⟩,.slice none 0 0,.slice none 0 0,.slice A l.length c])∧Fr [] w w'):=by
 refine⟨?_,?_⟩;have a:=hid trivial
 rotate_left
 have D:=hid trivial
 all_goals
  intro l A c w B hs hB h
  first
  | (guard_hyp a
     have p:z0p w B (.agg #[.int .i64 2,.string ⟨#[]⟩,.slice A l.length c,.slice none 0 0,.slice none 0 0]) (zho l):=⟨A,c,none,0,none,0,rfl,h,Sl.nil _ _ _,Sl.nil _ _ _⟩;have O:=hid (fun W (hf:Fr [] w W)=>(show Calls prog 309 #[.agg #[.int .i64 2,.string ⟨#[]⟩,.slice A l.length c,.slice none 0 0,.slice none 0 0]] W fun e w'=>e=.returned (if l.length=0 then .agg yIza else .agg #[.int .i64 2,.string ⟨#[]⟩,.slice A l.length c,.slice none 0 0,.slice none 0 0])∧Fr [] W w' from by have:=zpk (zho l) (.agg #[.int .i64 2,.string ⟨#[]⟩,.slice A l.length c,.slice none 0 0,.slice none 0 0]) W B hs (Xd hB hf.size) (p.fr hf hB (by simp)) (show(2:Int)≠1 by decide);unfold ofV at this;rw[show many (zho l)=l.length from by show l.length+0+0=l.length;omega] at this;exact this)))
  | (have p:z0p w B (.agg #[.int .i64 5,.string ⟨#[]⟩,.slice none 0 0,.slice none 0 0,.slice A l.length c]) (zcr l):=⟨none,0,none,0,A,c,rfl,Sl.nil _ _ _,Sl.nil _ _ _,h⟩
     have O:=hid (fun W (hf:Fr [] w W)=>(show Calls prog 309 #[.agg #[.int .i64 5,.string ⟨#[]⟩,.slice none 0 0,.slice none 0 0,.slice A l.length c]] W fun e w'=>e=.returned (if l.length=0 then .agg yIza else .agg #[.int .i64 5,.string ⟨#[]⟩,.slice none 0 0,.slice none 0 0,.slice A l.length c])∧Fr [] W w' from by have:=zpk (zcr l) (.agg #[.int .i64 5,.string ⟨#[]⟩,.slice none 0 0,.slice none 0 0,.slice A l.length c]) W B hs (Xd hB hf.size) (p.fr hf hB (by simp)) (show(5:Int)≠1 by decide);unfold ofV at this;rw[show many (zcr l)=l.length from by show 0+0+l.length=l.length;omega] at this;exact this)))
  have n:Fr [] w (w.alloc (.cells yIza 68)):=(Fr.refl [] w).alloc _;have s:=hid (show Whole (w.alloc (.cells yIza 68)) w.heap.size 68 yIzl from Whole.new w _ _);clear p h hs;by_cases hm:l.length=0
  ·
   rw[Xf hm] at O ⊢;clear hm
   first
   | (guard_hyp a
      go_enter func262,ntmps262)
   | (go_enter func287,ntmps287)
   go_wp2_with fail;refine(O.o _ n).mono ?_;rintro e t ⟨rfl,d⟩;have r:=n.trans d;have b:=hid (s.o.fr d (by simp));obtain⟨j,k,m,f,g⟩:=five b.o;obtain⟨y,C,x,z,u⟩:=z11 b.o;go_wp2
   first
   | (guard_hyp a
      refine Xg (v:=.agg yIza) (by simp[results,results262,go_sem,j,k,m,f,g]) rfl ?_)
   | (refine Xg (v:=.agg yIza) (by simp[results,results287,go_sem,j,k,m,f,g]) rfl ?_)
   refine⟨rfl,z6s r (Xb _) _ _ _ _ _⟩
  ·
   rw[Xc hm] at O ⊢;clear hm
   first
   | (guard_hyp a
      go_enter func262,ntmps262)
   | (go_enter func287,ntmps287)
   go_wp2_with fail;refine(O.o _ n).mono ?_;rintro e t ⟨rfl,d⟩;have r:=n.trans d;have b:=hid (s.o.fr d (by simp));obtain⟨j,k,m,f,g⟩:=five b.o;obtain⟨y,C,x,z,u⟩:=z11 b.o;go_wp2
   first
   | (guard_hyp a
      refine Xg (v:=.agg #[.int .i64 2,.string ⟨#[]⟩,.slice A l.length c,.slice none 0 0,.slice none 0 0]) (by simp[results,results262,go_sem,j,k,m,f,g]) rfl ?_)
   | (refine Xg (v:=.agg #[.int .i64 5,.string ⟨#[]⟩,.slice none 0 0,.slice none 0 0,.slice A l.length c]) (by simp[results,results287,go_sem,j,k,m,f,g]) rfl ?_)
   refine⟨rfl,z6s r (Xb _) _ _ _ _ _⟩
abbrev zr9:=@And.left _ _ q74
abbrev znp:=@And.right _ _ q74
def ziu(ys:List (Int×YY))(base:Nat)(v:Value)(w:World)(e:Ending)(w':World):Prop:=
 ∃v',e=.returned v'∧w'.ownsRow base 102 2 v' ys.length (z06 ys)∧Fr (z1w v) w w'∧v'.ownBlock=v.ownBlock
theorem q7k:∀w,(zeroValue 102).run prog w=.ok (.agg #[.int .i64 0,.string ⟨#[]⟩]) w:=fun w=>by kernel_rfl
theorem tw3x:(∀(g:Nat) (lb:Array Value) (eg:∀args w,(callFunc g args).run prog w=.ok (.enter g args) w) (p:(YY×YY)→Bool) (D:Nat) (l:List (YY×YY)) (base:Nat) (v:Value) (w) (hp:zq5 g lb p D w) (hD:D≤base) (hl:l.length≤1000000)
  (h:w.ownsRow base 97 2 v l.length (z0e l)),Calls prog 279 #[v,.func (Fn.func g) #[] lb] w (ziv (l.filter fun x=>!p x) base v w))∧(∀(g:Nat) (lb:Array Value) (eg:∀args w,(callFunc g args).run prog w=.ok (.enter g args) w) (p:(Int×YY)→Bool) (D:Nat) (l:List (Int×YY)) (base:Nat) (v:Value) (w:World) (hp:zq4 g lb p D w) (hD:D≤base) (hl:l.length≤1000000)
  (h:w.ownsRow base 102 2 v l.length (z06 l)),Calls prog 288 #[v,.func (Fn.func g) #[] lb] w (ziu (l.filter fun x=>!p x) base v w))∧(∀(g:Nat) (lb:Array Value) (eg:∀args w,(callFunc g args).run prog w=.ok (.enter g args) w) (p:YY→Bool) (D:Nat) (l:YX) (base:Nat) (v:Value) (w:World) (hp:zm0 g lb p D w) (hD:D≤base) (hl:l.length≤1000000)
  (h:w.ownsRow base 9 1 v l.length (z03 l)),Calls prog 263 #[v,.func (Fn.func g) #[] lb] w (zdn (l.filter fun x=>!p x) base v w))∧(∀(g:Nat) (lb:Array Value) (eg:∀args w,(callFunc g args).run prog w=.ok (.enter g args) w) (p:List Value→Bool) (l:List (List Value)) (base:Nat) (v:Value) (w:World) (hsh:∀c∈l,zga c) (hp:q5a g lb l p (z1w v) w) (hl:l.length≤1000000)
  (h:w.ownsRow base 70 7 v l.length l.flatten),Calls prog 329 #[v,.func (Fn.func g) #[] lb] w (zsi (l.filter fun x=>!p x) base v w)):=by
 refine⟨?_,?_,?_,?_⟩;have O:=hid trivial
 rotate_left
 have N:=hid trivial
 rotate_left
 have G:=hid trivial
 rotate_left
 have F:=hid trivial
 all_goals
  first
  | (guard_hyp F
     intro g lb eg p l base v w hsh hp hl h)
  | (intro g lb eg p D l base v w hp hD hl h)
  obtain⟨A,c,rfl,hA,hc,hm⟩:=z05 h
  first
  | (guard_hyp O
     have I:=hid (zp5 g lb eg p D l A c w.heap.size w hp (by omega) (Xb _) (z0l h));rcases z7n p l with⟨R,e2⟩|⟨k0,s0,R,hk0,J⟩)
  | (guard_hyp N
     have I:=hid (zp4 g lb eg p D l A c w.heap.size w hp (by omega) (Xb _) (z0l h));rcases z7n p l with⟨R,e2⟩|⟨k0,s0,R,hk0,J⟩)
  | (guard_hyp G
     have I:=hid (zp6 g lb eg p D l A c w.heap.size w hp (by omega) (Xb _) (z0l h));rcases z7n p l with⟨R,e2⟩|⟨k0,s0,R,hk0,J⟩)
  | (have I:=hid (zz3 g lb eg p _ l A c w.heap.size w hsh hp (by omega) (Xb _) (z0l h))
     rcases z7n p l with⟨R,e2⟩|⟨k0,s00,R,hk0,J⟩)
  ·
   rw[R] at I;have H:=hid h;have E2:=hid e2
   first
   | (guard_hyp O
      clear h R e2 hp;go_enter func279,ntmps279)
   | (guard_hyp N
      clear h R e2 hp;go_enter func288,ntmps288)
   | (guard_hyp G
      clear h R e2 hp;go_enter func263,ntmps263)
   | (clear h R e2 hp hsh
      go_enter func329,ntmps329)
   go_wp2_with fail;refine I.o.mono ?_;rintro e w1 ⟨rfl,h1⟩;go_wp2;go_ret;rw[E2.o];exact⟨_,rfl,z08 H.o h1 (by simp),h1.up,rfl⟩
  ·
   rw[R] at I
   obtain⟨a,rfl⟩:∃a,A=some ⟨a,0,none⟩:=by
    rcases hA with rfl|⟨a,rfl⟩
    ·
     exfalso;rcases h.2 with⟨_,h0⟩|⟨g',cap',M,h',_⟩
     ·
      omega
     ·
      cases h'
    ·
     exact⟨a,rfl⟩
   have ag:=(h.lt a rfl);have H:=hid h;have HP:=hid hp;have Y:=hid J
   first
   | (guard_hyp F
      have aa:=hid hsh;have H7:=hid (fun c hc=>(hsh c hc).len))
   | (skip)
   have ab:((k0:Int)==-1)=false:=beq_eq_false_iff_ne.2 (by omega);unfold maxLen at hm
   first
   | (guard_hyp O
      clear h hp J R hA;go_enter func279,ntmps279)
   | (guard_hyp N
      clear h hp J R hA;go_enter func288,ntmps288)
   | (guard_hyp G
      clear h hp J R hA;go_enter func263,ntmps263)
   | (clear h hp J R hA hsh
      go_enter func329,ntmps329)
   go_wp2_with fail;refine I.o.mono ?_;rintro e w1 ⟨rfl,h1⟩;have E:=hid h1;clear h1;go_wp2
   first
   | (guard_hyp O
      go_loopg [5,6] (l.length - (k0+1)) (fun gg s5 s6 wr=>∃(i j:Nat) (d:List (YY×YY)),gg=l.length - j∧s5=.int .i64 i∧s6=.int .i64 j∧Kept p l d i j∧wr.ownsRow base 97 2 (.slice (some ⟨a,0,none⟩) l.length c) l.length (z0e d)∧Fr [a] w wr)
      case atStart=>exact⟨k0,k0+1,l,rfl,rfl,by go_num,Y.o,z08 H.o E.o (by simp),E.o.up⟩)
   | (guard_hyp N
      go_loopg [5,6] (l.length - (k0+1)) (fun gg s5 s6 wr=>∃(i j:Nat) (d:List (Int×YY)),gg=l.length - j∧s5=.int .i64 i∧s6=.int .i64 j∧Kept p l d i j∧wr.ownsRow base 102 2 (.slice (some ⟨a,0,none⟩) l.length c) l.length (z06 d)∧Fr [a] w wr)
      case atStart=>exact⟨k0,k0+1,l,rfl,rfl,by go_num,Y.o,z08 H.o E.o (by simp),E.o.up⟩)
   | (guard_hyp G
      go_loopg [5,6] (l.length - (k0+1)) (fun gg s5 s6 wr=>∃(i j:Nat) (d:YX),gg=l.length - j∧s5=.int .i64 i∧s6=.int .i64 j∧Kept p l d i j∧wr.ownsRow base 9 1 (.slice (some ⟨a,0,none⟩) l.length c) l.length (z03 d)∧Fr [a] w wr)
      case atStart=>exact⟨k0,k0+1,l,rfl,rfl,by go_num,Y.o,z08 H.o E.o (by simp),E.o.up⟩)
   | (go_loopg [5,6] (l.length - (k0+1)) (fun gg s5 s6 wr=>∃(i j:Nat) (d:List (List Value)),gg=l.length - j∧s5=.int .i64 i∧s6=.int .i64 j∧Kept p l d i j∧(∀c∈d,c∈l)∧wr.ownsRow base 70 7 (.slice (some ⟨a,0,none⟩) l.length c) l.length d.flatten∧Fr [a] w wr)
      case atStart=>exact⟨k0,k0+1,l,rfl,rfl,by go_num,Y.o,fun c h=>h,z08 H.o E.o (by simp),E.o.up⟩)
   case round=>
    first
    | (guard_hyp F
       obtain⟨i,j,d,rfl,rfl,rfl,J,a3,K,hF⟩:=hrel)
    | (obtain⟨i,j,d,rfl,rfl,rfl,J,K,hF⟩:=hrel)
    have Y:=hid J;have HO:=hid K;have HF:=hid hF
    first
    | (guard_hyp F
       have a6:=hid a3;have r:=hid (fun c hc=>H7.o c (a3 c hc)))
    | (skip)
    have ae:=J.lt;have ac:=J.le;have a5:=J.len;have ad:=hF.size
    first
    | (guard_hyp F
       clear I E a3)
    | (clear I E)
    by_cases hlt:j < l.length
    ·
     obtain⟨s,hs⟩:∃s,l[j]? = some s:=⟨_,Xa hlt⟩;have U:d[j]? = some s:=(J.behind j (Xb _)).trans hs
     first
     | (guard_hyp F
        have a0:=Xj hs;obtain⟨sk,sn,st,A1,n1,d1,A2,n2,d2,A3,n3,d3,su,rfl⟩:=aa.o s a0;have L:=hid (fun W (hW:Fr [] wr W)=>HP.o W [.string sk,.int .i64 sn,.string st,.slice A1 n1 d1,.slice A2 n2 d2,.slice A3 n3 d3,.int .i64 su] a0 (hF.trans hW.up)))
     | (have L:=hid (fun W (hW:Fr [] wr W)=>HP.o W s ((hF.toB D).more (T:=[]) (by intro k hk;simp at hk;subst hk;exact .inr (by omega)) |>.trans (hW.toB D))))
     have HS:=hid hs
     first
     | (guard_hyp O
        have x1:wr.cell? ⟨a,j * 2,none⟩=some (.string s.1):=(K.cellAt (j * 2) (by omega)).trans (by rw[Ya];exact(z0f d j s U).1);have x2:wr.cell? ⟨a,j * 2+1,none⟩=some (.string s.2):=(K.cellAt (j * 2+1) (by omega)).trans (by rw[Ya];exact(z0f d j s U).2);have F1:=hid ((Fr.refl [] wr).alloc (.cells #[.string s.1,.string s.2] 97));have V1:=hid (Whole.new wr 97 [.string s.1,.string s.2]);clear J K hF hs U;by_cases hq:p s=true)
     | (guard_hyp N
        have x1:wr.cell? ⟨a,j * 2,none⟩=some (.int .i64 s.1):=(K.cellAt (j * 2) (by omega)).trans (by rw[Ya];exact(z0b d j s U).1);have x2:wr.cell? ⟨a,j * 2+1,none⟩=some (.string s.2):=(K.cellAt (j * 2+1) (by omega)).trans (by rw[Ya];exact(z0b d j s U).2);have F1:=hid ((Fr.refl [] wr).alloc (.cells #[.int .i64 s.1,.string s.2] 102));have V1:=hid (Whole.new wr 102 [.int .i64 s.1,.string s.2]);clear J K hF hs U;by_cases hq:p s=true)
     | (guard_hyp G
        have x1:wr.cell? ⟨a,j,none⟩=some (.string s):=(K.cellAt j (by omega)).trans (z0x d j s U);have F1:=hid (Fr.refl [] wr);clear J K hF hs U;by_cases hq:p s=true)
     | (have a7:=hid a0
        have x0:wr.cell? ⟨a,j * 7,none⟩=some (.string sk):=(K.cellAt (j * 7) (by omega)).trans (z3q 7 d j 0 _ r.o U (by decide));have x1:wr.cell? ⟨a,j * 7+1,none⟩=some (.int .i64 sn):=(K.cellAt (j * 7+1) (by omega)).trans (z3q 7 d j 1 _ r.o U (by decide));have x2:wr.cell? ⟨a,j * 7+2,none⟩=some (.string st):=(K.cellAt (j * 7+2) (by omega)).trans (z3q 7 d j 2 _ r.o U (by decide));have x3:wr.cell? ⟨a,j * 7+3,none⟩=some (.slice A1 n1 d1):=(K.cellAt (j * 7+3) (by omega)).trans (z3q 7 d j 3 _ r.o U (by decide));have x4:wr.cell? ⟨a,j * 7+4,none⟩=some (.slice A2 n2 d2):=(K.cellAt (j * 7+4) (by omega)).trans (z3q 7 d j 4 _ r.o U (by decide));have x5:wr.cell? ⟨a,j * 7+5,none⟩=some (.slice A3 n3 d3):=(K.cellAt (j * 7+5) (by omega)).trans (z3q 7 d j 5 _ r.o U (by decide));have x6:wr.cell? ⟨a,j * 7+6,none⟩=some (.int .i64 su):=(K.cellAt (j * 7+6) (by omega)).trans (z3q 7 d j 6 _ r.o U (by decide));have F1:=hid ((Fr.refl [] wr).alloc (.cells #[.string sk,.int .i64 sn,.string st,.slice A1 n1 d1,.slice A2 n2 d2,.slice A3 n3 d3,.int .i64 su] 70));have V1:=hid (Whole.new wr 70 [.string sk,.int .i64 sn,.string st,.slice A1 n1 d1,.slice A2 n2 d2,.slice A3 n3 d3,.int .i64 su]);clear J K hF hs U a0;by_cases hq:p [.string sk,.int .i64 sn,.string st,.slice A1 n1 d1,.slice A2 n2 d2,.slice A3 n3 d3,.int .i64 su]=true)
     ·
      rw[hq] at L;have HQ:=hid hq;clear hq;go_wp2_with fail;refine(L.o _ F1.o).mono ?_;rintro e f ⟨rfl,h2⟩;have f2:=hid (F1.o.trans h2);clear h2;go_wp2;go_roundg (l.length - (j+1))
      case measure=>omega
      first
      | (guard_hyp F
         case rel=>exact⟨i,j+1,d,rfl,rfl,by go_num,Y.o.skip HS.o HQ.o,a6.o,z08 HO.o f2.o (by simp),HF.o.trans f2.o.up⟩)
      | (case rel=>exact⟨i,j+1,d,rfl,rfl,by go_num,Y.o.skip HS.o HQ.o,z08 HO.o f2.o (by simp),HF.o.trans f2.o.up⟩)
     ·
      first
      | (guard_hyp F
         have a1:p [.string sk,.int .i64 sn,.string st,.slice A1 n1 d1,.slice A2 n2 d2,.slice A3 n3 d3,.int .i64 su]=false:=by simpa using hq)
      | (have a1:p s=false:=by simpa using hq)
      rw[a1] at L;have HQ:=hid a1;clear hq a1;obtain⟨X,a2⟩:∃X,d[i]? = some X:=⟨_,Xa (by omega)⟩
      first
      | (guard_hyp F
         obtain⟨b0,b1,b2,b3,b4,b5,b6,rfl⟩:=q3j (r.o X (Xj a2)))
      | (skip)
      have B:=hid a2;clear a2;go_wp2_with fail;refine(L.o _ F1.o).mono ?_;rintro e f ⟨rfl,h2⟩;have f2:=hid (F1.o.trans h2);have b:=hid (z08 HO.o f2.o (by simp))
      first
      | (guard_hyp O
         have S:=V1.o.fr h2 (by simp);have v1:f.cell? ⟨wr.heap.size,0,none⟩=some (.string s.1):=S.cell 0;have v2:f.cell? ⟨wr.heap.size,1,none⟩=some (.string s.2):=S.cell 1;have y1:f.cell? ⟨a,i * 2,none⟩=some (.string X.1):=(b.o.cellAt (i * 2) (by omega)).trans (by rw[Ya];exact(z0f d i X B.o).1);have y2:f.cell? ⟨a,i * 2+1,none⟩=some (.string X.2):=(b.o.cellAt (i * 2+1) (by omega)).trans (by rw[Ya];exact(z0f d i X B.o).2);have z1:f.frozen? ⟨a,i * 2,none⟩=false:=b.o.frozenAt _;have z2:f.frozen? ⟨a,i * 2+1,none⟩=false:=b.o.frozenAt _;clear S;clear h2)
      | (guard_hyp N
         have S:=V1.o.fr h2 (by simp);have v1:f.cell? ⟨wr.heap.size,0,none⟩=some (.int .i64 s.1):=S.cell 0;have v2:f.cell? ⟨wr.heap.size,1,none⟩=some (.string s.2):=S.cell 1;have y1:f.cell? ⟨a,i * 2,none⟩=some (.int .i64 X.1):=(b.o.cellAt (i * 2) (by omega)).trans (by rw[Ya];exact(z0b d i X B.o).1);have y2:f.cell? ⟨a,i * 2+1,none⟩=some (.string X.2):=(b.o.cellAt (i * 2+1) (by omega)).trans (by rw[Ya];exact(z0b d i X B.o).2);have z1:f.frozen? ⟨a,i * 2,none⟩=false:=b.o.frozenAt _;have z2:f.frozen? ⟨a,i * 2+1,none⟩=false:=b.o.frozenAt _;clear S;clear h2)
      | (guard_hyp G
         have y1:f.cell? ⟨a,i,none⟩=some (.string X):=(b.o.cellAt i (by omega)).trans (z0x d i X B.o);have z1:f.frozen? ⟨a,i,none⟩=false:=b.o.frozenAt i;clear h2)
      | (have S:=V1.o.fr h2 (by simp)
         have v0:f.cell? ⟨wr.heap.size,0,none⟩=some (.string sk):=S.cell 0;have y0:f.cell? ⟨a,i * 7,none⟩=some b0:=(b.o.cellAt (i * 7) (by omega)).trans (z3q 7 d i 0 _ r.o B.o (by decide));have z0:f.frozen? ⟨a,i * 7,none⟩=false:=b.o.frozenAt _;have v1:f.cell? ⟨wr.heap.size,1,none⟩=some (.int .i64 sn):=S.cell 1;have y1:f.cell? ⟨a,i * 7+1,none⟩=some b1:=(b.o.cellAt (i * 7+1) (by omega)).trans (z3q 7 d i 1 _ r.o B.o (by decide));have z1:f.frozen? ⟨a,i * 7+1,none⟩=false:=b.o.frozenAt _;have v2:f.cell? ⟨wr.heap.size,2,none⟩=some (.string st):=S.cell 2;have y2:f.cell? ⟨a,i * 7+2,none⟩=some b2:=(b.o.cellAt (i * 7+2) (by omega)).trans (z3q 7 d i 2 _ r.o B.o (by decide));have z2:f.frozen? ⟨a,i * 7+2,none⟩=false:=b.o.frozenAt _;have v3:f.cell? ⟨wr.heap.size,3,none⟩=some (.slice A1 n1 d1):=S.cell 3;have y3:f.cell? ⟨a,i * 7+3,none⟩=some b3:=(b.o.cellAt (i * 7+3) (by omega)).trans (z3q 7 d i 3 _ r.o B.o (by decide));have z3:f.frozen? ⟨a,i * 7+3,none⟩=false:=b.o.frozenAt _;have v4:f.cell? ⟨wr.heap.size,4,none⟩=some (.slice A2 n2 d2):=S.cell 4;have y4:f.cell? ⟨a,i * 7+4,none⟩=some b4:=(b.o.cellAt (i * 7+4) (by omega)).trans (z3q 7 d i 4 _ r.o B.o (by decide));have z4:f.frozen? ⟨a,i * 7+4,none⟩=false:=b.o.frozenAt _;have v5:f.cell? ⟨wr.heap.size,5,none⟩=some (.slice A3 n3 d3):=S.cell 5;have y5:f.cell? ⟨a,i * 7+5,none⟩=some b5:=(b.o.cellAt (i * 7+5) (by omega)).trans (z3q 7 d i 5 _ r.o B.o (by decide));have z5:f.frozen? ⟨a,i * 7+5,none⟩=false:=b.o.frozenAt _;have v6:f.cell? ⟨wr.heap.size,6,none⟩=some (.int .i64 su):=S.cell 6;have y6:f.cell? ⟨a,i * 7+6,none⟩=some b6:=(b.o.cellAt (i * 7+6) (by omega)).trans (z3q 7 d i 6 _ r.o B.o (by decide));have z6:f.frozen? ⟨a,i * 7+6,none⟩=false:=b.o.frozenAt _;clear S h2)
      go_wp2;go_roundg (l.length - (j+1))
      case measure=>omega
      first
      | (guard_hyp O
         case rel=>
          have o1:=b.o.stored (i * 2) (.string s.1);have o2:=o1.1.stored (i * 2+1) (.string s.2);exact⟨i+1,j+1,d.set i s,rfl,by go_num,by go_num,Y.o.keep HS.o HQ.o,by rw[zc4];exact o2.1,((HF.o.trans f2.o.up).setCell (p:=⟨a,i * 2,none⟩) (.inl (by simp)) _).setCell (p:=⟨a,i * 2+1,none⟩) (.inl (by simp)) _⟩)
      | (guard_hyp N
         case rel=>
          have o1:=b.o.stored (i * 2) (.int .i64 s.1);have o2:=o1.1.stored (i * 2+1) (.string s.2);exact⟨i+1,j+1,d.set i s,rfl,by go_num,by go_num,Y.o.keep HS.o HQ.o,by rw[zfg];exact o2.1,((HF.o.trans f2.o.up).setCell (p:=⟨a,i * 2,none⟩) (.inl (by simp)) _).setCell (p:=⟨a,i * 2+1,none⟩) (.inl (by simp)) _⟩)
      | (guard_hyp G
         case rel=>
          have o1:=b.o.stored i (.string s);exact⟨i+1,j+1,d.set i s,rfl,by go_num,by go_num,Y.o.keep HS.o HQ.o,by rw[zcd];exact o1.1,(HF.o.trans f2.o.up).setCell (p:=⟨a,i,none⟩) (.inl (by simp)) _⟩)
      | (case rel=>
          have o0:=b.o.stored (i * 7) (.string sk);have o1:=o0.1.stored (i * 7+1) (.int .i64 sn);have o2:=o1.1.stored (i * 7+2) (.string st);have o3:=o2.1.stored (i * 7+3) (.slice A1 n1 d1);have o4:=o3.1.stored (i * 7+4) (.slice A2 n2 d2);have o5:=o4.1.stored (i * 7+5) (.slice A3 n3 d3);have o6:=o5.1.stored (i * 7+6) (.int .i64 su);exact⟨i+1,j+1,d.set i [.string sk,.int .i64 sn,.string st,.slice A1 n1 d1,.slice A2 n2 d2,.slice A3 n3 d3,.int .i64 su],rfl,by go_num,by go_num,Y.o.keep HS.o HQ.o,zuy (p:=p) (j:=j) a5 a6.o _ a7.o,by rw[zk0 (.string sk) (.int .i64 sn) (.string st) (.slice A1 n1 d1) (.slice A2 n2 d2) (.slice A3 n3 d3) (.int .i64 su) d i r.o (by omega)];exact o6.1,((((((((HF.o.trans f2.o.up).setCell (p:=⟨a,i * 7,none⟩) (.inl (by simp)) _).setCell (p:=⟨a,i * 7+1,none⟩) (.inl (by simp)) _).setCell (p:=⟨a,i * 7+2,none⟩) (.inl (by simp)) _).setCell (p:=⟨a,i * 7+3,none⟩) (.inl (by simp)) _).setCell (p:=⟨a,i * 7+4,none⟩) (.inl (by simp)) _).setCell (p:=⟨a,i * 7+5,none⟩) (.inl (by simp)) _).setCell (p:=⟨a,i * 7+6,none⟩) (.inl (by simp)) _)⟩)
    ·
     obtain rfl:j=l.length:=by omega
     have y:=J.done;obtain⟨M,w0,l0,t0,Z,_,_,a9⟩:=z3j K
     first
     | (guard_hyp O
        obtain⟨z,C⟩:∃z,z=(Builtin.zeroCells (Value.cells (.agg #[.string ⟨#[]⟩,.string ⟨#[]⟩])) (l.length - i)).toList:=⟨_,rfl⟩;have Q:z.length=(l.length - i) * 2:=by rw[C];simp[Builtin.zeroCells,Value.cells]
        have a4:∀V,(Builtin.clear_ #[65] V #[.slice (some ⟨a,i * 2,none⟩) (l.length - i) (c - i)]).run prog wr=.ok (.tuple #[]) (wr.setCells a (i * 2) z):=fun V=>by
         have:=z3l (P:=prog) wr 65 97 V (.agg #[.string ⟨#[]⟩,.string ⟨#[]⟩]) underlying65 q7m (by intro u hu;simp[Value.cells] at hu;rcases hu with rfl|rfl <;> rfl) a (i * 2) (l.length - i) (c - i) (by omega) (fun t ht=>by
          exact z0n w0 (o:=i * 2) (m:=(l.length - i) * 2) (by omega) t (by simpa[Value.cells] using ht))
         rw[←C] at this;exact this
        have W1:=z14 z (i * 2) wr M w0 (by omega);have O1:=z2j (cap:=c) (k:=2) (n:=i) (base:=base) W1 (by simp only[Xk,Xp,Xr,l0,Q];omega) Z (by omega) (by unfold maxLen;omega))
     | (guard_hyp N
        obtain⟨z,C⟩:∃z,z=(Builtin.zeroCells (Value.cells (.agg #[.int .i64 0,.string ⟨#[]⟩])) (l.length - i)).toList:=⟨_,rfl⟩;have Q:z.length=(l.length - i) * 2:=by rw[C];simp[Builtin.zeroCells,Value.cells]
        have a4:∀V,(Builtin.clear_ #[66] V #[.slice (some ⟨a,i * 2,none⟩) (l.length - i) (c - i)]).run prog wr=.ok (.tuple #[]) (wr.setCells a (i * 2) z):=fun V=>by
         have:=z3l (P:=prog) wr 66 102 V (.agg #[.int .i64 0,.string ⟨#[]⟩]) underlying66 q7k (by intro u hu;simp[Value.cells] at hu;rcases hu with rfl|rfl <;> rfl) a (i * 2) (l.length - i) (c - i) (by omega) (fun t ht=>by
          exact z0n w0 (o:=i * 2) (m:=(l.length - i) * 2) (by omega) t (by simpa[Value.cells] using ht))
         rw[←C] at this;exact this
        have W1:=z14 z (i * 2) wr M w0 (by omega);have O1:=z2j (cap:=c) (k:=2) (n:=i) (base:=base) W1 (by simp only[Xk,Xp,Xr,l0,Q];omega) Z (by omega) (by unfold maxLen;omega))
     | (guard_hyp G
        obtain⟨z,C⟩:∃z,z=(Builtin.zeroCells (Value.cells (.string ⟨#[]⟩)) (l.length - i)).toList:=⟨_,rfl⟩;have Q:z.length=(l.length - i) * 1:=by rw[C];simp[Builtin.zeroCells,Value.cells]
        have a4:∀V,(Builtin.clear_ #[24] V #[.slice (some ⟨a,i,none⟩) (l.length - i) (c - i)]).run prog wr=.ok (.tuple #[]) (wr.setCells a (i) z):=fun V=>by
         have:=z3l (P:=prog) wr 24 9 V (.string ⟨#[]⟩) underlying24 q7n (by intro u hu;simp[Value.cells] at hu;rcases hu with rfl|rfl <;> rfl) a (i) (l.length - i) (c - i) (by omega) (fun t ht=>by
          exact z0n w0 (o:=i) (m:=(l.length - i) * 1) (by omega) t (by simpa[Value.cells] using ht))
         rw[←C] at this;exact this
        have W1:=z14 z (i) wr M w0 (by omega);have O1:=z2j (cap:=c) (k:=1) (n:=i) (base:=base) W1 (by simp only[Xk,Xp,Xr,l0,Q];omega) Z (by omega) (by unfold maxLen;omega))
     | (obtain⟨z,C⟩:∃z,z=(Builtin.zeroCells (Value.cells (.agg yEza)) (l.length - i)).toList:=⟨_,rfl⟩
        have Q:z.length=(l.length - i) * 7:=by rw[C];simp[Builtin.zeroCells,Value.cells]
        have a4:∀V,(Builtin.clear_ #[23] V #[.slice (some ⟨a,i * 7,none⟩) (l.length - i) (c - i)]).run prog wr=.ok (.tuple #[]) (wr.setCells a (i * 7) z):=fun V=>by
         have:=z3l (P:=prog) wr 23 70 V (.agg yEza) underlying23 q7l (by intro u hu;simp[Value.cells] at hu;rcases hu with rfl|rfl|rfl|rfl|rfl|rfl|rfl <;> rfl) a (i * 7) (l.length - i) (c - i) (by omega) (fun t ht=>by
          exact z0n w0 (o:=i * 7) (m:=(l.length - i) * 7) (by omega) t (by simpa[Value.cells] using ht))
         rw[←C] at this;exact this
        have W1:=z14 z (i * 7) wr M w0 (by omega);have O1:=z2j (cap:=c) (k:=7) (n:=i) (base:=base) W1 (by simp only[Xk,Xp,Xr,l0,Q];omega) Z (by omega) (by unfold maxLen;omega))
     rw[Yi,Yz (by rw[Xp];omega),Vm,Up (by omega)] at O1
     first
     | (guard_hyp O
        have e5:M.take (i * 2)=z0e (l.filter fun x=>!p x):=by
         rw[←y,←z7z,←t0,Vm,Up (by omega)])
     | (guard_hyp N
        have e5:M.take (i * 2)=z06 (l.filter fun x=>!p x):=by
         rw[←y,←z47,←t0,Vm,Up (by omega)])
     | (guard_hyp G
        have e5:M.take (i * 1)=z03 (l.filter fun x=>!p x):=by
         rw[←y,←zny,←t0,Vm,Up (by omega)])
     | (have e5:M.take (i * 7)=(l.filter fun x=>!p x).flatten:=by
         rw[←y,←z96 7 d i r.o,←t0,Vm,Up (by omega)])
     have e6:i=(l.filter fun x=>!p x).length:=by rw[←y,Xp];omega
     rw[e5] at O1;have a8:=hid O1;have HE:=hid e6
     first
     | (guard_hyp G
        have G1:=hid (z0h (g:=a) z (i) wr))
     | (guard_hyp F
        have G1:=hid (z0h (g:=a) z (i * 7) wr))
     | (have G1:=hid (z0h (g:=a) z (i * 2) wr))
     have af:i < c:=by omega
     clear J K hF w0 l0 t0 Z a9 C Q W1 O1 e5 e6 y a5 Y HO;go_wp2;go_ret;have e6:=HE.o;refine⟨_,rfl,?_,?_,rfl⟩
     ·
      rw[←e6];exact a8.o
     ·
      exact HF.o.grown G1.o (fun k hk=>by cases hk;exact .inl (by simp))
abbrev ztp:=@And.left _ _ tw3x
abbrev ztn:=@And.left _ _ (@And.right _ _ tw3x)
abbrev zjf:=@And.left _ _ (@And.right _ _ (@And.right _ _ tw3x))
abbrev zto:=@And.right _ _ (@And.right _ _ (@And.right _ _ tw3x))
end
end Go.Proofs.YtnmoajaelmimnaaGreatDoor
