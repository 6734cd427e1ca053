/- Contracts; no condition but each theorem's own. -/
import Derived.Test.YtnmoajaelmimnaaGreatDoorSlY10
import Derived.Test.YtnmoajaelmimnaaGreatDoorSlY13
import Derived.Test.YtnmoajaelmimnaaGreatDoorSlY14
import Derived.Lib.RowBridge
import Derived.Lib.SlicesCompact
import Derived.Sort.OwnSorted
import Derived.Sort.Walk0
set_option linter.unusedVariables false
set_option linter.unusedSimpArgs false
set_option maxHeartbeats 8000000
set_option maxRecDepth 100000
namespace Go.Proofs.YtnmoajaelmimnaaGreatDoor
open Go.Proofs.Tryz
section
open Go.RowKit
def zf6(ss:List YX)(a b:Int):YY:=(ss.getD a.toNat []).getD b.toNat ⟨#[]⟩
def z6u(ss:List YX)(x:Slt):Itm:=if x.cold=true then z0m (zf6 ss x.seg x.rcd) else x.item
def z0y(s:Sto):List Ent:=s.slots.map fun x=>⟨x.key,z6u s.segs x,x.til⟩
theorem z9l{ss:List YX}{a b:Int}(h:z2w ss a b=true):∃(i j:Nat) (l:YX) (t:YY),a=i∧b=j∧ss[i]? = some l∧l[j]? = some t∧zf6 ss a b=t:=by
 unfold z2w at h;simp only[Yf,decide_eq_true_eq] at h;obtain⟨⟨⟨f,g⟩,h3⟩,h4⟩:=h;obtain⟨i,rfl⟩:=Jr f;obtain⟨j,rfl⟩:=Jr h3;rw[Ur] at h4;have hi:i < ss.length:=by omega
 have e:ss.getD i []=ss[i]:=by rw[Xs,Xa hi];rfl
 rw[e] at h4;have d:j < (ss[i]).length:=by omega
 refine⟨i,j,ss[i],(ss[i])[j],rfl,rfl,Xa hi,Xa d,?_⟩;unfold zf6;rw[Ur,Ur,e,Xs,Xa d];rfl
theorem z8b{ss:List YX}{i j:Nat}{l:YX}{t:YY}(h:ss[i]? = some l)(k:l[j]? = some t):z2w ss i j=true∧zf6 ss i j=t:=by
 have hi:=(Xe.1 h).1;have a:=(Xe.1 k).1;have e:ss.getD i []=l:=by rw[Xs,h];rfl
 refine⟨?_,?_⟩
 ·unfold z2w;simp only[Yf,decide_eq_true_eq,Ur];rw[e];exact⟨⟨⟨by omega,by omega⟩,by omega⟩,by omega⟩
 ·unfold zf6;rw[Ur,Ur,e,Xs,k];rfl
theorem zf9{α β:Type}{key:α→YY}{key':β→YY}{l:List α}(f:α→β)(hf:∀x,key' (f x)=key x)(h:rises (ltK key) l=true):rises (ltK key') (l.map f)=true:=by
 refine z34 ?_;rw[Vf];refine(z2u (z3r key) h).imp ?_;intro a b d;unfold ltK at d ⊢;rw[hf,hf];exact d
theorem zef{s:Sto}(h:z6e s){x:Slt}(hx:x∈s.slots):z0a (z6u s.segs x)=0:=by
 have k:=h.slot x hx;unfold z6u;by_cases hc:x.cold=true
 ·rw[Xf hc];obtain⟨i,j,l,t,_,_,h3,h4,a⟩:=z9l (k.cold hc).2;rw[a];exact(q1g (h.recs l (Xj h3) t (Xj h4))).1
 ·rw[Xc hc];exact(k.hot (by simpa using hc)).1
theorem q4v{s:Sto}(h:z6e s):z22 (z0y s):=by
 refine⟨by unfold z0y;rw[Xx];exact h.le,?_,?_,?_,zf9 _ (fun _=>rfl) h.rise⟩
 ·intro e a;obtain⟨x,b,rfl⟩:=Yt.1 a;exact(h.slot x b).key
 ·intro e a;obtain⟨x,b,rfl⟩:=Yt.1 a;exact zef h b
 ·intro e a;obtain⟨x,b,rfl⟩:=Yt.1 a;exact(h.slot x b).til
theorem q1v{s:Sto}(h:z6e s){i:Nat}{x y:Slt}(hx:s.slots[i]? = some x)(hk:y.key=x.key)(hy:zh2 s.segs y):z6e ⟨s.slots.set i y,s.segs⟩:=by
 refine⟨by show(s.slots.set i y).length≤16;rw[Ug];exact h.le,h.sle,h.rle,h.recs,?_,?_⟩
 ·intro z f;rcases Us f with f|rfl
  ·exact h.slot z f
  ·exact hy
 ·show rises (ltK Slt.key) (s.slots.set i y)=true;refine z34 ?_;have g:=z2u (z3r Slt.key) h.rise;rw[Vt] at g ⊢;intro a b j k e;rw[Ug] at j k;have hi:=(Xe.1 hx).1;have d:=(Xe.1 hx).2;have:=g a b j k e;unfold ltK at this ⊢;rw[List.getElem_set,List.getElem_set];by_cases h1:i=a
  ·subst h1;rw[Xf rfl,Xc (by omega),hk,←d];exact this
  ·rw[Xc h1];by_cases h2:i=b
   ·subst h2;rw[Xf rfl,hk,←d];exact this
   ·rw[Xc h2];exact this
theorem zpt{s:Sto}{i:Nat}{x y:Slt}(hx:s.slots[i]? = some x)(hk:y.key=x.key)(ht:y.til=x.til)(hl:z6u s.segs y=z6u s.segs x):z0y ⟨s.slots.set i y,s.segs⟩=z0y s:=by
 unfold z0y;refine Ji fun k=>?_;rw[Uc,Uc];show Option.map _ (s.slots.set i y)[k]? = _;rw[Yy];by_cases h:i=k
 ·subst h;have hi:=(Xe.1 hx).1;rw[Xf rfl,Xf hi,hx];show some (Ent.mk y.key (z6u s.segs y) y.til)=some (Ent.mk x.key (z6u s.segs x) x.til);rw[hk,ht,hl]
 ·rw[Xc h]
def zxn(ss tt:List YX):Prop:=∀(i:Nat) (l:YX),ss[i]? = some l→∃m,tt[i]? = some (l++m)
theorem zjr{ss tt:List YX}(h:zxn ss tt){a b:Int}(k:z2w ss a b=true):z2w tt a b=true∧zf6 tt a b=zf6 ss a b:=by
 obtain⟨i,j,l,t,rfl,rfl,h3,h4,d⟩:=z9l k;obtain⟨m,f⟩:=h i l h3;have e:=(Xe.1 h4).1;have:=z8b f (j:=j) (t:=t) (by rw[Xu e];exact h4);exact⟨this.1,by rw[this.2,d]⟩
theorem zoy{ss tt:List YX}(h:zxn ss tt){x:Slt}(k:zh2 ss x):zh2 tt x∧z6u tt x=z6u ss x:=by
 refine⟨⟨k.key,k.hot,fun a=>⟨(k.cold a).1,(zjr h (k.cold a).2).1⟩,k.til⟩,?_⟩;unfold z6u;by_cases a:x.cold=true
 ·rw[Xf a,Xf a,(zjr h (k.cold a).2).2]
 ·rw[Xc a,Xc a]
theorem q61{s:Sto}(h:z6e s){tt:List YX}(he:zxn s.segs tt)(hl:tt.length≤8)(hr:∀l∈tt,l.length≤4)(hd:∀l∈tt,∀t∈l,z1n t=0):z6e ⟨s.slots,tt⟩∧z0y ⟨s.slots,tt⟩=z0y s:=by
 refine⟨⟨h.le,hl,hr,hd,fun x a=>(zoy he (h.slot x a)).1,h.rise⟩,?_⟩;unfold z0y;refine Kg fun x a=>?_;rw[(zoy he (h.slot x a)).2]
def z73(ss:List YX):Nat:=(ss.getD (ss.length - 1) []).length
def zi4(ss:List YX):Bool:=(decide (0 < ss.length)&&decide (z73 ss < 4))||decide (ss.length≠8)
def z32(ss:List YX):List YX:=if (decide (0 < ss.length)&&decide (z73 ss < 4))=true then ss else ss++[[]]
def zal(ss:List YX)(t:YY):List YX:=ss.set (ss.length - 1) (ss.getD (ss.length - 1) []++[t])
def zm5(x:Slt)(n r:Nat):Slt:={ x with cold:=true,item:=z2q 0,seg:=(n:Int),rcd:=(r:Int) }
def q2k(s:Sto)(i:Nat)(x:Slt):Sto:=⟨s.slots.set i (zm5 x ((z32 s.segs).length - 1) (z73 (z32 s.segs))),zal (z32 s.segs) ⟨(z1t x.item).toArray⟩⟩
def z4j(s:Sto)(k:YY)(cold:Bool):Option (Nat×Slt)×Int:=
 if z4o Slt.key s.slots k=false then (none,5)
 else match s.slots[z1e Slt.key s.slots k]? with
  | none=>(none,5)
  | some x=>if x.cold=cold then (some (z1e Slt.key s.slots k,x),0) else (none,4)
def z5x(s:Sto)(k:YY):Sto×Int:=match z4j s k false with
 | (none,e)=>(noS,e)
 | (some (i,x),_)=>if zi4 s.segs=true then (q2k s i x,0) else (noS,2)
def q4w(ss:List YX)(x:Slt):Slt:={ x with cold:=false,item:=z6u ss x,seg:=0,rcd:=0 }
def z70(s:Sto)(k:YY):Sto×Int:=match z4j s k true with
 | (none,e)=>(noS,e)
 | (some (i,x),_)=>(⟨s.slots.set i (q4w s.segs x),s.segs⟩,0)
theorem z89{s:Sto}{k:YY}{c:Bool}{i:Nat}{x:Slt}{e:Int}(h:z4j s k c=(some (i,x),e)):s.slots[i]? = some x∧x.cold=c∧e=0∧x.key=k∧i=z1e Slt.key s.slots k∧z4o Slt.key s.slots k=true:=by
 unfold z4j at h;split at h
 ·simp at h
 ·rename_i a;split at h
  ·simp at h
  ·rename_i y hy;split at h
   ·rename_i hc;simp at h;obtain⟨⟨rfl,rfl⟩,rfl⟩:=h;have a:z4o Slt.key s.slots k=true:=by simpa using a
    refine⟨hy,hc,rfl,?_,rfl,a⟩;obtain⟨q,d,b⟩:=(z2s Slt.key).1 a;rw[d] at hy;cases hy;exact b
   ·simp at h
theorem z88{s:Sto}{k:YY}{c:Bool}{e:Int}(h:z4j s k c=(none,e)):e≠0:=by
 unfold z4j at h;split at h
 ·cases h;decide
 ·split at h
  ·cases h;decide
  ·split at h
   ·cases h
   ·cases h;decide
theorem zl7{ss:List YX}(h:zi4 ss=true)(hl:ss.length≤8):0 < (z32 ss).length∧(z32 ss).length≤8∧z73 (z32 ss) < 4:=by
 unfold z32;unfold zi4 at h;by_cases a:(decide (0 < ss.length)&&decide (z73 ss < 4))=true
 ·rw[Xf a];simp only[Yf,decide_eq_true_eq] at a;exact⟨a.1,hl,a.2⟩
 ·rw[Xc a];have a:(decide (0 < ss.length)&&decide (z73 ss < 4))=false:=by simpa using a
  rw[a,Kb,decide_eq_true_eq] at h;refine⟨by simp,by simp;omega,?_⟩;unfold z73;simp
theorem zwm(ss:List YX):zxn ss (z32 ss):=fun i l h=>by
 unfold z32;split
 ·exact⟨[],by rw[Ub];exact h⟩
 ·have hi:=(Xe.1 h).1;exact⟨[],by rw[Xu hi,Ub];exact h⟩
theorem zfa{ss:List YX}{l:YX}(h:l∈z32 ss):l∈ss∨l=[]:=by
 unfold z32 at h;split at h
 ·exact .inl h
 ·rcases Ys.1 h with h|h
  ·exact .inl h
  ·exact .inr (by simpa using h)
theorem zxs(ss:List YX)(t):zxn ss (zal ss t):=fun i l h=>by
 have hi:=(Xe.1 h).1;unfold zal;rw[Yy];by_cases hc:ss.length - 1=i
 ·rw[Xf hc,Xf (by omega)];refine⟨[t],?_⟩;rw[hc,Xs,h];rfl
 ·rw[Xc hc];exact⟨[],by rw[Ub];exact h⟩
theorem zxn.trans{a b c:List YX}(h:zxn a b)(k:zxn b c):zxn a c:=fun i l hl=>by
 obtain⟨m,hm⟩:=h i l hl;obtain⟨m',hm'⟩:=k i _ hm;exact⟨m++m',by rw[hm',Yi]⟩
theorem zo9{ss:List YX}{t:YY}{l:YX}(h:l∈zal ss t):l∈ss∨l=ss.getD (ss.length - 1) []++[t]:=Us h
theorem zv4{ss:List YX}(h:0 < ss.length):ss.getD (ss.length - 1) []∈ss:=by
 rw[Xs,Xa (by omega)];exact Vj _
theorem zkn:z0v (z2q 0)=true:=by decide
theorem ztg{s t:Sto}{k:YY}(h:z6e s)(hc:z5x s k=(t,0)):z6e t∧z0y t=z0y s:=by
 unfold z5x at hc;split at hc
 ·rename_i e he;have E:=z88 he;cases hc;exact absurd rfl E
 ·rename_i i x e he;obtain⟨m,r,rfl,h4,rfl,_⟩:=z89 he;split at hc
  ·rename_i hr;cases hc;obtain⟨A,F,z⟩:=zl7 hr h.sle;have p:=h.slot x (Xj m);obtain⟨u,_⟩:=p.hot r;have n:=q5z u;have B:zap x.item=⟨(z1t x.item).toArray⟩:=by unfold zap;rw[Xf u]
   rw[B] at n;have C:=(zwm s.segs).trans (zxs (z32 s.segs) ⟨(z1t x.item).toArray⟩);have d:=zv4 A
   obtain⟨w,G⟩:=q61 h C (by unfold zal;rw[Ug];exact F)
    (fun l a=>by
      rcases zo9 a with a|rfl
      ·rcases zfa a with a|rfl
       ·exact h.rle l a
       ·exact Xt _
      ·rw[Xk];unfold z73 at z;show _+1≤4;omega)
    (fun l a t b=>by
      rcases zo9 a with a|rfl
      ·rcases zfa a with a|rfl
       ·exact h.recs l a t b
       ·cases b
      ·rcases Ys.1 b with b|b
       ·rcases zfa d with a|a
        ·exact h.recs _ a t b
        ·rw[a] at b;cases b
       ·rw[Uw.1 b];exact n.1)
   have g:(zal (z32 s.segs) ⟨(z1t x.item).toArray⟩)[(z32 s.segs).length - 1]? = some ((z32 s.segs).getD ((z32 s.segs).length - 1) []++[⟨(z1t x.item).toArray⟩]):=by
    unfold zal;rw[Yy,Xf rfl,Xf (by omega)]
   have f:=z8b g (j:=z73 (z32 s.segs)) (t:=⟨(z1t x.item).toArray⟩) (by
    unfold z73;rw[Xq (Xb _),Ux];rfl)
   have D:zh2 (zal (z32 s.segs) ⟨(z1t x.item).toArray⟩) (zm5 x ((z32 s.segs).length - 1) (z73 (z32 s.segs))):=
    ⟨p.key,(fun h=>by cases h),fun _=>⟨zkn,f.1⟩,p.til⟩
   refine⟨q1v w (i:=z1e Slt.key s.slots k) (x:=x) m rfl D,?_⟩;refine(zpt (s:=⟨s.slots,zal (z32 s.segs) ⟨(z1t x.item).toArray⟩⟩) (i:=z1e Slt.key s.slots k) (x:=x) (y:=zm5 x ((z32 s.segs).length - 1) (z73 (z32 s.segs))) m rfl rfl ?_).trans G;show z6u (zal (z32 s.segs) ⟨(z1t x.item).toArray⟩) (zm5 x ((z32 s.segs).length - 1) (z73 (z32 s.segs)))=z6u (zal (z32 s.segs) ⟨(z1t x.item).toArray⟩) x;unfold z6u;rw[Xf (show(zm5 x ((z32 s.segs).length - 1) (z73 (z32 s.segs))).cold=true from rfl),Xc (by rw[r];decide)];show z0m (zf6 _ (((z32 s.segs).length - 1:Nat):Int) (z73 (z32 s.segs):Int))=_;rw[f.2];exact n.2
  ·rename_i hr;cases hc
theorem zxa{s t:Sto}{k:YY}(h:z6e s)(hc:z70 s k=(t,0)):z6e t∧z0y t=z0y s:=by
 unfold z70 at hc;split at hc
 ·rename_i e he;have f:=z88 he;cases hc;exact absurd rfl f
 ·rename_i i x e he;obtain⟨a,g,rfl,h4,rfl,_⟩:=z89 he;cases hc;have b:=Xj a;have d:=h.slot x b;exact⟨q1v h a rfl ⟨d.key,fun _=>⟨zef h b,rfl,rfl⟩,(fun h=>by cases h),d.til⟩,zpt a rfl rfl rfl⟩
def z8d(l:List Slt)(n i:Int):Bool:=l.any fun x=>x.cold&&(decide (x.seg=n)&&decide (x.rcd=i))
def mvR(n i:Int)(x:Slt):Slt:=if x.cold=true∧x.seg=n∧i < x.rcd then { x with rcd:=x.rcd - 1 } else x
def mvS(n:Int)(x:Slt):Slt:=if x.cold=true∧n < x.seg then { x with seg:=x.seg - 1 } else x
def zmm(n i:Nat)(s:Sto):Sto:=if z8d s.slots n i=true then s else ⟨s.slots.map (mvR n i),s.segs.set n ((s.segs.getD n []).eraseIdx i)⟩
def zuf(n:Nat):Nat→Sto→Sto
 | 0,s=>s
 | i+1,s=>zuf n i (zmm n i s)
def zxe(n:Nat)(s:Sto):Sto:=if (s.segs.getD n []).length=0∧n+1 < s.segs.length then ⟨s.slots.map (mvS n),s.segs.eraseIdx n⟩ else s
def zyz(n:Nat)(s:Sto):Sto:=zuf n (s.segs.getD n []).length s
def z4f(s:Sto)(n:Int):Sto×Int×Int:=
 if 0≤n∧n < s.segs.length then (zxe n.toNat (zyz n.toNat s),((s.segs.getD n.toNat []).length:Int) - ((zyz n.toNat s).segs.getD n.toNat []).length,0) else (noS,0,5)
theorem q3w(n i:Int)(x):(mvR n i x).key=x.key∧(mvR n i x).cold=x.cold∧(mvR n i x).item=x.item∧(mvR n i x).til=x.til∧(mvR n i x).seg=x.seg:=by unfold mvR;split <;> exact⟨rfl,rfl,rfl,rfl,rfl⟩
theorem q3y(n:Int)(x):(mvS n x).key=x.key∧(mvS n x).cold=x.cold∧(mvS n x).item=x.item∧(mvS n x).til=x.til∧(mvS n x).rcd=x.rcd:=by unfold mvS;split <;> exact⟨rfl,rfl,rfl,rfl,rfl⟩
theorem z6t{α:Type}{l:List α}{i:Nat}{x d:α}(h:l[i]? = some x):l.getD i d=x:=by rw[Xs,h];rfl
theorem q1n{s:Sto}(h:z6e s){tt:List YX}(f:Slt→Slt)(hk:∀x,(f x).key=x.key∧(f x).cold=x.cold∧(f x).item=x.item∧(f x).til=x.til)
  (hh:∀x∈s.slots,x.cold=false→(f x).seg=x.seg∧(f x).rcd=x.rcd) (hc:∀x∈s.slots,x.cold=true→z2w tt (f x).seg (f x).rcd=true∧zf6 tt (f x).seg (f x).rcd=zf6 s.segs x.seg x.rcd)
  (hl:tt.length≤8) (hr:∀l∈tt,l.length≤4) (hd:∀l∈tt,∀t∈l,z1n t=0):z6e ⟨s.slots.map f,tt⟩∧z0y ⟨s.slots.map f,tt⟩=z0y s:=by
 refine⟨⟨by show(s.slots.map f).length≤16;rw[Xx];exact h.le,hl,hr,hd,?_,zf9 f (fun x=>(hk x).1) h.rise⟩,?_⟩
 ·intro y k;obtain⟨x,b,rfl⟩:=Yt.1 k;have o:=h.slot x b;obtain⟨g,d,e,j⟩:=hk x;refine⟨by rw[g];exact o.key,fun a=>?_,fun a=>?_,by rw[j];exact o.til⟩
  ·rw[d] at a;rw[e,(hh x b a).1,(hh x b a).2];exact o.hot a
  ·rw[d] at a;rw[e];exact⟨(o.cold a).1,(hc x b a).1⟩
 ·unfold z0y;show((s.slots.map f).map fun x=>Ent.mk x.key (z6u tt x) x.til)=_;rw[Ki];refine Kg fun x b=>?_;obtain⟨g,d,e,j⟩:=hk x;show Ent.mk (f x).key (z6u tt (f x)) (f x).til=Ent.mk x.key (z6u s.segs x) x.til;rw[g,j];congr 1;unfold z6u;rw[d,e];by_cases a:x.cold=true
  ·rw[Xf a,Xf a,(hc x b a).2]
  ·rw[Xc a,Xc a]
theorem zzw{l:List Slt}{n i:Int}(h:¬z8d l n i=true){x:Slt}(hx:x∈l)(hc:x.cold=true)(hs:x.seg=n):x.rcd≠i:=fun hr=>h (by
 unfold z8d;rw[Vs];exact⟨x,hx,by rw[hc,Xi hs,Xi hr];rfl⟩)
theorem zox{α:Type}{l:List α}{i j:Nat}(h:j < i):(l.eraseIdx i)[j]? = l[j]? := by rw[Ve,Xf h]
theorem zow{α:Type}{l:List α}{i j:Nat}(h:i≤j):(l.eraseIdx i)[j]? = l[j+1]? := by rw[Ve,Xc (by omega)]
theorem zue{s:Sto}(h:z6e s){n i:Nat}{l:YX}(hn:s.segs[n]? = some l):z6e (zmm n i s)∧z0y (zmm n i s)=z0y s:=by
 unfold zmm;by_cases d:z8d s.slots n i=true
 ·rw[Xf d];exact⟨h,rfl⟩
 ·rw[Xc d,z6t hn];have p:=(Xe.1 hn).1;have g:=Xj hn;refine q1n h _ (fun x=>by have:=q3w n i x;exact⟨this.1,this.2.1,this.2.2.1,this.2.2.2.1⟩) (fun x w B=>by unfold mvR;rw[Xc (by rw[B];simp)];exact⟨rfl,rfl⟩) (fun x w k=>?_) (by rw[Ug];exact h.sle) (fun m d=>?_) (fun m d t z=>?_)
  ·obtain⟨a,b,m,t,y,A,h3,h4,r⟩:=z9l ((h.slot x w).cold k).2;by_cases hs:x.seg=n
   ·have u:a=n:=by omega
    subst u;rw[hn] at h3;cases h3;have hr:=zzw d w k hs;have e:(s.segs.set a (l.eraseIdx i))[a]? = some (l.eraseIdx i):=by rw[Yy,Xf rfl,Xf p]
    by_cases hlt:(i:Int) < x.rcd
    ·have f:(mvR a i x).seg=a:=by unfold mvR;rw[Xf ⟨k,hs,hlt⟩];exact hs
     have C:(mvR a i x).rcd=((b - 1:Nat):Int):=by unfold mvR;rw[Xf ⟨k,hs,hlt⟩];show x.rcd - 1=_;omega
     have:=z8b e (j:=b - 1) (t:=t) (by rw[zow (by omega),show b - 1+1=b by omega];exact h4);rw[f,C,r];exact this
    ·have f:mvR a i x=x:=by unfold mvR;rw[Xc (by intro h;exact hlt h.2.2)]
     have:=z8b e (j:=b) (t:=t) (by rw[zox (by omega)];exact h4);rw[f,r,y,A];exact this
   ·have f:mvR n i x=x:=by unfold mvR;rw[Xc (by intro h;exact hs h.2.1)]
    have:=z8b (ss:=s.segs.set n (l.eraseIdx i)) (i:=a) (by rw[Yy,Xc (by omega)];exact h3) h4;rw[f,r,y,A];exact this
  ·rcases Us d with d|rfl
   ·exact h.rle m d
   ·exact Xd (Jt l i) (h.rle l g)
  ·rcases Us d with d|rfl
   ·exact h.recs m d t z
   ·exact h.recs l g t (Jo z)
theorem zud{s:Sto}{n i:Nat}{l:YX}(hn:s.segs[n]? = some l):∃m,(zmm n i s).segs[n]? = some m∧(zmm n i s).segs.length=s.segs.length∧((z8d s.slots n i=true∧m=l∧zmm n i s=s)∨(¬z8d s.slots n i=true∧m=l.eraseIdx i)):=by
 unfold zmm;by_cases hm:z8d s.slots n i=true
 ·rw[Xf hm];exact⟨l,hn,rfl,.inl ⟨hm,rfl,rfl⟩⟩
 ·rw[Xc hm,z6t hn];exact⟨l.eraseIdx i,by rw[Yy,Xf rfl,Xf (Xe.1 hn).1],by rw[Ug],.inr ⟨hm,rfl⟩⟩
def AllM(n i:Nat)(s:Sto)(l:YX):Prop:=∀j,i≤j→j < l.length→z8d s.slots n j=true
theorem zug:∀(n i:Nat) (s) (l),z6e s→s.segs[n]? = some l→i≤l.length→AllM n i s l →
  ∃m,z6e (zuf n i s)∧z0y (zuf n i s)=z0y s∧(zuf n i s).segs[n]? = some m∧(zuf n i s).segs.length=s.segs.length∧m.length≤l.length∧AllM n 0 (zuf n i s) m
 | n,0,s,l,h,hn,hi,ha=>⟨l,h,rfl,hn,rfl,Xb _,ha⟩
 | n,i+1,s,l,h,hn,hi,ha=>by
  obtain⟨k1,k2⟩:=zue h (i:=i) hn;obtain⟨m,m1,m2,m3⟩:=zud (i:=i) hn
  have hle:m.length≤l.length:=by
   rcases m3 with⟨_,rfl,_⟩|⟨_,rfl⟩
   ·exact Xb _
   ·exact Jt l i
  have b:i≤m.length:=by
   rcases m3 with⟨_,rfl,_⟩|⟨_,rfl⟩
   ·omega
   ·rw[List.length_eraseIdx_of_lt (by omega)];omega
  have a:AllM n i (zmm n i s) m:=by
   intro j e k;rcases m3 with⟨d,rfl,A⟩|⟨d,rfl⟩
   ·rw[A];rcases Nat.eq_or_lt_of_le e with rfl|e
    ·exact d
    ·exact ha j e k
   ·rw[List.length_eraseIdx_of_lt (by omega)] at k;have:=ha (j+1) (by omega) (by omega);unfold z8d at this;rw[Vs] at this;obtain⟨x,C,f⟩:=this;simp only[Yf,decide_eq_true_eq] at f;obtain⟨g,p,D⟩:=f;unfold zmm;rw[Xc d];unfold z8d;rw[Vs];refine⟨mvR n i x,Kh C,?_⟩;unfold mvR;rw[Xf ⟨g,p,by omega⟩];simp only[Yf,decide_eq_true_eq];exact⟨g,p,by omega⟩
  obtain⟨r,z,t,y,u,B,w⟩:=zug n i (zmm n i s) m k1 m1 b a;exact⟨r,z,t.trans k2,y,u.trans m2,Xd B hle,w⟩
theorem q38{s:Sto}(h:z6e s)(n:Nat):z6e (zxe n s)∧z0y (zxe n s)=z0y s:=by
 unfold zxe;by_cases hc:(s.segs.getD n []).length=0∧n+1 < s.segs.length
 ·rw[Xf hc];obtain⟨l,u⟩:∃l,s.segs[n]? = some l:=⟨_,Xa (by omega)⟩;rw[z6t u] at hc;have g:l=[]:=Vp.1 hc.1;refine q1n h _ (fun x=>by have:=q3y n x;exact⟨this.1,this.2.1,this.2.2.1,this.2.2.2.1⟩) (fun x r w=>by unfold mvS;rw[Xc (by rw[w];simp)];exact⟨rfl,rfl⟩) (fun x r d=>?_) (Xd (Jt _ _) h.sle) (fun m e=>h.rle m (Jo e)) (fun m e=>h.recs m (Jo e));obtain⟨a,b,m,t,z,p,h3,h4,k⟩:=z9l ((h.slot x r).cold d).2
  have y:a≠n:=fun A=>by
   subst A;rw[u] at h3;cases h3;rw[g] at h4;simp at h4
  by_cases hlt:(n:Int) < x.seg
  ·have f:(mvS n x).seg=((a - 1:Nat):Int):=by unfold mvS;rw[Xf ⟨d,hlt⟩];show x.seg - 1=_;omega
   have B:(mvS n x).rcd=b:=by unfold mvS;rw[Xf ⟨d,hlt⟩];exact p
   have:=z8b (ss:=s.segs.eraseIdx n) (i:=a - 1) (l:=m) (j:=b) (t:=t) (by rw[zow (by omega),show a - 1+1=a by omega];exact h3) h4;rw[f,B,k];exact this
  ·have f:mvS n x=x:=by unfold mvS;rw[Xc (by intro h;exact hlt h.2)]
   have:=z8b (ss:=s.segs.eraseIdx n) (i:=a) (l:=m) (j:=b) (t:=t) (by rw[zox (by omega)];exact h3) h4;rw[f,k,z,p];exact this
 ·rw[Xc hc];exact⟨h,rfl⟩
theorem q39{s:Sto}(h:z6e s){n:Nat}{l:YX}(hn:s.segs[n]? = some l):
  ∃m,z6e (zyz n s)∧z0y (zyz n s)=z0y s∧(zyz n s).segs[n]? = some m∧(zyz n s).segs.length=s.segs.length∧m.length≤l.length∧AllM n 0 (zyz n s) m:=by
 unfold zyz;rw[z6t hn];exact zug n l.length s l h hn (Xb _) (fun j a b=>by omega)
theorem zuh{s t:Sto}{n c:Int}(h:z6e s)(hc:z4f s n=(t,c,0)):z6e t∧z0y t=z0y s:=by
 unfold z4f at hc;split at hc
 ·rename_i hn;obtain⟨i,rfl⟩:=Jr hn.1;rw[Ur] at hc;obtain⟨l,e⟩:∃l,s.segs[i]? = some l:=⟨_,Xa (by omega)⟩;obtain⟨m,f,d,j,k,p,g⟩:=q39 h e;simp only[Prod.mk.injEq] at hc;obtain⟨rfl,_,_⟩:=hc;obtain⟨a,b⟩:=q38 f i;exact⟨a,b.trans d⟩
 ·simp at hc
theorem addS(a b:YY)(hs:a.size+b.size≤9223372036854775807)(W):(Op.stringOp .add a b).run prog W=.ok (.string (a++b)) W:=
 run_string_add_sum W a b hs
def z50(s:YY):Itm:=⟨1,s,[],[],[]⟩
theorem z0k.text(w)(base:Nat)(s):z0k w base (.agg #[.int .i64 1,.string s,.slice none 0 0,.slice none 0 0,.slice none 0 0]) (z50 s):=
 ⟨_,_,_,rfl,World.ownsRow_nil _ _ _ _,⟨rfl,.inl ⟨rfl,rfl⟩⟩,⟨rfl,.inl ⟨rfl,rfl⟩⟩⟩
theorem zab{s:YY}(h:s.size≤281474976710656):(z50 s).Small:=
 ⟨⟨by show -9223372036854775808≤(1:Int);omega,by show(1:Int)≤9223372036854775807;omega⟩,h,by show(0:Nat)≤_;omega,by show(0:Nat)≤_;omega,by show(0:Nat)≤_;omega,fun s hs=>absurd hs (by simp[z50]),fun s hs=>absurd hs (by simp[z50]),fun s hs=>absurd hs (by simp[z50])⟩
def z4d(x:Itm)(s:YY):Int:=if z02 1 x≠0 then z02 1 x else if 60 < x.text.size+s.size then 2 else 0
def apY(x:Itm)(s:YY):Itm:=if z4d x s=0 then z50 (x.text++s) else z2q 0
def apN(x:Itm)(s:YY):Int:=if z4d x s=0 then ((x.text.size+s.size:Nat):Int) else 0
def lnN(x:Itm):Int:=if z02 1 x=0 then (x.text.size:Int) else 0
def rgS(x:Itm)(f t:Int):YY:=if z02 1 x=0 then x.text.extract (z6x x.text.size f t) (z6y x.text.size f t) else ⟨#[]⟩
def q57(n code:Int)(w:World)(e:Ending)(w':World):Prop:=e=.returned (.tuple #[.int .i64 n,.int .i64 code])∧Fr [] w w'
theorem zhi(s:YY)(f t:Int):(s.extract (z6x s.size f t) (z6y s.size f t)).data.toList=z28 s.data.toList f t:=by
 have:=z6z s.size f t;have e:s.data.toList.length=s.size:=by simp
 unfold z28;rw[e];simp only[ByteArray.data_extract,Kc,Jk];rw[List.take_drop];congr 2;omega
theorem zgx(x:Itm)(v)(w:World)(B:Nat)(hs:x.Small)(hB:B≤w.heap.size)(h:z0p w B v x):
  Calls prog 250 #[v] w fun e w'=>e=.returned (.int .i64 (z02 1 x))∧Fr [] w w':=by
 have M:=hid (fun W (hf:Fr [] w W)=>zj0 x 1 v W B hs (Xd hB hf.size) (h.fr hf hB (by simp)));obtain⟨b,c1,g,c2,d,j,rfl,m,l,h3⟩:=h;have a:Fr [] w (w.alloc (.cells (yIa x b c1 g c2 d j) 68)):=(Fr.refl [] w).alloc _;go_enter func250,ntmps250;go_wp2_with fail;refine(M.o _ a).mono ?_;rintro e k ⟨rfl,f⟩;go_wp2;go_ret;exact⟨rfl,a.trans f⟩
theorem zio(s:YY)(w:World):
  Calls prog 194 #[.string s] w fun e w'=>e=.returned (.agg #[.int .i64 1,.string s,.slice none 0 0,.slice none 0 0,.slice none 0 0])∧Fr [] w w':=by
 have l:Fr [] w (w.alloc (.cells yIza 68)):=(Fr.refl [] w).alloc _;have a:=hid (show Whole (w.alloc (.cells yIza 68)) w.heap.size 68 yIzl from Whole.new w _ _);obtain⟨d,f,g,h,b⟩:=five a.o;obtain⟨k,n,p,m,j⟩:=z11 a.o;go_enter func194,ntmps194;go_wp2;refine Xg (v:=.agg #[.int .i64 1,.string s,.slice none 0 0,.slice none 0 0,.slice none 0 0]) (by simp[results,results194,go_sem,d,f,g,h,b]) rfl ?_;exact⟨rfl,(Fr.refl [] w).alloc _⟩
theorem q75:(∀(x:Itm) (v) (w:World) (B:Nat) (hs:x.Small) (hB:B≤w.heap.size) (h:z0p w B v x),Calls prog 198 #[v] w (q57 (lnN x) (z02 1 x) w))∧(∀(x:Itm) (v) (f t:Int) (w:World) (B:Nat) (hs:x.Small) (hB:B≤w.heap.size) (h:z0p w B v x) (hf:-9223372036854775808≤f∧f≤9223372036854775807) (ht:-9223372036854775808≤t∧t≤9223372036854775807),Calls prog 190 #[v,.int .i64 f,.int .i64 t] w (q1b (rgS x f t) (z02 1 x) w)):=by
 refine⟨?_,?_⟩;have d:=hid trivial
 rotate_left
 have L:=hid trivial
 all_goals
  first
  | (guard_hyp d
     intro x v w B hs hB h)
  | (intro x v f t w B hs hB h hf ht)
  have y:=hid (fun W (hf:Fr [] w W)=>zgx x v W B hs (Xd hB hf.size) (h.fr hf hB (by simp)));obtain⟨D,c1,I,c2,H,G,rfl,E,C,h3⟩:=h;have k:=hid (BX.new w (.int .i64 x.kind) (.string x.text) (.slice D x.list.length c1) (.slice I x.pairs.length c2) (.slice H x.scores.length G));obtain⟨p,n,l,m,s⟩:=five k.o.b;have F:=hs.text;clear E C h3 hs
  first
  | (guard_hyp d
     have g:=hid (show lnN x=if z02 1 x=0 then (x.text.size:Int) else 0 from rfl))
  | (have g:=hid (show rgS x f t=if z02 1 x=0 then x.text.extract (z6x x.text.size f t) (z6y x.text.size f t) else ⟨#[]⟩ from rfl)
     have z:=hid (fun W=>zim x.text.size f t W F hf ht);obtain⟨J,K⟩:=z6z x.text.size f t;clear hf ht)
  by_cases ha:z02 1 x=0
  ·
   rw[Xf ha] at g;rw[ha] at y;rw[g.o,ha];clear g ha
   first
   | (guard_hyp d
      go_enter func198,ntmps198)
   | (generalize z6x x.text.size f t=a at *
      generalize z6y x.text.size f t=b at *;go_enter func190,ntmps190)
   go_wp2_with fail;refine(y.o _ k.o.f).mono ?_;rintro e A ⟨rfl,u⟩;have j:=hid (k.o.go u);clear p n l m s;obtain⟨p,n,l,m,s⟩:=five j.o.b
   first
   | (guard_hyp d
      skip)
   | (go_wp2_with fail
      refine(z.o _).mono ?_;rintro e M ⟨rfl,rfl⟩)
   go_wp2;go_ret2;exact⟨rfl,j.o.f⟩
  ·
   rw[Xc ha] at g;rw[g.o];have q:(z02 1 x != 0)=true:=by simpa using ha
   first
   | (guard_hyp d
      clear g ha)
   | (clear g ha z J K)
   generalize z02 1 x=r at *
   first
   | (guard_hyp d
      go_enter func198,ntmps198)
   | (go_enter func190,ntmps190)
   go_wp2_with fail;refine(y.o _ k.o.f).mono ?_;rintro e A ⟨rfl,u⟩;have j:=hid (k.o.go u);clear p n l m s;obtain⟨p,n,l,m,s⟩:=five j.o.b;go_wp2;go_ret2;exact⟨rfl,j.o.f⟩
abbrev q12:=@And.left _ _ q75
abbrev zgw:=@And.right _ _ q75
def zd1(k:Int)(l:YX):Itm:=⟨k,⟨#[]⟩,l,[],[]⟩
def ofK(k:Int)(l:YX):Itm:=if l.length=0 then z2q 0 else zd1 k l
theorem zkc{k:Int}{l:YX}(hk:0≤k∧k≤5)(hl:l.length≤281474976710656)(ht:∀s∈l,s.size≤281474976710656):(zd1 k l).Small:=
 ⟨by show -9223372036854775808≤k∧k≤9223372036854775807;omega,by show(⟨#[]⟩:YY).size≤_;decide,by show l.length≤_;omega,by show 0≤_;omega,by show 0≤_;omega,ht,(fun p hp=>by cases hp),(fun p hp=>by cases hp)⟩
theorem zec{k:Int}{l:YX}(hk:0≤k∧k≤5)(hl:l.length≤1000000)(ht:∀s∈l,s.size≤281474976710656):(zd1 k l).Small:=zkc hk (by omega) ht
theorem q03(k:Int)(l):(ofK k l).list=l:=by
 unfold ofK;by_cases h:l.length=0
 ·rw[Xf h];exact(Xo h).symm
 ·rw[Xc h];rfl
theorem zjv(l:List (YY×YY))(f:YY)(A)(c B:Nat)(w:World)(hr:rises (ltK Prod.fst) l=true)(hl:l.length≤281474976710656)(hB:B≤w.heap.size)(h:Sl w B 2 (.slice A l.length c) l.length (z0e l)):
  Calls prog 276 #[.slice A l.length c,.string f] w (z3e (z1e Prod.fst l f) (z4o Prod.fst l f) w):=by
 have d:=hid (zxz l f ⟨#[]⟩ A c B w hr hl hB h);clear h hr;generalize z1e Prod.fst l f=i at *;generalize z4o Prod.fst l f=b at *;go_enter func276,ntmps276;go_wp2_with fail;refine d.o.mono ?_;rintro e g ⟨rfl,a⟩;go_wp2;go_ret2;exact⟨rfl,a⟩
end
theorem zt2:∀a b:List UInt8,Lib.compareBytes a b < 0↔a < b
 | [],[]=>by simp[Lib.compareBytes]
 | _ :: _,[]=>by simp[Lib.compareBytes]
 | [],_ :: _=>by simp[Lib.compareBytes]
 | x :: a,y :: b=>by
  have ih:=zt2 a b;simp only[Lib.compareBytes,List.cons_lt_cons_iff];by_cases h1:x < y
  ·simp[h1]
  ·by_cases h2:y < x
   ·have h3:x≠y:=fun e=>by subst e;exact h1 h2
    simp[h1,h2,h3]
   ·have h3:x=y:=UInt8.le_antisymm (UInt8.not_lt.1 h2) (UInt8.not_lt.1 h1);subst h3;simp[UInt8.lt_irrefl,ih]
theorem zb2(a b):z4i a b < 0↔a.data.toList < b.data.toList:=zt2 _ _
theorem q1d(a b:YY):Op.bytesLess a.toList b.toList=ltS a b:=by
 rw[bytesLess_eq,Lib.toList_data,Lib.toList_data];unfold ltS;exact decide_eq_decide.2 (zb2 a b).symm
def unB(l:List UInt8):YY:=⟨l.toArray⟩
theorem zpz(s:YY):unB s.data.toList=s:=rfl
def datas(l:YX):List (List UInt8):=l.map (·.data.toList)
theorem z24(l):(datas l).length=l.length:=by unfold datas;simp
theorem z8z(l):(datas l).map encStr=z03 l:=by
 unfold datas z03 encStr;rw[Ki];rfl
theorem zon(l:List (List UInt8)):datas (l.map unB)=l:=by
 unfold datas;rw[Ki];have:((fun s:YY=>s.data.toList) ∘ unB)=id:=rfl;rw[this,List.map_id]
def z8n(l:YX):YX:=((datas l).mergeSort fun x y=>decide (x≤y)).map unB
theorem z48(l):(z8n l).length=l.length:=by unfold z8n;simp[z24]
theorem z7e(l):(z8n l).Perm l:=by
 have h:=((List.mergeSort_perm (datas l) fun x y=>decide (x≤y)).map unB)
 have e:(datas l).map unB=l:=by
  unfold datas;rw[Ki];have:(unB ∘ fun s:YY=>s.data.toList)=id:=rfl;rw[this,List.map_id]
 rw[e] at h;exact h
theorem zpw(l):(z8n l).Pairwise fun a b=>¬z4i b a < 0:=by
 unfold z8n;rw[Vf];have:=List.pairwise_mergeSort (le:=fun x y:List UInt8=>decide (x≤y)) (fun a b c d e=>by simpa using List.le_trans (by simpa using d) (by simpa using e)) (fun a b=>by simpa using List.le_total a b) (datas l);refine this.imp fun {a b} h=>?_;rw[zb2];have h:a≤b:=by simpa using h
 exact List.not_lt.2 h
def zfs(l:YX):YX:=(Lib.compact (datas l)).map unB
theorem zok{zs:List (List UInt8)}{x:List UInt8}:x∈Lib.compact zs↔x∈zs:=by
 unfold Lib.compact Lib.compactUpTo;constructor
 ·intro h;obtain⟨i,hi,rfl⟩:=Yt.1 h;have b:i < zs.length:=Kk.1 (Yj.1 hi).1;simp[getElem!_pos,b]
 ·intro h
  have:∀(n i:Nat),i≤n→i < zs.length→zs.toArray[i]! ∈ ((List.range zs.length).filter (Lib.keeps zs.toArray)).map (zs.toArray[·]!):=by
   intro n
   induction n with
   | zero=>
    intro i hi d;have:i=0:=by omega
    subst this;exact Yt.2 ⟨0,Yj.2 ⟨Kk.2 d,by simp[Lib.keeps]⟩,rfl⟩
   | succ n ih=>
    intro i hi d;by_cases hk:Lib.keeps zs.toArray i=true
    ·exact Yt.2 ⟨i,Yj.2 ⟨Kk.2 d,hk⟩,rfl⟩
    ·have a:¬(i=0∨zs.toArray[i]! ≠ zs.toArray[i - 1]!):=by simpa[Lib.keeps] using hk
     have g:i≠0:=fun e=>a (.inl e);have f:zs.toArray[i]! = zs.toArray[i - 1]! := Classical.byContradiction fun e=>a (.inr e);rw[f];exact ih (i - 1) (by omega) (by omega)
  obtain⟨i,hi,rfl⟩:=Vy h;have:=this i i (Xb _) hi;simpa[getElem!_pos,hi] using this
theorem q2j{zs:List (List UInt8)}(h:zs.Pairwise (·≤·)):(Lib.compact zs).Pairwise (· < ·):=by
 unfold Lib.compact Lib.compactUpTo;rw[Vf];have k:((List.range zs.length).filter (Lib.keeps zs.toArray)).Pairwise (· < ·):=List.Pairwise.filter _ (List.pairwise_lt_range);rw[List.pairwise_iff_forall_sublist] at k ⊢;intro a b hs;have s:=k hs
 have l:∀c∈[a,b],c < zs.length∧Lib.keeps zs.toArray c=true:=fun c t=>by
  have:=Yj.1 (hs.subset t);exact⟨Kk.1 this.1,this.2⟩
 obtain⟨n,_⟩:=l a (by simp);obtain⟨j,g⟩:=l b (by simp);have f:b=0∨zs.toArray[b]! ≠ zs.toArray[b - 1]! := by simpa[Lib.keeps] using g
 have d:zs.toArray[b]! ≠ zs.toArray[b - 1]! := by
  rcases f with h0|h0
  ·omega
  ·exact h0
 have e:∀i (hi:i < zs.length),zs.toArray[i]! = zs[i]:=fun i hi=>by simp[getElem!_pos,hi]
 rw[e b j,e (b - 1) (by omega)] at d;rw[e a n,e b j];have m:=Vt.1 h
 have r:zs[a]≤zs[b - 1]'(by omega):=by
  rcases Yc a (b - 1) with hl|hl
  ·exact m a (b - 1) n (by omega) hl
  ·have:a=b - 1:=by omega
   subst this;exact List.le_refl _
 have p:zs[b - 1]'(by omega)≤zs[b]:=m (b - 1) b (by omega) j (by omega);have h3:zs[b - 1]'(by omega) < zs[b]:=Classical.byContradiction fun u=>d (List.le_antisymm (List.not_lt.1 u) p);exact List.lt_of_le_of_lt r h3
def z9u(l:YX):YX:=zfs (z8n l)
theorem z9h{l:YX}{s:YY}:s∈z9u l↔s∈l:=by
 unfold z9u zfs;rw[Yt];constructor
 ·rintro⟨x,b,rfl⟩;have:=zok.1 b;unfold datas at this;obtain⟨t,a,rfl⟩:=Yt.1 this;exact(z7e l).mem_iff.1 a
 ·intro h;exact⟨s.data.toList,zok.2 (Yt.2 ⟨s,(z7e l).mem_iff.2 h,rfl⟩),rfl⟩
theorem zgl(a b c)(h1:ltS a b=true)(h2:ltS b c=true):ltS a c=true:=
 Xi (z4u (Yl h1) (Yl h2))
theorem z9i(l):rises ltS (z9u l)=true:=by
 refine z34 ?_;unfold z9u zfs;rw[Vf]
 have h:(datas (z8n l)).Pairwise (·≤·):=by
  unfold datas;rw[Vf];refine(zpw l).imp fun {a b} h=>?_;rw[zb2] at h;exact List.not_lt.1 h
 refine(q2j h).imp fun {a b} h=>Xi ?_;rw[zb2];exact h
theorem zf8:∀ {a b:YX},rises ltS a=true→rises ltS b=true→(∀s,s∈a↔s∈b)→a=b:=by
 intro a b m n h;have f:∀s:YY,ltS s s=false:=fun s=>Xl (by rw[z64];omega)
 have l:∀s t:YY,ltS s t=true→ltS t s=true→False:=fun s t j p=>by
  have:=zgl s t s j p;rw[f] at this;cases this
 have r:=z2u zgl m;have u:=z2u zgl n;clear m n
 induction a generalizing b with
 | nil=>
  cases b with
  | nil=>rfl
  | cons y b=>exact absurd ((h y).2 (by simp)) (by simp)
 | cons x a ih=>
  cases b with
  | nil=>exact absurd ((h x).1 (by simp)) (by simp)
  | cons y b=>
   have g:=Kl.1 r;have d:=Kl.1 u
   have k:x=y:=by
    rcases Yh.1 ((h x).1 (by simp)) with e|hx
    ·exact e
    ·rcases Yh.1 ((h y).2 (by simp)) with e|hy
     ·exact e.symm
     ·exact(l x y (g.1 y hy) (d.1 x hx)).elim
   subst k;congr 1;refine ih (fun s=>?_) g.2 d.2;constructor
   ·intro hs;rcases Yh.1 ((h s).1 (Vw _ hs)) with e|j
    ·subst e;have:=g.1 s hs;rw[f] at this;cases this
    ·exact j
   ·intro hs;rcases Yh.1 ((h s).2 (Vw _ hs)) with e|j
    ·subst e;have:=d.1 s hs;rw[f] at this;cases this
    ·exact j
theorem zij{l:YX}(h:rises ltS l=true):z9u l=l:=zf8 (z9i l) h (fun s=>z9h)
theorem zbh(l):(z9u l).length≤l.length:=by
 unfold z9u zfs;rw[Xx];have a:=Lib.compact_length_le (datas (z8n l));rw[z24,z48] at a;exact a
theorem zwl{a l:YX}(ha:rises ltS a=true)(h:∀s∈a,s∈l):a.length≤l.length:=by
 have e:a=z9u (l.filter fun s=>z7m a s):=zf8 ha (z9i _) (fun s=>by
  rw[z9h,Yj];constructor
  ·intro hs;exact⟨h s hs,z3f.2 hs⟩
  ·intro hs;exact z3f.1 hs.2)
 have b:=zbh (l.filter fun s=>z7m a s);rw[←e] at b;exact Xd b (Xv _ _)
theorem zjt{l:YX}(p:YY→Bool)(h:rises ltS l=true):rises ltS (l.filter p)=true:=
 z34 ((z2u zgl h).filter p)
section
open Go.RowKit
attribute [local go_sem] z1g
theorem z9a(l:YX)(base:Nat)(v)(w:World)(hl:l.length≤1000000)(ht:∀s∈l,s.size≤281474976710656)(h:w.ownsRow base 9 1 v l.length (z03 l)):
  Calls prog 262 #[v] w (OwnI base (ofL l) w):=by
 obtain⟨A,c,rfl,-⟩:=z05 h;refine(zr9 l A c w w.heap.size (zei hl ht) (Xb _) (z0l h)).mono ?_;rintro e b ⟨rfl,a⟩;unfold ofL;by_cases h0:l.length=0
 ·rw[Xf h0,Xf h0];exact⟨_,rfl,z0k.nothing _ _,a⟩
 ·rw[Xc h0,Xc h0];exact⟨_,rfl,⟨_,_,_,rfl,z08 h a (by simp),⟨rfl,.inl ⟨rfl,rfl⟩⟩,⟨rfl,.inl ⟨rfl,rfl⟩⟩⟩,a⟩
def z2l(x:Itm)(f t:Int):YX:=if z02 2 x=0 then z28 x.list f t else []
def zdo(x:Itm)(f t:Int)(w:World)(e:Ending)(w':World):Prop:=
 ∃u,e=.returned (.tuple #[u,.int .i64 (z02 2 x)])∧w'.ownsRow w.heap.size 9 1 u (z2l x f t).length (z03 (z2l x f t))∧Fr [] w w'
theorem zb9(l)(f t:Int):(((z03 l).drop (z6x l.length f t * 1)).take ((z6y l.length f t - z6x l.length f t) * 1))=z03 (z28 l f t):=by
 unfold z28 z03;rw[Vo,Vo,List.take_drop,←Kn,←Km];have:=z6z l.length f t;rw[show z6x l.length f t+(z6y l.length f t - z6x l.length f t)=z6y l.length f t by omega]
theorem zaw(x:Itm)(v)(f t:Int)(w:World)(B:Nat)(hs:x.Small)(hB:B≤w.heap.size)(h:z0p w B v x)(hf:-9223372036854775808≤f∧f≤9223372036854775807)(ht:-9223372036854775808≤t∧t≤9223372036854775807):
  Calls prog 212 #[v,.int .i64 f,.int .i64 t] w (zdo x f t w):=by
 have s:=hid (fun W (hf:Fr [] w W)=>zbc x v W B hs (Xd hB hf.size) (h.fr hf hB (by simp)));obtain⟨m,c1,Z,c2,X,V,rfl,G,Q,h3⟩:=h;have k:=hid (BX.new w (.int .i64 x.kind) (.string x.text) (.slice m x.list.length c1) (.slice Z x.pairs.length c2) (.slice X x.scores.length V));obtain⟨K,H,C,D,O⟩:=five k.o.b;unfold zdo z2l;have y:=hid (fun(h:z02 2 x=0)=>z1m h);have L:=hid G;clear G Q h3 hs;by_cases ha:z02 2 x=0
 ·rw[Xf ha,ha];rw[ha] at s;have l:=y.o ha;have I:x.list.length≤24:=by have:=l.le24;unfold many at this;omega
  have g:=z6z x.list.length f t;have U:=hid (fun W=>zim x.list.length f t W (by omega) hf ht)
  have d:=hid (fun W (hW:Fr [] w W)=>z4s (z6y x.list.length f t - z6x x.list.length f t) _ _ _ W B (by omega) (Xd hB hW.size) ((L.o.fr hW hB (by simp)).cut g.1 g.2) (by
   rw[zb9];exact z2z _))
  rw[zb9,←z2p x.list f t] at d
  have A:x.list.length≤c1∧c1≤9223372036854775807:=by
   obtain⟨z,c',e,_,hc,Y,_⟩:=L.o;cases e;unfold maxLen at Y;exact⟨hc,by omega⟩
  obtain⟨F,E⟩:=A;obtain⟨N,J⟩:=g;have M:=hid (z2p x.list f t);clear l y ha;rw[M.o] at d;rw[M.o];generalize z28 x.list f t=r at *;generalize z6x x.list.length f t=a at *;generalize z6y x.list.length f t=b at *;generalize x.list.length=n at *;simp only[Vo] at d;obtain⟨z,R⟩:∃z,(if c1=a then m else Option.map (fun x=>x.add a) m)=z:=⟨_,rfl⟩;rw[R] at d;go_enter func212,ntmps212;go_wp2_with fail;refine(s.o _ k.o.f).mono ?_;rintro e P ⟨rfl,p⟩;have j:=hid (k.o.go p);clear K H C D O;obtain⟨K,H,C,D,O⟩:=five j.o.b;go_wp2_with fail;refine(U.o _).mono ?_;rintro e w2 ⟨rfl,rfl⟩;go_wp2_with fail;refine(d.o _ j.o.f).mono ?_;rintro e w3 ⟨u,rfl,T,f3⟩;have S:=j.o.f.size;go_wp2;go_ret2;exact⟨u,rfl,z0i T S,j.o.f.trans f3⟩
 ·rw[Xc ha];have q:(z02 2 x != 0)=true:=by simpa using ha
  clear y ha;generalize z02 2 x=r at *;go_enter func212,ntmps212;go_wp2_with fail;refine(s.o _ k.o.f).mono ?_;rintro e P ⟨rfl,p⟩;have j:=hid (k.o.go p);go_wp2;go_ret2;exact⟨_,rfl,World.ownsRow_nil _ _ _ _,j.o.f⟩
def q54(code:Int)(y:Itm)(w:World)(e:Ending)(w':World):Prop:=∃u,e=.returned (.tuple #[u,.int .i64 code])∧z0k w' w.heap.size u y∧Fr [] w w'
def q55(s:YY)(code:Int)(y:Itm)(w:World)(e:Ending)(w':World):Prop:=∃u,e=.returned (.tuple #[u,.string s,.int .i64 code])∧z0k w' w.heap.size u y∧Fr [] w w'
theorem zkh(x:Itm)(v)(f t:Int)(w:World)(B:Nat)(hs:x.Small)(hB:B≤w.heap.size)(h:z0p w B v x)(hf:-9223372036854775808≤f∧f≤9223372036854775807)(ht:-9223372036854775808≤t∧t≤9223372036854775807):
  Calls prog 213 #[v,.int .i64 f,.int .i64 t] w (q54 (z02 2 x) (ofL (z2l x f t)) w):=by
 have F:=hid (fun W (hW:Fr [] w W)=>zaw x v f t W B hs (Xd hB hW.size) (h.fr hW hB (by simp)) hf ht)
 have g:(z2l x f t).length≤1000000∧∀s∈z2l x f t,s.size≤281474976710656:=by
  unfold z2l;by_cases ha:z02 2 x=0
  ·rw[Xf ha];have j:=z1m ha;refine⟨?_,fun s hs=>by have:=j.texts s (z81 hs);omega⟩;rw[z2p];have:=z6z x.list.length f t;have:=j.le24;unfold many at this;omega
  ·rw[Xc ha];exact⟨by simp,by simp⟩
 have G:=hid (fun W base u hu=>z9a (z2l x f t) base u W g.1 g.2 hu);have A:=hid (fun(ha:¬z02 2 x=0)=>(show ofL (z2l x f t)=z2q 0 from by unfold z2l;rw[Xc ha];rfl));unfold zdo at F;obtain⟨O,c1,A2,c2,A3,c3,rfl,S,L,h3⟩:=h;have l:=hid (BO.new w (.int .i64 x.kind) (.string x.text) (.slice O x.list.length c1) (.slice A2 x.pairs.length c2) (.slice A3 x.scores.length c3));obtain⟨X,T,I,J,d4⟩:=five l.o.b;clear S L h3 hs hf ht g;generalize ofL (z2l x f t)=y at *;generalize z2l x f t=r at *;generalize z02 2 x=a at *;by_cases ha:a=0;have d:=hid trivial
 all_goals
  first
  | (guard_hyp d
     subst ha;clear A)
  | (rw[A.o ha]
     have q:(a != 0)=true:=by simpa using ha
     clear A G ha)
  go_enter func213,ntmps213;go_wp2_with fail;refine(F.o _ l.o.f).mono ?_;rintro e w1 ⟨u,rfl,z,Q⟩;have k:=hid (l.o.go Q)
  first
  | (guard_hyp d
     have hz:=l.o.lt;have Z:=hid z)
  | (skip)
  obtain⟨U,cu,rfl,-⟩:=z05 z;clear X T I J d4 z
  first
  | (guard_hyp d
     go_wp2_with fail;refine(G.o _ _ _ Z.o).mono ?_;rintro e w2 ⟨u,rfl,hi,f2⟩;have n:=hid (k.o.go f2);have HI:=hid hi;obtain⟨V,Y,P2,M,P,H,rfl⟩:=hi.form;clear hi;obtain⟨C,D,E,m,p⟩:=five n.o.o;obtain⟨R,b2,N,b4,K⟩:=z11 n.o.o;go_wp2;refine Xg (v:=.tuple #[.agg (yIa y V Y P2 M P H),.int .i64 0]) (by simp[results,results213,go_sem,C,D,E,m,p]) rfl ?_;exact⟨_,rfl,(z1v HI.o (by omega) _ _ _ _ _).less (by omega),n.o.end5 _ _ _ _ _⟩)
  | (obtain⟨C,D,E,m,p⟩:=five k.o.o
     obtain⟨R,b2,N,b4,K⟩:=z11 k.o.o;go_wp2;refine Xg (v:=.tuple #[.agg yIza,.int .i64 a]) (by simp[results,results213,go_sem,C,D,E,m,p]) rfl ?_;exact⟨_,rfl,z0k.nothing _ _,k.o.end5 _ _ _ _ _⟩)
end
end Go.Proofs.YtnmoajaelmimnaaGreatDoor
