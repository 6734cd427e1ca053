/- Contracts; no condition but each theorem's own. -/
import Derived.Test.YtmkhmejempcimaaGreatDoorSlU11
import Derived.Test.YtmkhmejempcimaaGreatDoorSlU13
set_option linter.unusedVariables false
set_option linter.unusedSimpArgs false
set_option maxHeartbeats 8000000
set_option maxRecDepth 100000
namespace Go.Proofs.YtmkhmejempcimaaGreatDoor
open Go.RowKit
def z8a(ss:List (List ByteArray))(a b:Int):ByteArray:=(ss.getD a.toNat []).getD b.toNat ⟨#[]⟩
def z43(ss:List (List ByteArray))(x:Slt):Itm:=if x.cold=true then z06 (z8a ss x.seg x.rcd) else x.item
def z0k(s:Sto):List Ent:=s.slots.map fun x=>⟨x.key,z43 s.segs x,x.til⟩
theorem z52{ss:List (List ByteArray)}{a b:Int}(h:z1b ss a b=true):∃(i j:Nat) (l:List ByteArray) (t:ByteArray),a=i∧b=j∧ss[i]? = some l∧l[j]? = some t∧z8a ss a b=t:=by
 unfold z1b at h;simp only[Bool.and_eq_true,decide_eq_true_eq] at h;obtain⟨⟨⟨h1,h2⟩,h3⟩,h4⟩:=h;obtain⟨i,rfl⟩:=Int.eq_ofNat_of_zero_le h1;obtain⟨j,rfl⟩:=Int.eq_ofNat_of_zero_le h3;rw[Int.toNat_natCast] at h4;have hi:i < ss.length:=by omega
 have e:ss.getD i []=ss[i]:=by rw[List.getD_eq_getElem?_getD,List.getElem?_eq_getElem hi];rfl
 rw[e] at h4;have hj:j < (ss[i]).length:=by omega
 refine⟨i,j,ss[i],(ss[i])[j],rfl,rfl,List.getElem?_eq_getElem hi,List.getElem?_eq_getElem hj,?_⟩;unfold z8a;rw[Int.toNat_natCast,Int.toNat_natCast,e,List.getD_eq_getElem?_getD,List.getElem?_eq_getElem hj];rfl
theorem z4l{ss:List (List ByteArray)}{i j:Nat}{l:List ByteArray}{t:ByteArray}(h:ss[i]? = some l)(k:l[j]? = some t):z1b ss i j=true∧z8a ss i j=t:=by
 have hi:=(List.getElem?_eq_some_iff.1 h).1;have hj:=(List.getElem?_eq_some_iff.1 k).1;have e:ss.getD i []=l:=by rw[List.getD_eq_getElem?_getD,h];rfl
 refine⟨?_,?_⟩
 ·unfold z1b;simp only[Bool.and_eq_true,decide_eq_true_eq,Int.toNat_natCast];rw[e];exact⟨⟨⟨by omega,by omega⟩,by omega⟩,by omega⟩
 ·unfold z8a;rw[Int.toNat_natCast,Int.toNat_natCast,e,List.getD_eq_getElem?_getD,k];rfl
theorem z7w{α β:Type}{key:α→ByteArray}{key':β→ByteArray}{l:List α}(f:α→β)(hf:∀x,key' (f x)=key x)(h:rises (ltK key) l=true):rises (ltK key') (l.map f)=true:=by
 refine z5x ?_;rw[List.pairwise_map];refine(z5z (z4z key) h).imp ?_;intro a b hab;unfold ltK at hab ⊢;rw[hf,hf];exact hab
theorem z8q{s:Sto}(h:z2t s){x:Slt}(hx:x∈s.slots):z08 (z43 s.segs x)=0:=by
 have k:=h.slot x hx;unfold z43;by_cases hc:x.cold=true
 ·rw[if_pos hc];obtain⟨i,j,l,t,_,_,h3,h4,h5⟩:=z52 (k.cold hc).2;rw[h5];exact(zmr (h.recs l (List.mem_of_getElem? h3) t (List.mem_of_getElem? h4))).1
 ·rw[if_neg hc];exact(k.hot (by simpa using hc)).1
theorem zhm{s:Sto}(h:z2t s):ze8 (z0k s):=by
 refine⟨by unfold z0k;rw[List.length_map];exact h.le,?_,?_,?_,z7w _ (fun _=>rfl) h.rise⟩
 ·intro e he;obtain⟨x,hx,rfl⟩:=List.mem_map.1 he;exact(h.slot x hx).key
 ·intro e he;obtain⟨x,hx,rfl⟩:=List.mem_map.1 he;exact z8q h hx
 ·intro e he;obtain⟨x,hx,rfl⟩:=List.mem_map.1 he;exact(h.slot x hx).til
theorem zmq{s:Sto}(h:z2t s){i:Nat}{x y:Slt}(hx:s.slots[i]? = some x)(hk:y.key=x.key)(hy:zaa s.segs y):z2t ⟨s.slots.set i y,s.segs⟩:=by
 refine⟨by show(s.slots.set i y).length≤16;rw[List.length_set];exact h.le,h.sle,h.rle,h.recs,?_,?_⟩
 ·intro z hz;rcases List.mem_or_eq_of_mem_set hz with hz|rfl
  ·exact h.slot z hz
  ·exact hy
 ·show rises (ltK Slt.key) (s.slots.set i y)=true;refine z5x ?_;have hp:=z5z (z4z Slt.key) h.rise;rw[List.pairwise_iff_getElem] at hp ⊢;intro a b ha hb hab;rw[List.length_set] at ha hb;have hi:=(List.getElem?_eq_some_iff.1 hx).1;have hxe:=(List.getElem?_eq_some_iff.1 hx).2;have:=hp a b ha hb hab;unfold ltK at this ⊢;rw[List.getElem_set,List.getElem_set];by_cases h1:i=a
  ·subst h1;rw[if_pos rfl,if_neg (by omega),hk,←hxe];exact this
  ·rw[if_neg h1];by_cases h2:i=b
   ·subst h2;rw[if_pos rfl,hk,←hxe];exact this
   ·rw[if_neg h2];exact this
theorem zf4{s:Sto}{i:Nat}{x y:Slt}(hx:s.slots[i]? = some x)(hk:y.key=x.key)(ht:y.til=x.til)(hl:z43 s.segs y=z43 s.segs x):z0k ⟨s.slots.set i y,s.segs⟩=z0k s:=by
 unfold z0k;refine List.ext_getElem? fun k=>?_;rw[List.getElem?_map,List.getElem?_map];show Option.map _ (s.slots.set i y)[k]? = _;rw[List.getElem?_set];by_cases h:i=k
 ·subst h;have hi:=(List.getElem?_eq_some_iff.1 hx).1;rw[if_pos rfl,if_pos hi,hx];show some (Ent.mk y.key (z43 s.segs y) y.til)=some (Ent.mk x.key (z43 s.segs x) x.til);rw[hk,ht,hl]
 ·rw[if_neg h]
def zm5(ss tt:List (List ByteArray)):Prop:=∀(i:Nat) (l:List ByteArray),ss[i]? = some l→∃m,tt[i]? = some (l++m)
theorem zch{ss tt:List (List ByteArray)}(h:zm5 ss tt){a b:Int}(k:z1b ss a b=true):z1b tt a b=true∧z8a tt a b=z8a ss a b:=by
 obtain⟨i,j,l,t,rfl,rfl,h3,h4,h5⟩:=z52 k;obtain⟨m,hm⟩:=h i l h3;have hj:=(List.getElem?_eq_some_iff.1 h4).1;have:=z4l hm (j:=j) (t:=t) (by rw[List.getElem?_append_left hj];exact h4);exact⟨this.1,by rw[this.2,h5]⟩
theorem zen{ss tt:List (List ByteArray)}(h:zm5 ss tt){x:Slt}(k:zaa ss x):zaa tt x∧z43 tt x=z43 ss x:=by
 refine⟨⟨k.key,k.hot,fun hc=>⟨(k.cold hc).1,(zch h (k.cold hc).2).1⟩,k.til⟩,?_⟩;unfold z43;by_cases hc:x.cold=true
 ·rw[if_pos hc,if_pos hc,(zch h (k.cold hc).2).2]
 ·rw[if_neg hc,if_neg hc]
theorem zpe{s:Sto}(h:z2t s){tt:List (List ByteArray)}(he:zm5 s.segs tt)(hl:tt.length≤8)(hr:∀l∈tt,l.length≤4)(hd:∀l∈tt,∀t∈l,z0u t=0):z2t ⟨s.slots,tt⟩∧z0k ⟨s.slots,tt⟩=z0k s:=by
 refine⟨⟨h.le,hl,hr,hd,fun x hx=>(zen he (h.slot x hx)).1,h.rise⟩,?_⟩;unfold z0k;refine List.map_congr_left fun x hx=>?_;rw[(zen he (h.slot x hx)).2]
def z45(ss:List (List ByteArray)):Nat:=(ss.getD (ss.length - 1) []).length
def zah(ss:List (List ByteArray)):Bool:=(decide (0 < ss.length)&&decide (z45 ss < 4))||decide (ss.length≠8)
def z1c(ss:List (List ByteArray)):List (List ByteArray):=if (decide (0 < ss.length)&&decide (z45 ss < 4))=true then ss else ss++[[]]
def z5w(ss:List (List ByteArray))(t:ByteArray):List (List ByteArray):=ss.set (ss.length - 1) (ss.getD (ss.length - 1) []++[t])
def zeb(x:Slt)(n r:Nat):Slt:={ x with cold:=true,item:=z2l 0,seg:=(n:Int),rcd:=(r:Int) }
def znz(s:Sto)(i:Nat)(x:Slt):Sto:=⟨s.slots.set i (zeb x ((z1c s.segs).length - 1) (z45 (z1c s.segs))),z5w (z1c s.segs) ⟨(z0w x.item).toArray⟩⟩
def z25(s:Sto)(k:ByteArray)(cold:Bool):Option (Nat×Slt)×Int:=
 if z5e Slt.key s.slots k=false then (none,5)
 else match s.slots[z1k Slt.key s.slots k]? with
  | none=>(none,5)
  | some x=>if x.cold=cold then (some (z1k Slt.key s.slots k,x),0) else (none,4)
def z38(s:Sto)(k:ByteArray):Sto×Int:=match z25 s k false with
 | (none,e)=>(noS,e)
 | (some (i,x),_)=>if zah s.segs=true then (znz s i x,0) else (noS,2)
def zo6(ss:List (List ByteArray))(x:Slt):Slt:={ x with cold:=false,item:=z43 ss x,seg:=0,rcd:=0 }
def z3s(s:Sto)(k:ByteArray):Sto×Int:=match z25 s k true with
 | (none,e)=>(noS,e)
 | (some (i,x),_)=>(⟨s.slots.set i (zo6 s.segs x),s.segs⟩,0)
theorem z4a{s:Sto}{k:ByteArray}{c:Bool}{i:Nat}{x:Slt}{e:Int}(h:z25 s k c=(some (i,x),e)):s.slots[i]? = some x∧x.cold=c∧e=0∧x.key=k∧i=z1k Slt.key s.slots k∧z5e Slt.key s.slots k=true:=by
 unfold z25 at h;split at h
 ·simp at h
 ·rename_i hh;split at h
  ·simp at h
  ·rename_i y hy;split at h
   ·rename_i hc;simp at h;obtain⟨⟨rfl,rfl⟩,rfl⟩:=h;have hh:z5e Slt.key s.slots k=true:=by simpa using hh
    refine⟨hy,hc,rfl,?_,rfl,hh⟩;obtain⟨q,hq,he⟩:=(z2z Slt.key).1 hh;rw[hq] at hy;cases hy;exact he
   ·simp at h
theorem z4g{s:Sto}{k:ByteArray}{c:Bool}{e:Int}(h:z25 s k c=(none,e)):e≠0:=by
 unfold z25 at h;split at h
 ·cases h;decide
 ·split at h
  ·cases h;decide
  ·split at h
   ·cases h
   ·cases h;decide
theorem zbg{ss:List (List ByteArray)}(h:zah ss=true)(hl:ss.length≤8):0 < (z1c ss).length∧(z1c ss).length≤8∧z45 (z1c ss) < 4:=by
 unfold z1c;unfold zah at h;by_cases hc:(decide (0 < ss.length)&&decide (z45 ss < 4))=true
 ·rw[if_pos hc];simp only[Bool.and_eq_true,decide_eq_true_eq] at hc;exact⟨hc.1,hl,hc.2⟩
 ·rw[if_neg hc];have hc:(decide (0 < ss.length)&&decide (z45 ss < 4))=false:=by simpa using hc
  rw[hc,Bool.false_or,decide_eq_true_eq] at h;refine⟨by simp,by simp;omega,?_⟩;unfold z45;simp
theorem zhe(ss:List (List ByteArray)):zm5 ss (z1c ss):=fun i l h=>by
 unfold z1c;split
 ·exact⟨[],by rw[List.append_nil];exact h⟩
 ·have hi:=(List.getElem?_eq_some_iff.1 h).1;exact⟨[],by rw[List.getElem?_append_left hi,List.append_nil];exact h⟩
theorem z7x{ss:List (List ByteArray)}{l:List ByteArray}(h:l∈z1c ss):l∈ss∨l=[]:=by
 unfold z1c at h;split at h
 ·exact .inl h
 ·rcases List.mem_append.1 h with h|h
  ·exact .inl h
  ·exact .inr (by simpa using h)
theorem zm6(ss:List (List ByteArray))(t:ByteArray):zm5 ss (z5w ss t):=fun i l h=>by
 have hi:=(List.getElem?_eq_some_iff.1 h).1;unfold z5w;rw[List.getElem?_set];by_cases hc:ss.length - 1=i
 ·rw[if_pos hc,if_pos (by omega)];refine⟨[t],?_⟩;rw[hc,List.getD_eq_getElem?_getD,h];rfl
 ·rw[if_neg hc];exact⟨[],by rw[List.append_nil];exact h⟩
theorem zm5.trans{a b c:List (List ByteArray)}(h:zm5 a b)(k:zm5 b c):zm5 a c:=fun i l hl=>by
 obtain⟨m,hm⟩:=h i l hl;obtain⟨m',hm'⟩:=k i _ hm;exact⟨m++m',by rw[hm',List.append_assoc]⟩
theorem zez{ss:List (List ByteArray)}{t:ByteArray}{l:List ByteArray}(h:l∈z5w ss t):l∈ss∨l=ss.getD (ss.length - 1) []++[t]:=List.mem_or_eq_of_mem_set h
theorem zjp{ss:List (List ByteArray)}(h:0 < ss.length):ss.getD (ss.length - 1) []∈ss:=by
 rw[List.getD_eq_getElem?_getD,List.getElem?_eq_getElem (by omega)];exact List.getElem_mem _
theorem zbm:z0m (z2l 0)=true:=by decide
theorem zhz{s t:Sto}{k:ByteArray}(h:z2t s)(hc:z38 s k=(t,0)):z2t t∧z0k t=z0k s:=by
 unfold z38 at hc;split at hc
 ·rename_i e he;have hn:=z4g he;cases hc;exact absurd rfl hn
 ·rename_i i x e he;obtain⟨h1,h2,rfl,h4,rfl,_⟩:=z4a he;split at hc
  ·rename_i hr;cases hc;obtain⟨r1,r2,r3⟩:=zbg hr h.sle;have hx:=h.slot x (List.mem_of_getElem? h1);obtain⟨x1,_⟩:=hx.hot h2;have en:=zok x1;have e9:z66 x.item=⟨(z0w x.item).toArray⟩:=by unfold z66;rw[if_pos x1]
   rw[e9] at en;have hE:=(zhe s.segs).trans (zm6 (z1c s.segs) ⟨(z0w x.item).toArray⟩);have hlast:=zjp r1
   obtain⟨k1,k2⟩:=zpe h hE (by unfold z5w;rw[List.length_set];exact r2)
    (fun l hl=>by
      rcases zez hl with hl|rfl
      ·rcases z7x hl with hl|rfl
       ·exact h.rle l hl
       ·exact Nat.zero_le _
      ·rw[List.length_append];unfold z45 at r3;show _+1≤4;omega)
    (fun l hl t ht=>by
      rcases zez hl with hl|rfl
      ·rcases z7x hl with hl|rfl
       ·exact h.recs l hl t ht
       ·cases ht
      ·rcases List.mem_append.1 ht with ht|ht
       ·rcases z7x hlast with hl|hl
        ·exact h.recs _ hl t ht
        ·rw[hl] at ht;cases ht
       ·rw[List.mem_singleton.1 ht];exact en.1)
   have hrow:(z5w (z1c s.segs) ⟨(z0w x.item).toArray⟩)[(z1c s.segs).length - 1]? = some ((z1c s.segs).getD ((z1c s.segs).length - 1) []++[⟨(z0w x.item).toArray⟩]):=by
    unfold z5w;rw[List.getElem?_set,if_pos rfl,if_pos (by omega)]
   have hth:=z4l hrow (j:=z45 (z1c s.segs)) (t:=⟨(z0w x.item).toArray⟩) (by
    unfold z45;rw[List.getElem?_append_right (Nat.le_refl _),Nat.sub_self];rfl)
   have hy:zaa (z5w (z1c s.segs) ⟨(z0w x.item).toArray⟩) (zeb x ((z1c s.segs).length - 1) (z45 (z1c s.segs))):=
    ⟨hx.key,(fun h=>by cases h),fun _=>⟨zbm,hth.1⟩,hx.til⟩
   refine⟨zmq k1 (i:=z1k Slt.key s.slots k) (x:=x) h1 rfl hy,?_⟩;refine(zf4 (s:=⟨s.slots,z5w (z1c s.segs) ⟨(z0w x.item).toArray⟩⟩) (i:=z1k Slt.key s.slots k) (x:=x) (y:=zeb x ((z1c s.segs).length - 1) (z45 (z1c s.segs))) h1 rfl rfl ?_).trans k2;show z43 (z5w (z1c s.segs) ⟨(z0w x.item).toArray⟩) (zeb x ((z1c s.segs).length - 1) (z45 (z1c s.segs)))=z43 (z5w (z1c s.segs) ⟨(z0w x.item).toArray⟩) x;unfold z43;rw[if_pos (show(zeb x ((z1c s.segs).length - 1) (z45 (z1c s.segs))).cold=true from rfl),if_neg (by rw[h2];decide)];show z06 (z8a _ (((z1c s.segs).length - 1:Nat):Int) (z45 (z1c s.segs):Int))=_;rw[hth.2];exact en.2
  ·rename_i hr;cases hc
theorem ziy{s t:Sto}{k:ByteArray}(h:z2t s)(hc:z3s s k=(t,0)):z2t t∧z0k t=z0k s:=by
 unfold z3s at hc;split at hc
 ·rename_i e he;have hn:=z4g he;cases hc;exact absurd rfl hn
 ·rename_i i x e he;obtain⟨h1,h2,rfl,h4,rfl,_⟩:=z4a he;cases hc;have hm:=List.mem_of_getElem? h1;have hx:=h.slot x hm;exact⟨zmq h h1 rfl ⟨hx.key,fun _=>⟨z8q h hm,rfl,rfl⟩,(fun h=>by cases h),hx.til⟩,zf4 h1 rfl rfl rfl⟩
def z1j(l:List Slt)(n i:Int):Bool:=l.any fun x=>x.cold&&(decide (x.seg=n)&&decide (x.rcd=i))
def mvR(n i:Int)(x:Slt):Slt:=if x.cold=true∧x.seg=n∧i < x.rcd then { x with rcd:=x.rcd - 1 } else x
def mvS(n:Int)(x:Slt):Slt:=if x.cold=true∧n < x.seg then { x with seg:=x.seg - 1 } else x
def zaq(n i:Nat)(s:Sto):Sto:=if z1j s.slots n i=true then s else ⟨s.slots.map (mvR n i),s.segs.set n ((s.segs.getD n []).eraseIdx i)⟩
def zf3(n:Nat):Nat→Sto→Sto
 | 0,s=>s
 | i+1,s=>zf3 n i (zaq n i s)
def zed(n:Nat)(s:Sto):Sto:=if (s.segs.getD n []).length=0∧n+1 < s.segs.length then ⟨s.slots.map (mvS n),s.segs.eraseIdx n⟩ else s
def z6l(n:Nat)(s:Sto):Sto:=zf3 n (s.segs.getD n []).length s
def z0z(s:Sto)(n:Int):Sto×Int×Int:=
 if 0≤n∧n < s.segs.length then (zed n.toNat (z6l n.toNat s),((s.segs.getD n.toNat []).length:Int) - ((z6l n.toNat s).segs.getD n.toNat []).length,0) else (noS,0,5)
theorem znn(n i:Int)(x:Slt):(mvR n i x).key=x.key∧(mvR n i x).cold=x.cold∧(mvR n i x).item=x.item∧(mvR n i x).til=x.til∧(mvR n i x).seg=x.seg:=by unfold mvR;split <;> exact⟨rfl,rfl,rfl,rfl,rfl⟩
theorem zoa(n:Int)(x:Slt):(mvS n x).key=x.key∧(mvS n x).cold=x.cold∧(mvS n x).item=x.item∧(mvS n x).til=x.til∧(mvS n x).rcd=x.rcd:=by unfold mvS;split <;> exact⟨rfl,rfl,rfl,rfl,rfl⟩
theorem z1h{α:Type}{l:List α}{i:Nat}{x d:α}(h:l[i]? = some x):l.getD i d=x:=by rw[List.getD_eq_getElem?_getD,h];rfl
theorem zmn{s:Sto}(h:z2t s){tt:List (List ByteArray)}(f:Slt→Slt)(hk:∀x,(f x).key=x.key∧(f x).cold=x.cold∧(f x).item=x.item∧(f x).til=x.til)
  (hh:∀x∈s.slots,x.cold=false→(f x).seg=x.seg∧(f x).rcd=x.rcd) (hc:∀x∈s.slots,x.cold=true→z1b tt (f x).seg (f x).rcd=true∧z8a tt (f x).seg (f x).rcd=z8a s.segs x.seg x.rcd)
  (hl:tt.length≤8) (hr:∀l∈tt,l.length≤4) (hd:∀l∈tt,∀t∈l,z0u t=0):z2t ⟨s.slots.map f,tt⟩∧z0k ⟨s.slots.map f,tt⟩=z0k s:=by
 refine⟨⟨by show(s.slots.map f).length≤16;rw[List.length_map];exact h.le,hl,hr,hd,?_,z7w f (fun x=>(hk x).1) h.rise⟩,?_⟩
 ·intro y hy;obtain⟨x,hx,rfl⟩:=List.mem_map.1 hy;have o:=h.slot x hx;obtain⟨k1,k2,k3,k4⟩:=hk x;refine⟨by rw[k1];exact o.key,fun hf=>?_,fun hf=>?_,by rw[k4];exact o.til⟩
  ·rw[k2] at hf;rw[k3,(hh x hx hf).1,(hh x hx hf).2];exact o.hot hf
  ·rw[k2] at hf;rw[k3];exact⟨(o.cold hf).1,(hc x hx hf).1⟩
 ·unfold z0k;show((s.slots.map f).map fun x=>Ent.mk x.key (z43 tt x) x.til)=_;rw[List.map_map];refine List.map_congr_left fun x hx=>?_;obtain⟨k1,k2,k3,k4⟩:=hk x;show Ent.mk (f x).key (z43 tt (f x)) (f x).til=Ent.mk x.key (z43 s.segs x) x.til;rw[k1,k4];congr 1;unfold z43;rw[k2,k3];by_cases hf:x.cold=true
  ·rw[if_pos hf,if_pos hf,(hc x hx hf).2]
  ·rw[if_neg hf,if_neg hf]
theorem zl2{l:List Slt}{n i:Int}(h:¬z1j l n i=true){x:Slt}(hx:x∈l)(hc:x.cold=true)(hs:x.seg=n):x.rcd≠i:=fun hr=>h (by
 unfold z1j;rw[List.any_eq_true];exact⟨x,hx,by rw[hc,decide_eq_true hs,decide_eq_true hr];rfl⟩)
theorem zep{α:Type}{l:List α}{i j:Nat}(h:j < i):(l.eraseIdx i)[j]? = l[j]? := by rw[List.getElem?_eraseIdx,if_pos h]
theorem zew{α:Type}{l:List α}{i j:Nat}(h:i≤j):(l.eraseIdx i)[j]? = l[j+1]? := by rw[List.getElem?_eraseIdx,if_neg (by omega)]
theorem ziw{s:Sto}(h:z2t s){n i:Nat}{l:List ByteArray}(hn:s.segs[n]? = some l):z2t (zaq n i s)∧z0k (zaq n i s)=z0k s:=by
 unfold zaq;by_cases hm:z1j s.slots n i=true
 ·rw[if_pos hm];exact⟨h,rfl⟩
 ·rw[if_neg hm,z1h hn];have hnl:=(List.getElem?_eq_some_iff.1 hn).1;have hlm:=List.mem_of_getElem? hn;refine zmn h _ (fun x=>by have:=znn n i x;exact⟨this.1,this.2.1,this.2.2.1,this.2.2.2.1⟩) (fun x hx hf=>by unfold mvR;rw[if_neg (by rw[hf];simp)];exact⟨rfl,rfl⟩) (fun x hx hc=>?_) (by rw[List.length_set];exact h.sle) (fun m hm=>?_) (fun m hm t ht=>?_)
  ·obtain⟨a,b,m,t,ha,hb,h3,h4,h5⟩:=z52 ((h.slot x hx).cold hc).2;by_cases hs:x.seg=n
   ·have han:a=n:=by omega
    subst han;rw[hn] at h3;cases h3;have hr:=zl2 hm hx hc hs;have hrow:(s.segs.set a (l.eraseIdx i))[a]? = some (l.eraseIdx i):=by rw[List.getElem?_set,if_pos rfl,if_pos hnl]
    by_cases hlt:(i:Int) < x.rcd
    ·have e1:(mvR a i x).seg=a:=by unfold mvR;rw[if_pos ⟨hc,hs,hlt⟩];exact hs
     have e2:(mvR a i x).rcd=((b - 1:Nat):Int):=by unfold mvR;rw[if_pos ⟨hc,hs,hlt⟩];show x.rcd - 1=_;omega
     have:=z4l hrow (j:=b - 1) (t:=t) (by rw[zew (by omega),show b - 1+1=b by omega];exact h4);rw[e1,e2,h5];exact this
    ·have e1:mvR a i x=x:=by unfold mvR;rw[if_neg (by intro h;exact hlt h.2.2)]
     have:=z4l hrow (j:=b) (t:=t) (by rw[zep (by omega)];exact h4);rw[e1,h5,ha,hb];exact this
   ·have e1:mvR n i x=x:=by unfold mvR;rw[if_neg (by intro h;exact hs h.2.1)]
    have:=z4l (ss:=s.segs.set n (l.eraseIdx i)) (i:=a) (by rw[List.getElem?_set,if_neg (by omega)];exact h3) h4;rw[e1,h5,ha,hb];exact this
  ·rcases List.mem_or_eq_of_mem_set hm with hm|rfl
   ·exact h.rle m hm
   ·exact Nat.le_trans (List.length_eraseIdx_le l i) (h.rle l hlm)
  ·rcases List.mem_or_eq_of_mem_set hm with hm|rfl
   ·exact h.recs m hm t ht
   ·exact h.recs l hlm t (List.mem_of_mem_eraseIdx ht)
theorem zi0{s:Sto}{n i:Nat}{l:List ByteArray}(hn:s.segs[n]? = some l):∃m,(zaq n i s).segs[n]? = some m∧(zaq n i s).segs.length=s.segs.length∧((z1j s.slots n i=true∧m=l∧zaq n i s=s)∨(¬z1j s.slots n i=true∧m=l.eraseIdx i)):=by
 unfold zaq;by_cases hm:z1j s.slots n i=true
 ·rw[if_pos hm];exact⟨l,hn,rfl,.inl ⟨hm,rfl,rfl⟩⟩
 ·rw[if_neg hm,z1h hn];exact⟨l.eraseIdx i,by rw[List.getElem?_set,if_pos rfl,if_pos (List.getElem?_eq_some_iff.1 hn).1],by rw[List.length_set],.inr ⟨hm,rfl⟩⟩
def zp9(n i:Nat)(s:Sto)(l:List ByteArray):Prop:=∀j,i≤j→j < l.length→z1j s.slots n j=true
theorem zjy:∀(n i:Nat) (s:Sto) (l:List ByteArray),z2t s→s.segs[n]? = some l→i≤l.length→zp9 n i s l →
  ∃m,z2t (zf3 n i s)∧z0k (zf3 n i s)=z0k s∧(zf3 n i s).segs[n]? = some m∧(zf3 n i s).segs.length=s.segs.length∧m.length≤l.length∧zp9 n 0 (zf3 n i s) m
 | n,0,s,l,h,hn,hi,ha=>⟨l,h,rfl,hn,rfl,Nat.le_refl _,ha⟩
 | n,i+1,s,l,h,hn,hi,ha=>by
  obtain⟨k1,k2⟩:=ziw h (i:=i) hn;obtain⟨m,m1,m2,m3⟩:=zi0 (i:=i) hn
  have hle:m.length≤l.length:=by
   rcases m3 with⟨_,rfl,_⟩|⟨_,rfl⟩
   ·exact Nat.le_refl _
   ·exact List.length_eraseIdx_le l i
  have him:i≤m.length:=by
   rcases m3 with⟨_,rfl,_⟩|⟨_,rfl⟩
   ·omega
   ·rw[List.length_eraseIdx_of_lt (by omega)];omega
  have hall:zp9 n i (zaq n i s) m:=by
   intro j h1 h2;rcases m3 with⟨q1,rfl,q3⟩|⟨q1,rfl⟩
   ·rw[q3];rcases Nat.eq_or_lt_of_le h1 with rfl|h1
    ·exact q1
    ·exact ha j h1 h2
   ·rw[List.length_eraseIdx_of_lt (by omega)] at h2;have:=ha (j+1) (by omega) (by omega);unfold z1j at this;rw[List.any_eq_true] at this;obtain⟨x,hx,hp⟩:=this;simp only[Bool.and_eq_true,decide_eq_true_eq] at hp;obtain⟨p1,p2,p3⟩:=hp;unfold zaq;rw[if_neg q1];unfold z1j;rw[List.any_eq_true];refine⟨mvR n i x,List.mem_map_of_mem hx,?_⟩;unfold mvR;rw[if_pos ⟨p1,p2,by omega⟩];simp only[Bool.and_eq_true,decide_eq_true_eq];exact⟨p1,p2,by omega⟩
  obtain⟨r,r1,r2,r3,r4,r5,r6⟩:=zjy n i (zaq n i s) m k1 m1 him hall;exact⟨r,r1,r2.trans k2,r3,r4.trans m2,Nat.le_trans r5 hle,r6⟩
theorem zb3:∀(n i:Nat) (s:Sto) (l:List ByteArray),i≤l.length→zp9 n 0 s l→zf3 n i s=s
 | n,0,s,l,_,_=>rfl
 | n,i+1,s,l,hi,ha=>by
  show zf3 n i (zaq n i s)=s;have:zaq n i s=s:=by unfold zaq;rw[if_pos (ha i (Nat.zero_le _) (by omega))]
  rw[this];exact zb3 n i s l (by omega) ha
theorem zo2{s:Sto}(h:z2t s)(n:Nat):z2t (zed n s)∧z0k (zed n s)=z0k s:=by
 unfold zed;by_cases hc:(s.segs.getD n []).length=0∧n+1 < s.segs.length
 ·rw[if_pos hc];obtain⟨l,hn⟩:∃l,s.segs[n]? = some l:=⟨_,List.getElem?_eq_getElem (by omega)⟩;rw[z1h hn] at hc;have hl0:l=[]:=List.length_eq_zero_iff.1 hc.1;refine zmn h _ (fun x=>by have:=zoa n x;exact⟨this.1,this.2.1,this.2.2.1,this.2.2.2.1⟩) (fun x hx hf=>by unfold mvS;rw[if_neg (by rw[hf];simp)];exact⟨rfl,rfl⟩) (fun x hx hcold=>?_) (Nat.le_trans (List.length_eraseIdx_le _ _) h.sle) (fun m hm=>h.rle m (List.mem_of_mem_eraseIdx hm)) (fun m hm=>h.recs m (List.mem_of_mem_eraseIdx hm));obtain⟨a,b,m,t,ha,hb,h3,h4,h5⟩:=z52 ((h.slot x hx).cold hcold).2
  have hne:a≠n:=fun he=>by
   subst he;rw[hn] at h3;cases h3;rw[hl0] at h4;simp at h4
  by_cases hlt:(n:Int) < x.seg
  ·have e1:(mvS n x).seg=((a - 1:Nat):Int):=by unfold mvS;rw[if_pos ⟨hcold,hlt⟩];show x.seg - 1=_;omega
   have e2:(mvS n x).rcd=b:=by unfold mvS;rw[if_pos ⟨hcold,hlt⟩];exact hb
   have:=z4l (ss:=s.segs.eraseIdx n) (i:=a - 1) (l:=m) (j:=b) (t:=t) (by rw[zew (by omega),show a - 1+1=a by omega];exact h3) h4;rw[e1,e2,h5];exact this
  ·have e1:mvS n x=x:=by unfold mvS;rw[if_neg (by intro h;exact hlt h.2)]
   have:=z4l (ss:=s.segs.eraseIdx n) (i:=a) (l:=m) (j:=b) (t:=t) (by rw[zep (by omega)];exact h3) h4;rw[e1,h5,ha,hb];exact this
 ·rw[if_neg hc];exact⟨h,rfl⟩
theorem zil{s:Sto}(h:z2t s){n:Nat}{l:List ByteArray}(hn:s.segs[n]? = some l):
  ∃m,z2t (z6l n s)∧z0k (z6l n s)=z0k s∧(z6l n s).segs[n]? = some m∧(z6l n s).segs.length=s.segs.length∧m.length≤l.length∧zp9 n 0 (z6l n s) m:=by
 unfold z6l;rw[z1h hn];exact zjy n l.length s l h hn (Nat.le_refl _) (fun j h1 h2=>by omega)
theorem zdy{s t:Sto}{n c:Int}(h:z2t s)(hc:z0z s n=(t,c,0)):z2t t∧z0k t=z0k s:=by
 unfold z0z at hc;split at hc
 ·rename_i hn;obtain⟨i,rfl⟩:=Int.eq_ofNat_of_zero_le hn.1;rw[Int.toNat_natCast] at hc;obtain⟨l,hl⟩:∃l,s.segs[i]? = some l:=⟨_,List.getElem?_eq_getElem (by omega)⟩;obtain⟨m,m1,m2,m3,m4,m5,m6⟩:=zil h hl;simp only[Prod.mk.injEq] at hc;obtain⟨rfl,_,_⟩:=hc;obtain⟨k1,k2⟩:=zo2 m1 i;exact⟨k1,k2.trans m2⟩
 ·simp at hc
theorem zge{s:Sto}{n:Int}(h:z2t s)(hn:0≤n∧n < s.segs.length):
  ((z0z s n).1.segs.length < s.segs.length→(z0z s n).2.1=(s.segs.getD n.toNat []).length) ∧
  (¬(z0z s n).1.segs.length < s.segs.length→(z0z s n).1.segs.length=s.segs.length∧z0z (z0z s n).1 n=((z0z s n).1,0,0)∧(((z0z s n).1.segs.getD n.toNat []).length:Int)+(z0z s n).2.1=(s.segs.getD n.toNat []).length ∧
    ∀j:Nat,j < ((z0z s n).1.segs.getD n.toNat []).length→z1j (z0z s n).1.slots n j=true):=by
 obtain⟨i,rfl⟩:=Int.eq_ofNat_of_zero_le hn.1;obtain⟨l,hl⟩:∃l,s.segs[i]? = some l:=⟨_,List.getElem?_eq_getElem (by omega)⟩;obtain⟨m,m1,m2,m3,m4,m5,m6⟩:=zil h hl
 have e:z0z s (i:Int)=(zed i (z6l i s),(l.length:Int) - m.length,0):=by
  unfold z0z;rw[if_pos hn,Int.toNat_natCast,z1h hl,z1h m3]
 rw[e,Int.toNat_natCast,z1h hl];by_cases hc:m.length=0∧i+1 < (z6l i s).segs.length
 ·have e2:zed i (z6l i s)=⟨(z6l i s).slots.map (mvS i),(z6l i s).segs.eraseIdx i⟩:=by unfold zed;rw[z1h m3,if_pos hc]
  rw[e2];have hlen:((z6l i s).segs.eraseIdx i).length < s.segs.length:=by rw[List.length_eraseIdx_of_lt (by omega)];omega
  exact⟨fun _=>by show(l.length:Int) - m.length=_;omega,fun hn=>absurd hlen hn⟩
 ·have e2:zed i (z6l i s)=z6l i s:=by unfold zed;rw[z1h m3,if_neg hc]
  rw[e2];refine⟨fun hlt=>absurd hlt (by show ¬(z6l i s).segs.length < _;omega),fun _=>⟨m4,?_,?_,?_⟩⟩
  ·show z0z (z6l i s) i=_
   have e3:z6l i (z6l i s)=z6l i s:=by
    show zf3 i ((z6l i s).segs.getD i []).length (z6l i s)=_;rw[z1h m3];exact zb3 i m.length (z6l i s) m (Nat.le_refl _) m6
   unfold z0z;rw[if_pos (by omega),Int.toNat_natCast,e3,e2,z1h m3,Int.sub_self]
  ·show(((z6l i s).segs.getD i []).length:Int)+((l.length:Int) - m.length)=_;rw[z1h m3];omega
  ·show ∀j:Nat,j < ((z6l i s).segs.getD i []).length→_;rw[z1h m3];exact fun j hj=>m6 j (Nat.zero_le _) hj
end Go.Proofs.YtmkhmejempcimaaGreatDoor
