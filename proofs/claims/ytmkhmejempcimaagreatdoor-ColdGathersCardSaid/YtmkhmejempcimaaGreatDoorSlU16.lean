/- Contracts; no condition but each theorem's own. -/
import Derived.Test.YtmkhmejempcimaaGreatDoorSlU13
set_option linter.unusedVariables false
set_option linter.unusedSimpArgs false
set_option maxHeartbeats 8000000
set_option maxRecDepth 100000
namespace Go.Proofs.YtmkhmejempcimaaGreatDoor
open Go.RowKit
structure z8z{α:Type}(P:List Value→α→Prop)(rs:List (List Value))(l:List α):Prop where
 len:rs.length=l.length
 at_:∀(i:Nat) (e:α),l[i]? = some e→∃cs:List Value,rs[i]? = some cs∧P cs e
section
variable {α:Type} {P Q:List Value→α→Prop} {rs us:List (List Value)} {l m:List α}
theorem z8z.nil:z8z P [] []:=⟨rfl,fun i e h=>by simp at h⟩
theorem z8z.imp(h:z8z P rs l)(hi:∀cs e,P cs e→Q cs e):z8z Q rs l:=⟨h.len,fun i e he=>by
 obtain⟨cs,h1,h2⟩:=h.at_ i e he;exact⟨cs,h1,hi _ _ h2⟩⟩
theorem z8z.mem(h:z8z P rs l){c:List Value}(hc:c∈rs):∃e,e∈l∧P c e:=by
 obtain⟨j,hj,rfl⟩:=List.getElem_of_mem hc;have hlt:j < l.length:=by rw[←h.len];exact hj
 obtain⟨d,hd,h5⟩:=h.at_ j _ (List.getElem?_eq_getElem hlt);rw[List.getElem?_eq_getElem hj] at hd;cases hd;exact⟨_,List.getElem_mem hlt,h5⟩
theorem z8z.snoc{c:List Value}{e:α}(h:z8z P rs l)(he:P c e):z8z P (rs++[c]) (l++[e]):=⟨by simp[h.len],fun i x hx=>by
 rcases Nat.lt_or_ge i l.length with h1|h1
 ·rw[List.getElem?_append_left h1] at hx;obtain⟨d,h2,h3⟩:=h.at_ i x hx;exact⟨d,by rw[List.getElem?_append_left (by rw[h.len];exact h1)];exact h2,h3⟩
 ·have:i=l.length:=by have:=(List.getElem?_eq_some_iff.1 hx).1;simp at this;omega
  subst this;rw[List.getElem?_append_right (Nat.le_refl _),Nat.sub_self] at hx;simp at hx;subst hx;exact⟨c,by rw[List.getElem?_append_right (by rw[h.len];exact Nat.le_refl _),h.len,Nat.sub_self];rfl,he⟩⟩
theorem z8z.set{c:List Value}{e:α}(h:z8z P rs l)(i:Nat)(he:P c e):z8z P (rs.set i c) (l.set i e):=⟨by simp[h.len],fun j x hx=>by
 rw[List.getElem?_set] at hx;by_cases hij:i=j
 ·subst hij;rw[if_pos rfl] at hx;split at hx
  ·rename_i hl;cases hx;exact⟨c,by rw[List.getElem?_set,if_pos rfl,if_pos (by rw[h.len];exact hl)],he⟩
  ·cases hx
 ·rw[if_neg hij] at hx;obtain⟨d,h2,h3⟩:=h.at_ j x hx;exact⟨d,by rw[List.getElem?_set,if_neg hij];exact h2,h3⟩⟩
end
theorem z65(e:Slt)(A1 A2 A3:Option Addr)(c1 c2 c3:Nat):∀u∈z1f e A1 c1 A2 c2 A3 c3,u.oneCell'=true:=fun u hu=>by
 simp[z1f] at hu;rcases hu with rfl|rfl|rfl|rfl|rfl|rfl|rfl|rfl|rfl|rfl <;> rfl
theorem z2v:9≠50∧108≠50∧110≠50:=by decide
theorem z3w:9≠41∧108≠41∧110≠41:=by decide
def z7g(w:World)(base mid:Nat)(cs:List Value)(e:Slt):Prop:=z24 w base cs e∧∀u∈cs,∀k,u.ownBlock=some k→k < mid
theorem z7g.fr{w w':World}{base mid:Nat}{S:List Nat}{cs:List Value}{e:Slt}(h:z7g w base mid cs e)(hf:Fr S w w')(hS:∀k,k∈S→mid≤k):z7g w' base mid cs e:=by
 obtain⟨⟨A1,c1,A2,c2,A3,c3,rfl,h1,h2,h3⟩,hb⟩:=h
 have nn:∀u∈z1f e A1 c1 A2 c2 A3 c3,∀k,u.ownBlock=some k→k∉S:=fun u hu k hk hm=>by
  have:=hb u hu k hk;have:=hS k hm;omega
 exact⟨⟨A1,c1,A2,c2,A3,c3,rfl,z05 h1 hf (nn _ (by simp[z1f])),z05 h2 hf (nn _ (by simp[z1f])),z05 h3 hf (nn _ (by simp[z1f]))⟩,hb⟩
theorem z7g.row{w w':World}{base mid base' T size n:Nat}{v:Value}{xs cs:List Value}{e:Slt}(h:z7g w base mid cs e)(ho:w.ownsRow base' T size v n xs)(hT:9≠T∧108≠T∧110≠T)(hf:Fr (z1o v) w w'):z7g w' base mid cs e:=
 ⟨h.1.row ho hT hf,h.2⟩
theorem z7g.more{w:World}{base mid mid':Nat}{cs:List Value}{e:Slt}(h:z7g w base mid cs e)(hm:mid≤mid'):z7g w base mid' cs e:=⟨h.1,fun u hu k hk=>Nat.lt_of_lt_of_le (h.2 u hu k hk) hm⟩
theorem z7g.base{w:World}{base base' mid:Nat}{cs:List Value}{e:Slt}(h:z7g w base mid cs e)(hb:base'≤base):z7g w base' mid cs e:=⟨h.1.base hb,h.2⟩
theorem z4i{w:World}{base e size n:Nat}{v:Value}{xs:List Value}(h:w.ownsRow base e size v n xs){k:Nat}(hk:v.ownBlock=some k):k < w.heap.size:=(h.lt k hk).2
theorem z24.i{w:World}{base:Nat}{cs:List Value}{e:Slt}(h:z24 w base cs e):z7g w base w.heap.size cs e:=by
 refine⟨h,?_⟩;obtain⟨A1,c1,A2,c2,A3,c3,rfl,h1,h2,h3⟩:=h;intro u hu k hk;simp[z1f] at hu;rcases hu with rfl|rfl|rfl|rfl|rfl|rfl|rfl|rfl|rfl|rfl
 ·cases hk
 ·cases hk
 ·cases hk
 ·cases hk
 ·exact z4i h1 hk
 ·exact z4i h2 hk
 ·exact z4i h3 hk
 ·cases hk
 ·cases hk
 ·cases hk
def z14(w:World)(base mid:Nat)(v:Value)(l:List Slt):Prop:=∃rs:List (List Value),z8z (z7g w base mid) rs l∧w.ownsRow base 50 10 v l.length rs.flatten
theorem z14.form{w:World}{base mid:Nat}{v:Value}{l:List Slt}(h:z14 w base mid v l):∃A c,v=.slice A l.length c:=by
 obtain⟨rs,_,ho⟩:=h;obtain⟨A,c,rfl,-⟩:=z02 ho;exact⟨A,c,rfl⟩
theorem z14.o{w:World}{base mid:Nat}{v:Value}{l:List Slt}(h:z14 w base mid v l):z3g w base v l:=by
 obtain⟨rs,h1,h2⟩:=h;exact⟨rs,h1.len,(h1.imp fun _ _ h=>h.1).at_,h2⟩
theorem z3g.i{w:World}{base:Nat}{v:Value}{l:List Slt}(h:z3g w base v l):z14 w base w.heap.size v l:=by
 obtain⟨rs,h1,h2,h3⟩:=h;exact⟨rs,(z8z.mk h1 h2).imp fun _ _ h=>h.i,h3⟩
theorem z14.nil(w:World)(base mid:Nat):z14 w base mid (.slice none 0 0) []:=⟨[],z8z.nil,World.ownsRow_nil _ _ _ _⟩
theorem z14.more{w:World}{base mid mid':Nat}{v:Value}{l:List Slt}(h:z14 w base mid v l)(hm:mid≤mid'):z14 w base mid' v l:=by
 obtain⟨rs,h1,h2⟩:=h;exact⟨rs,h1.imp fun _ _ h=>h.more hm,h2⟩
theorem z14.fr{w w':World}{base mid:Nat}{S:List Nat}{v:Value}{l:List Slt}(h:z14 w base mid v l)(hf:Fr S w w')(hS:∀k,k∈S→mid≤k)(hn:∀k,v.ownBlock=some k→k∉S):z14 w' base mid v l:=by
 obtain⟨rs,h1,h2⟩:=h;exact⟨rs,h1.imp fun _ _ h=>h.fr hf hS,z05 h2 hf hn⟩
theorem z14.go{w w':World}{base mid:Nat}{v:Value}{l:List Slt}(h:z14 w base mid v l)(hf:Fr [] w w'):z14 w' base mid v l:=h.fr hf (by simp) (by simp)
theorem z14.row{w w':World}{base mid base' T size n:Nat}{v u:Value}{xs:List Value}{l:List Slt}(h:z14 w base mid v l)(ho:w.ownsRow base' T size u n xs)(hT:(9≠T∧108≠T∧110≠T)∧50≠T)(hf:Fr (z1o u) w w'):z14 w' base mid v l:=by
 obtain⟨rs,h1,h2⟩:=h;exact⟨rs,h1.imp fun _ _ h=>h.row ho hT.1 hf,z05 h2 hf (z0i h2 ho hT.2)⟩
theorem z14.far{w:World}{base mid o T i:Nat}{v:Value}{cs:List Value}{l:List Slt}(h:z14 w base mid v l)(hw:Whole w o T cs)(hT:(T≠9∧T≠108∧T≠110)∧T≠50)(u:Value):z14 (w.setCell ⟨o,i,none⟩ u) base mid v l:=by
 obtain⟨rs,h1,h2⟩:=h;refine⟨rs,h1.imp fun cs e h=>?_,z0c _ h2 (z0g h2 hw hT.2)⟩;obtain⟨⟨A1,c1,A2,c2,A3,c3,rfl,a1,a2,a3⟩,hb⟩:=h;exact⟨⟨A1,c1,A2,c2,A3,c3,rfl,z0c _ a1 (z0g a1 hw hT.1.1),z0c _ a2 (z0g a2 hw hT.1.2.1),z0c _ a3 (z0g a3 hw hT.1.2.2)⟩,hb⟩
theorem z8u{w:World}{base mid:Nat}{rs:List (List Value)}{l:List Slt}(h:z8z (z7g w base mid) rs l):∀c∈rs,c.length=10:=fun c hc=>by
 obtain⟨e,_,h⟩:=h.mem hc;exact h.1.len
theorem zeg(n:Nat)(u:Value):∀(rs:List (List Value)) (i j:Nat) (cs:List Value),(∀c∈rs,c.length=n)→rs[i]? = some cs→j < n→rs.flatten.set (i * n+j) u=(rs.set i (cs.set j u)).flatten
 | [],i,j,cs,_,h,_=>by simp at h
 | r :: rs,0,j,cs,hl,h,hj=>by
  simp at h;subst h;have hr:=hl r (by simp);rw[Nat.zero_mul,Nat.zero_add,List.set_cons_zero,List.flatten_cons,List.flatten_cons,List.set_append_left _ _ (by omega)]
 | r :: rs,i+1,j,cs,hl,h,hj=>by
  have hr:=hl r (by simp);have e:(i+1) * n=i * n+n:=Nat.succ_mul i n;rw[List.set_cons_succ,List.flatten_cons,List.flatten_cons,List.set_append_right _ _ (by omega),show(i+1) * n+j - r.length=i * n+j from by omega];rw[zeg n u rs i j cs (fun c hc=>hl c (by simp[hc])) (by simpa using h) hj]
theorem zlw{w:World}{base e k n g c i j:Nat}{rs:List (List Value)}{cs:List Value}(h:w.ownsRow base e k (.slice (some ⟨g,0,none⟩) n c) n rs.flatten)(hl:∀x∈rs,x.length=k)(hi:rs[i]? = some cs)(hj:j < k)(u:Value):
  (w.setCell ⟨g,i * k+j,none⟩ u).ownsRow base e k (.slice (some ⟨g,0,none⟩) n c) n (rs.set i (cs.set j u)).flatten:=by
 obtain⟨cur,hw,h1,h2,h3,h4,h5,h6⟩:=z1i h;rw[←zeg k u rs i j cs hl hi hj,←h2];have:=z1x (n:=n) (hw.set_ (i * k+j) u) (by rw[List.length_set];exact h1) h3 h4 h5;rw[List.take_set] at this;exact this
theorem zim{w:World}{base e n g c i:Nat}{xs:List Value}(h:w.ownsRow base e 1 (.slice (some ⟨g,0,none⟩) n c) n xs)(hi:i < n)(u:Value):
  (w.setCell ⟨g,i,none⟩ u).ownsRow base e 1 (.slice (some ⟨g,0,none⟩) n c) n (xs.set i u):=by
 obtain⟨cur,hw,h1,h2,h3,h4,h5,h6⟩:=z1i h;rw[←h2];have:=z1x (n:=n) (hw.set_ i u) (by rw[List.length_set];exact h1) h3 h4 h5;rw[List.take_set,Nat.mul_one] at this;rw[Nat.mul_one];exact this
def z6x(w:World)(g o:Nat):List (Nat×Value)→World
 | []=>w
 | p :: l=>z6x (w.setCell ⟨g,o+p.1,none⟩ p.2) g o l
def z7i(cs:List Value):List (Nat×Value)→List Value
 | []=>cs
 | p :: l=>z7i (cs.set p.1 p.2) l
theorem zc7{base e k n g c i:Nat}:∀(ps:List (Nat×Value)) {w:World} {rs:List (List Value)} {cs:List Value},w.ownsRow base e k (.slice (some ⟨g,0,none⟩) n c) n rs.flatten→(∀x∈rs,x.length=k)→rs[i]? = some cs→(∀p∈ps,p.1 < k) →
  (z6x w g (i * k) ps).ownsRow base e k (.slice (some ⟨g,0,none⟩) n c) n (rs.set i (z7i cs ps)).flatten
 | [],w,rs,cs,h,hl,hi,hp=>by
  show w.ownsRow _ _ _ _ _ (rs.set i cs).flatten
  have e:rs.set i cs=rs:=by
   refine List.ext_getElem? fun j=>?_;rw[List.getElem?_set];by_cases hij:i=j
   ·subst hij;rw[if_pos rfl,if_pos (List.getElem?_eq_some_iff.1 hi).1,hi]
   ·rw[if_neg hij]
  rw[e];exact h
 | p :: ps,w,rs,cs,h,hl,hi,hp=>by
  have h1:=zlw h hl hi (hp p (.head _)) p.2;have hil:=(List.getElem?_eq_some_iff.1 hi).1;have hcs:=hl cs (List.mem_of_getElem? hi)
  have h2:=zc7 ps h1 (i:=i) (cs:=cs.set p.1 p.2) (fun x hx=>by
   rcases List.mem_or_eq_of_mem_set hx with hx|rfl
   ·exact hl x hx
   ·rw[List.length_set];exact hcs) (by rw[List.getElem?_set,if_pos rfl,if_pos hil]) (fun q hq=>hp q (.tail _ hq))
  rw[List.set_set] at h2;exact h2
theorem z48{g o:Nat}:∀(ps:List (Nat×Value)) (w:World),Fr [g] w (z6x w g o ps)
 | [],w=>Fr.refl _ _
 | p :: ps,w=>((Fr.refl [g] w).setCell (p:=⟨g,o+p.1,none⟩) (.inl (by simp)) p.2).trans (z48 ps _)
theorem z14.put{w:World}{base mid g c i:Nat}{l:List Slt}{e y:Slt}(h:z14 w base mid (.slice (some ⟨g,0,none⟩) l.length c) l)(he:l[i]? = some e)(ps:List (Nat×Value))(hp:∀p∈ps,p.1 < 10)
  (hy:∀w' cs,Fr [g] w w'→z7g w' base mid cs e→z7g w' base mid (z7i cs ps) y):z14 (z6x w g (i * 10) ps) base mid (.slice (some ⟨g,0,none⟩) (l.set i y).length c) (l.set i y):=by
 obtain⟨rs,h1,h2⟩:=h;obtain⟨cs,hcs,hE⟩:=h1.at_ i e he;have ho:=zc7 (i:=i) ps h2 (z8u h1) hcs hp;have ff:=z48 (g:=g) (o:=i * 10) ps w
 have hrow:∀cs e,z7g w base mid cs e→z7g (z6x w g (i * 10) ps) base mid cs e:=fun cs e h=>h.row h2 z2v (by
  show Fr (z1o (.slice (some ⟨g,0,none⟩) l.length c)) _ _;have:z1o (.slice (some ⟨g,0,none⟩) l.length c)=[g]:=rfl;rw[this];exact ff)
 refine⟨rs.set i (z7i cs ps),(h1.imp hrow).set i (hy _ _ ff (hrow _ _ hE)),?_⟩;rw[List.length_set];exact ho
def Apart(vs:List Value):Prop:=∀(i j:Nat) (u v:Value),i≠j→vs[i]? = some u→vs[j]? = some v→∀k,u.ownBlock=some k→v.ownBlock≠some k
theorem Apart.snoc{vs:List Value}{v:Value}(h:Apart vs)(hv:∀u∈vs,∀k,u.ownBlock=some k→v.ownBlock≠some k):Apart (vs++[v]):=by
 intro i j a b hij ha hb k hk;rcases Nat.lt_or_ge i vs.length with h1|h1
 ·rw[List.getElem?_append_left h1] at ha;rcases Nat.lt_or_ge j vs.length with h2|h2
  ·rw[List.getElem?_append_left h2] at hb;exact h i j a b hij ha hb k hk
  ·rw[List.getElem?_append_right h2] at hb
   have:b=v:=by
    have:=List.mem_of_getElem? hb;simpa using this
   subst this;exact hv a (List.mem_of_getElem? ha) k hk
 ·rw[List.getElem?_append_right h1] at ha
  have hav:a=v:=by
   have:=List.mem_of_getElem? ha;simpa using this
  have hi0:i - vs.length < 1:=by have:=(List.getElem?_eq_some_iff.1 ha).1;simpa using this
  subst hav;rcases Nat.lt_or_ge j vs.length with h2|h2
  ·rw[List.getElem?_append_left h2] at hb;exact fun hb2=>hv b (List.mem_of_getElem? hb) k hb2 hk
  ·rw[List.getElem?_append_right h2] at hb;have hj0:j - vs.length < 1:=by have:=(List.getElem?_eq_some_iff.1 hb).1;simpa using this
   omega
theorem Apart.set{vs:List Value}{n:Nat}{v:Value}(h:Apart vs)(hv:∀(j:Nat) (u:Value),j≠n→vs[j]? = some u→∀k,u.ownBlock=some k→v.ownBlock≠some k):Apart (vs.set n v):=by
 intro i j a b hij ha hb k hk;rw[List.getElem?_set] at ha hb;by_cases h1:n=i
 ·rw[if_pos h1] at ha;have:v=a:=by split at ha;exact Option.some.inj ha;cases ha
  subst this;rw[if_neg (by omega)] at hb;exact fun hb2=>hv j b (by omega) hb k hb2 hk
 ·rw[if_neg h1] at ha;by_cases h2:n=j
  ·rw[if_pos h2] at hb;have:v=b:=by split at hb;exact Option.some.inj hb;cases hb
   subst this;exact hv i a (by omega) ha k hk
  ·rw[if_neg h2] at hb;exact h i j a b hij ha hb k hk
def z44(w:World)(base:Nat)(v:Value)(ls:List (List ByteArray)):Prop:=∃vs:List Value,z6h (TxO w base) vs ls∧Apart vs∧w.ownsRow base 41 1 v ls.length vs
theorem z44.form{w:World}{base:Nat}{v:Value}{ls:List (List ByteArray)}(h:z44 w base v ls):∃A c,v=.slice A ls.length c:=by
 obtain⟨vs,_,_,ho⟩:=h;obtain⟨A,c,rfl,-⟩:=z02 ho;exact⟨A,c,rfl⟩
theorem z44.o{w:World}{base:Nat}{v:Value}{ls:List (List ByteArray)}(h:z44 w base v ls):zmw w base v ls:=by
 obtain⟨vs,h1,_,h3⟩:=h;exact⟨vs,h1,h3⟩
theorem z44.nil(w:World)(base:Nat):z44 w base (.slice none 0 0) []:=⟨[],z6h.nil,fun i j u v _ h=>by simp at h,World.ownsRow_nil _ _ _ _⟩
theorem z44.go{w w':World}{base:Nat}{v:Value}{ls:List (List ByteArray)}(h:z44 w base v ls)(hf:Fr [] w w'):z44 w' base v ls:=by
 obtain⟨vs,h1,h2,h3⟩:=h;exact⟨vs,h1.imp fun _ _ h=>z05 h hf (by simp),h2,z05 h3 hf (by simp)⟩
theorem z44.base{w:World}{base base':Nat}{v:Value}{ls:List (List ByteArray)}(h:z44 w base v ls)(hb:base'≤base):z44 w base' v ls:=by
 obtain⟨vs,h1,h2,h3⟩:=h;exact⟨vs,h1.imp fun _ _ h=>z09 h hb,h2,z09 h3 hb⟩
theorem z44.row{w w':World}{base base' T size n:Nat}{v u:Value}{xs:List Value}{ls:List (List ByteArray)}(h:z44 w base v ls)(ho:w.ownsRow base' T size u n xs)(hT:9≠T∧41≠T)(hf:Fr (z1o u) w w'):z44 w' base v ls:=by
 obtain⟨vs,h1,h2,h3⟩:=h;exact⟨vs,h1.imp fun _ _ h=>z05 h hf (z0i h ho hT.1),h2,z05 h3 hf (z0i h3 ho hT.2)⟩
theorem z44.far{w:World}{base o T i:Nat}{v:Value}{cs:List Value}{ls:List (List ByteArray)}(h:z44 w base v ls)(hw:Whole w o T cs)(hT:T≠9∧T≠41)(u:Value):z44 (w.setCell ⟨o,i,none⟩ u) base v ls:=by
 obtain⟨vs,h1,h2,h3⟩:=h;exact⟨vs,h1.imp fun _ _ h=>z0c _ h (z0g h hw hT.1),h2,z0c _ h3 (z0g h3 hw hT.2)⟩
theorem z44.snoc{w w':World}{base n:Nat}{v v' x:Value}{l:List ByteArray}{ls:List (List ByteArray)}{vs:List Value}(hr:z6h (TxO w base) vs ls)(ha:Apart vs)(hx:TxO w base x l)(hax:∀u∈vs,∀k,u.ownBlock=some k→x.ownBlock≠some k)(hn:ls.length=n)(ho:w.ownsRow base 41 1 v n vs)(hg:w.grownBy w' v.ownBlock)(ho':w'.ownsRow base 41 1 v' (n+1) (vs++[x])):z44 w' base v' (ls++[l]):=
 ⟨vs++[x],(hr.imp (fun _ _ h=>h.grown ho hg)).snoc (hx.grown ho hg),ha.snoc hax,by rw[List.length_append,hn];exact ho'⟩
theorem z44.put{w w1:World}{base g c n:Nat}{u x:Value}{l:List ByteArray}{ls:List (List ByteArray)}{vs:List Value}(hr:z6h (TxO w base) vs ls)(ha:Apart vs)(hu:vs[n]? = some u)
  (ho:w.ownsRow base 41 1 (.slice (some ⟨g,0,none⟩) ls.length c) ls.length vs) (hf:Fr (z1o u) w w1) (hx:TxO w1 base x l) (hxb:∀k,x.ownBlock=some k→k∈z1o u∨w.heap.size≤k):
  z44 (w1.setCell ⟨g,n,none⟩ x) base (.slice (some ⟨g,0,none⟩) (ls.set n l).length c) (ls.set n l):=by
 obtain⟨hnl,-⟩:=List.getElem?_eq_some_iff.1 hu;have hnl':n < ls.length:=by rw[←hr.len];exact hnl
 obtain⟨l0,hl0⟩:∃l0,ls[n]? = some l0:=⟨_,List.getElem?_eq_getElem hnl'⟩;obtain⟨u',hu',hU⟩:=hr.at_ n l0 hl0;rw[hu] at hu';cases hu'
 have memL:∀ {v:Value} {k:Nat},k∈z1o v→v.ownBlock=some k:=fun {v k} hk=>by
  unfold z1o at hk;split at hk
  ·simp at hk;subst hk;rfl
  ·cases hk
 have ho1:=z05 ho hf (z0i ho hU (by decide))
 have ht:∀ {v:Value} {m:List ByteArray},TxO w1 base v m→TxO (w1.setCell ⟨g,n,none⟩ x) base v m:=fun {v m} h=>z0c (p:=⟨g,n,none⟩) x h (fun he=>by
  rcases z4j h ho1 (by decide) with h1|h1
  ·rw[h1] at he;cases he
  ·exact h1 (he.trans rfl))
 refine⟨vs.set n x,⟨by simp[hr.len],fun j y hy=>?_⟩,ha.set (fun j v hj hv k hk=>?_),?_⟩
 ·rw[List.getElem?_set] at hy;by_cases hij:n=j
  ·subst hij;rw[if_pos rfl,if_pos hnl'] at hy;cases hy;exact⟨x,by rw[List.getElem?_set,if_pos rfl,if_pos hnl],ht hx⟩
  ·rw[if_neg hij] at hy;obtain⟨v,h2,h3⟩:=hr.at_ j y hy;refine⟨v,by rw[List.getElem?_set,if_neg hij];exact h2,ht (z05 h3 hf fun k hk hm=>?_)⟩;exact ha n j u v (by omega) hu h2 k (memL hm) hk
 ·intro hxk;rcases hxb k hxk with hm|hm
  ·exact ha n j u v (by omega) hu hv k (memL hm) hk
  ·have hjl:j < ls.length:=by rw[←hr.len];exact(List.getElem?_eq_some_iff.1 hv).1
   obtain⟨v',h2,h3⟩:=hr.at_ j _ (List.getElem?_eq_getElem hjl);rw[hv] at h2;cases h2;have:=z4i h3 hk;omega
 ·rw[List.length_set];exact zim ho1 hnl' x
end Go.Proofs.YtmkhmejempcimaaGreatDoor
