/- Contracts; no condition but each theorem's own. -/
import Derived.Test.YtmkhmejempcimaaGreatDoorSlU5
import Derived.ChangeAlike
import Derived.Lib.AppendZeros
import Derived.Lib.AppendZerosOnto
import Derived.StillTailTactics
set_option linter.unusedVariables false
set_option linter.unusedSimpArgs false
set_option maxHeartbeats 8000000
set_option maxRecDepth 100000
namespace Go.Proofs.YtmkhmejempcimaaGreatDoor
open Lib (hid)
open Go.Proofs.Tryz (prog)
open Go.RowKit
structure z6h{α:Type}(P:Value→α→Prop)(vs:List Value)(l:List α):Prop where
 len:vs.length=l.length
 at_:∀(i:Nat) (x:α),l[i]? = some x→∃v,vs[i]? = some v∧P v x
theorem z6h.nil{α:Type}{P:Value→α→Prop}:z6h P [] []:=⟨rfl,fun i x h=>by simp at h⟩
theorem z6h.imp{α:Type}{P Q:Value→α→Prop}{vs:List Value}{l:List α}(h:z6h P vs l)(hi:∀v x,P v x→Q v x):z6h Q vs l:=
 ⟨h.len,fun i x hx=>by
  obtain⟨v,h1,h2⟩:=h.at_ i x hx;exact⟨v,h1,hi _ _ h2⟩⟩
theorem z6h.append{α:Type}{P:Value→α→Prop}{vs us:List Value}{l m:List α}(h:z6h P vs l)(k:z6h P us m):z6h P (vs++us) (l++m):=
 ⟨by simp[h.len,k.len],fun i x hx=>by
  rcases Nat.lt_or_ge i l.length with h1|h1
  ·rw[List.getElem?_append_left h1] at hx;obtain⟨v,h2,h3⟩:=h.at_ i x hx;exact⟨v,by rw[List.getElem?_append_left (by rw[h.len];exact h1)];exact h2,h3⟩
  ·rw[List.getElem?_append_right h1] at hx;obtain⟨v,h2,h3⟩:=k.at_ _ x hx;exact⟨v,by rw[List.getElem?_append_right (by rw[h.len];exact h1),h.len];exact h2,h3⟩⟩
theorem z6h.one{α:Type}{P:Value→α→Prop}{v:Value}{x:α}(h:P v x):z6h P [v] [x]:=
 ⟨rfl,fun i y hy=>by
  cases i with
  | zero=>simp at hy;subst hy;exact⟨v,rfl,h⟩
  | succ i=>simp at hy⟩
theorem z6h.snoc{α:Type}{P:Value→α→Prop}{vs:List Value}{l:List α}{v:Value}{x:α}(h:z6h P vs l)(hv:P v x):z6h P (vs++[v]) (l++[x]):=h.append (z6h.one hv)
theorem z6h.mem{α:Type}{P:Value→α→Prop}{vs:List Value}{l:List α}(h:z6h P vs l){v:Value}(hv:v∈vs):∃x,x∈l∧P v x:=by
 obtain⟨i,hi⟩:=List.getElem?_of_mem hv;have hlt:=(List.getElem?_eq_some_iff.1 hi).1;obtain⟨u,h1,h2⟩:=h.at_ i _ (List.getElem?_eq_getElem (show i < l.length by rw[←h.len];exact hlt));rw[hi] at h1;cases h1;exact⟨_,List.getElem_mem _,h2⟩
def TxV(w:World)(B:Nat)(v:Value)(l:List ByteArray):Prop:=∃A c,v=.slice A l.length c∧Sl w B 1 (.slice A l.length c) l.length (z04 l)
def TxO(w:World)(base:Nat)(v:Value)(l:List ByteArray):Prop:=w.ownsRow base 9 1 v l.length (z04 l)
theorem TxV.fr{w w':World}{B:Nat}{S:List Nat}{v:Value}{l:List ByteArray}(h:TxV w B v l)(hf:Fr S w w')(hB:B≤w.heap.size)(hS:∀k,k∈S→B≤k):TxV w' B v l:=by
 obtain⟨A,c,e,h⟩:=h;exact⟨A,c,e,h.fr hf hB hS⟩
theorem TxV.more{w:World}{B B':Nat}{v:Value}{l:List ByteArray}(h:TxV w B v l)(hB:B≤B'):TxV w B' v l:=by
 obtain⟨A,c,e,h⟩:=h;exact⟨A,c,e,h.more hB⟩
theorem TxO.v{w:World}{base:Nat}{v:Value}{l:List ByteArray}(h:TxO w base v l):TxV w w.heap.size v l:=by
 obtain⟨A,c,rfl,-⟩:=z02 h;exact⟨A,c,rfl,z0o h⟩
theorem TxV.one{w:World}{B:Nat}{v:Value}{l:List ByteArray}(h:TxV w B v l):v.oneCell'=true:=by obtain⟨A,c,rfl,-⟩:=h;rfl
theorem TxO.one{w:World}{B:Nat}{v:Value}{l:List ByteArray}(h:TxO w B v l):v.oneCell'=true:=h.v.one
def z2p(w:World)(B:Nat)(v:Value)(ls:List (List ByteArray)):Prop:=∃A c,∃vs:List Value,v=.slice A ls.length c∧z6h (TxV w B) vs ls∧Sl w B 1 v ls.length vs
def zmw(w:World)(base:Nat)(v:Value)(ls:List (List ByteArray)):Prop:=∃vs:List Value,z6h (TxO w base) vs ls∧w.ownsRow base 41 1 v ls.length vs
theorem z2p.form{w:World}{B:Nat}{v:Value}{ls:List (List ByteArray)}(h:z2p w B v ls):∃A c,v=.slice A ls.length c:=by obtain⟨A,c,vs,rfl,_⟩:=h;exact⟨A,c,rfl⟩
theorem zmw.v{w:World}{base:Nat}{v:Value}{ls:List (List ByteArray)}(h:zmw w base v ls):z2p w w.heap.size v ls:=by
 obtain⟨vs,hr,ho⟩:=h;obtain⟨A,c,rfl,-⟩:=z02 ho;exact⟨A,c,vs,rfl,hr.imp (fun _ _ h=>h.v),z0o ho⟩
theorem z2p.fr{w w':World}{B:Nat}{S:List Nat}{v:Value}{ls:List (List ByteArray)}(h:z2p w B v ls)(hf:Fr S w w')(hB:B≤w.heap.size)(hS:∀k,k∈S→B≤k):z2p w' B v ls:=by
 obtain⟨A,c,vs,e,hr,hs⟩:=h;exact⟨A,c,vs,e,hr.imp (fun _ _ h=>h.fr hf hB hS),hs.fr hf hB hS⟩
theorem z2p.more{w:World}{B B':Nat}{v:Value}{ls:List (List ByteArray)}(h:z2p w B v ls)(hB:B≤B'):z2p w B' v ls:=by
 obtain⟨A,c,vs,e,hr,hs⟩:=h;exact⟨A,c,vs,e,hr.imp (fun _ _ h=>h.more hB),hs.more hB⟩
theorem z2p.nil(w:World)(B:Nat):z2p w B (.slice none 0 0) []:=⟨none,0,[],rfl,z6h.nil,Sl.nil _ _ _⟩
theorem znq:9≠41:=by decide
theorem TxO.grown{w w':World}{base base' n:Nat}{v x:Value}{l:List ByteArray}{xs:List Value}(h:TxO w base x l)(ho:w.ownsRow base' 41 1 v n xs)(hg:w.grownBy w' v.ownBlock):TxO w' base x l:=
 z05 h (z1q hg) (fun k hk hm=>by
  rcases z4j h ho znq with h1|h1
  ·rw[h1] at hk;cases hk
  ·refine h1 ?_;rw[hk];unfold z1o at hm;split at hm
   ·simp at hm;subst hm;rfl
   ·cases hm)
theorem z2p.at_{w:World}{B:Nat}{A:Option Addr}{c:Nat}{ls:List (List ByteArray)}(h:z2p w B (.slice A ls.length c) ls)(hn:0 < ls.length):
  ∃b off,A=some ⟨b,off,none⟩∧b < B∧ls.length≤c∧c≤maxLen∧∀(i:Nat) (l:List ByteArray),ls[i]? = some l→∃A1 c1,w.cell? ⟨b,off+i,none⟩=some (.slice A1 l.length c1)∧Sl w B 1 (.slice A1 l.length c1) l.length (z04 l):=by
 obtain⟨A',c',vs,hv,hr,hs⟩:=h;cases hv;obtain⟨b,off,rfl,hb,hc,hm,hcell⟩:=hs.at_ hn;refine⟨b,off,rfl,hb,hc,hm,fun i l hl=>?_⟩;obtain⟨v,h1,A1,c1,rfl,h2⟩:=hr.at_ i l hl;exact⟨A1,c1,hcell i _ h1,h2⟩
theorem z9t:(prog.info? 41).map (fun i=>(i.zero,i.size,i.bytes))=some (some (.slice none 0 0),1,24):=by kernel_rfl
theorem z6s(n:Nat)(xs:List Value)(A:Option Addr)(c:Nat)(w:World)(B:Nat)(hl:n≤1000000)(hB:B≤w.heap.size)(h:Sl w B 1 (.slice A n c) n xs)(h1:∀u∈xs,u.oneCell'=true):
  Calls prog 40 #[.slice A n c] w (z6u 9 1 n xs w):=by
 obtain⟨i0,hi,hz0,hz1,hz2⟩:=info_parts z2k;have q29:∀(w:World) (a:Option Addr) (n c n' c':Nat),(binOp .eql 41 (.slice a n c) (.slice none n' c')).run prog w=.ok (.bool a.isNone) w:=fun w a n c n' c'=>Lib.run_eql_slice_nil w _ _ a n c n' c' Tryz.underlying41;cases A with
 | none=>
  obtain⟨A',c',e,hlx,hc,hm,hr⟩:=h;cases e
  have h0:n=0:=by
   rcases Nat.eq_zero_or_pos n with h0|h0
   ·exact h0
   ·obtain⟨_,_,h,_⟩:=hr h0;cases h
  subst h0;obtain rfl:xs=[]:=List.eq_nil_of_length_eq_zero (by omega);clear hr h1;go_enter Tryz.func40,Tryz.ntmps40;go_wp2;go_ret;exact⟨_,rfl,World.ownsRow_nil _ _ _ _,Fr.refl [] w⟩
 | some ad=>
  have hO:=(World.ownsRow_lit (base:=w.heap.size) (e:=9) (size:=1) w #[] 0 (Nat.le_refl _) (Nat.zero_le _) rfl);have hsl:=h.fr ((Fr.refl [] w).alloc (.cells #[] 9)) hB (by simp);have H1:=hid h1;have HS:=hid hsl;clear h h1 hsl;go_enter Tryz.func40,Tryz.ntmps40;go_wp2_with (at_builtin;refine z0b _ rfl _ _ 41 rfl w.heap.size 9 i0 _ 1 16 Tryz.underlying41 hi hz0 hz1 hz2 rfl (by decide) _ _ _ rfl hO B _ n xs rfl HS.out H1.out ?c1 ?c2 (by simp) ?_)
  case c1=>unfold maxLen;omega
  case c2=>omega
  intro v' w2 hown' hgrow hat;go_wp2;go_ret;refine⟨_,rfl,by simpa using hown',((Fr.refl [] w).alloc _).grown hgrow (fun k hk=>?_)⟩;simp[Value.ownBlock] at hk;subst hk;exact .inr (Nat.le_refl _)
def zom(g:Nat)(lb:Array Value)(p:ByteArray→Bool)(B:Nat)(w:World):Prop:=
 ∀W (x:ByteArray),FrB [] B w W→Calls prog g (#[.string x]++lb) W fun e w'=>e=.returned (.bool (p x))∧Fr [] W w'
theorem zkr(g:Nat)(lb:Array Value)(eg:∀args w,(callFunc g args).run prog w=.ok (.enter g args) w)(p:ByteArray→Bool)(D:Nat)(l:List ByteArray)(A:Option Addr)(c B:Nat)(w:World)(hp:zom g lb p D w)(hl:l.length≤281474976710656)(hB:B≤w.heap.size)
  (hsl:Sl w B 1 (.slice A l.length c) l.length (z04 l)):
  Calls prog 119 #[.slice A l.length c,.func (Fn.func g) #[] lb] w fun e w'=>e=.returned (.int .i64 (z2w p l))∧Fr [] w w':=by
 have HS:=hid hsl;have HP:=hid hp;clear hsl hp;go_enter Tryz.func119,Tryz.ntmps119;go_wp2;go_loopg [5,8] l.length (fun g u i wr=>∃(k:Nat),g=l.length - k∧k≤l.length∧i=.int .i64 k∧(∀j t,j < k→l[j]? = some t→p t=false)∧Fr [] w wr)
 case atStart=>exact⟨0,rfl,Nat.zero_le _,rfl,fun j t hj=>absurd hj (Nat.not_lt_zero _),Fr.refl _ _⟩
 case round=>
  obtain⟨k,rfl,hk,rfl,hno,hf⟩:=hrel;by_cases hlt:k < l.length
  ·obtain⟨b,off,rfl,hb,hc,hm,hcell⟩:=HS.out.at_ (by omega);obtain⟨s,hs⟩:∃s,l[k]? = some s:=⟨_,List.getElem?_eq_getElem hlt⟩;have hc1:wr.cell? ⟨b,off+k,none⟩=some (.string s):=hf.cell (hcell k _ (z0x l k s hs)) (by simp);have L:=hid (fun W (hW:Fr [] wr W)=>HP.out W s ((hf.toB D).trans (hW.toB D)));have HF:=hid hf;have F1:=hid (Fr.refl [] wr);by_cases hq:p s=true
   ·have E:=hid (z1l hno hs hq);rw[hq] at L;clear hno hcell hs hq hf;go_wp2_with fail;refine(L.out _ F1.out).mono ?_;rintro e w1 ⟨rfl,h1⟩;go_wp2;go_ret;rw[E.out];exact⟨rfl,HF.out.trans h1⟩
   ·have hq':p s=false:=by simpa using hq
    rw[hq'] at L
    have N:=hid (fun j t (hj:j < k+1) (ht:l[j]? = some t)=>(show p t=false by
     rcases Nat.lt_or_ge j k with h|h
     ·exact hno j t h ht
     ·have e:j=k:=by omega
      subst e;rw[hs] at ht;cases ht;exact hq'))
    clear hno hcell hs hq hq' hf;go_wp2_with fail;refine(L.out _ F1.out).mono ?_;rintro e w1 ⟨rfl,h1⟩;go_wp2;go_roundg (l.length - (k+1))
    case measure=>omega
    case rel=>exact⟨k+1,rfl,by omega,rfl,N.out,HF.out.trans h1⟩
  ·have E:=hid (z1z (q:=p) (l:=l) (fun j t ht=>hno j t (by have:=(List.getElem?_eq_some_iff.1 ht).1;omega) ht));clear hno;go_wp2;go_ret;rw[E.out];exact⟨rfl,hf⟩
theorem zg2(n:Nat)(xs:List Value)(A:Option Addr)(c:Nat)(w:World)(B:Nat)(hl:n≤1000000)(hB:B≤w.heap.size)(h:Sl w B 2 (.slice A n c) n xs)(h1:∀u∈xs,u.oneCell'=true):
  Calls prog 69 #[.slice A n c] w (z6u 108 2 n xs w):=by
 obtain⟨i0,hi,hz0,hz1,hz2⟩:=info_parts zej;have q29:∀(w:World) (a:Option Addr) (n c n' c':Nat),(binOp .eql 43 (.slice a n c) (.slice none n' c')).run prog w=.ok (.bool a.isNone) w:=fun w a n c n' c'=>Lib.run_eql_slice_nil w _ _ a n c n' c' Tryz.underlying43;cases A with
 | none=>
  obtain⟨A',c',e,hlx,hc,hm,hr⟩:=h;cases e
  have h0:n=0:=by
   rcases Nat.eq_zero_or_pos n with h0|h0
   ·exact h0
   ·obtain⟨_,_,h,_⟩:=hr h0;cases h
  subst h0;obtain rfl:xs=[]:=List.eq_nil_of_length_eq_zero (by omega);clear hr h1;go_enter Tryz.func69,Tryz.ntmps69;go_wp2;go_ret;exact⟨_,rfl,World.ownsRow_nil _ _ _ _,Fr.refl [] w⟩
 | some ad=>
  have hO:=(World.ownsRow_lit (base:=w.heap.size) (e:=108) (size:=2) w #[] 0 (Nat.le_refl _) (Nat.zero_le _) rfl);have hsl:=h.fr ((Fr.refl [] w).alloc (.cells #[] 108)) hB (by simp);have H1:=hid h1;have HS:=hid hsl;clear h h1 hsl;go_enter Tryz.func69,Tryz.ntmps69;go_wp2_with (at_builtin;refine z0b _ rfl _ _ 43 rfl w.heap.size 108 i0 _ 2 32 Tryz.underlying43 hi hz0 hz1 hz2 rfl (by decide) _ _ _ rfl hO B _ n xs rfl HS.out H1.out ?c1 ?c2 (by simp) ?_)
  case c1=>unfold maxLen;omega
  case c2=>omega
  intro v' w2 hown' hgrow hat;go_wp2;go_ret;refine⟨_,rfl,by simpa using hown',((Fr.refl [] w).alloc _).grown hgrow (fun k hk=>?_)⟩;simp[Value.ownBlock] at hk;subst hk;exact .inr (Nat.le_refl _)
theorem zgc(n:Nat)(xs:List Value)(A:Option Addr)(c:Nat)(w:World)(B:Nat)(hl:n≤1000000)(hB:B≤w.heap.size)(h:Sl w B 2 (.slice A n c) n xs)(h1:∀u∈xs,u.oneCell'=true):
  Calls prog 70 #[.slice A n c] w (z6u 110 2 n xs w):=by
 obtain⟨i0,hi,hz0,hz1,hz2⟩:=info_parts zbf;have q29:∀(w:World) (a:Option Addr) (n c n' c':Nat),(binOp .eql 44 (.slice a n c) (.slice none n' c')).run prog w=.ok (.bool a.isNone) w:=fun w a n c n' c'=>Lib.run_eql_slice_nil w _ _ a n c n' c' Tryz.underlying44;cases A with
 | none=>
  obtain⟨A',c',e,hlx,hc,hm,hr⟩:=h;cases e
  have h0:n=0:=by
   rcases Nat.eq_zero_or_pos n with h0|h0
   ·exact h0
   ·obtain⟨_,_,h,_⟩:=hr h0;cases h
  subst h0;obtain rfl:xs=[]:=List.eq_nil_of_length_eq_zero (by omega);clear hr h1;go_enter Tryz.func70,Tryz.ntmps70;go_wp2;go_ret;exact⟨_,rfl,World.ownsRow_nil _ _ _ _,Fr.refl [] w⟩
 | some ad=>
  have hO:=(World.ownsRow_lit (base:=w.heap.size) (e:=110) (size:=2) w #[] 0 (Nat.le_refl _) (Nat.zero_le _) rfl);have hsl:=h.fr ((Fr.refl [] w).alloc (.cells #[] 110)) hB (by simp);have H1:=hid h1;have HS:=hid hsl;clear h h1 hsl;go_enter Tryz.func70,Tryz.ntmps70;go_wp2_with (at_builtin;refine z0b _ rfl _ _ 44 rfl w.heap.size 110 i0 _ 2 24 Tryz.underlying44 hi hz0 hz1 hz2 rfl (by decide) _ _ _ rfl hO B _ n xs rfl HS.out H1.out ?c1 ?c2 (by simp) ?_)
  case c1=>unfold maxLen;omega
  case c2=>omega
  intro v' w2 hown' hgrow hat;go_wp2;go_ret;refine⟨_,rfl,by simpa using hown',((Fr.refl [] w).alloc _).grown hgrow (fun k hk=>?_)⟩;simp[Value.ownBlock] at hk;subst hk;exact .inr (Nat.le_refl _)
theorem z6m:(prog.info? 74).map (fun i=>(i.zero,i.size,i.bytes))=some (some (.agg #[.string ⟨#[]⟩,.int .i64 0,.string ⟨#[]⟩,.slice none 0 0,.slice none 0 0,.slice none 0 0,.int .i64 0]),7,120):=by kernel_rfl
attribute [local go_sem] z0p
theorem zbt(n:Nat)(w:World)(hn:n * 16≤140737488355328):
  Calls prog 81 #[.slice none 0 0,.int .i64 n] w (z6u 9 1 0 [] w):=by
 obtain⟨i0,hi,hz0,hz1,hz2⟩:=info_parts z2k;by_cases h0:n=0
 ·subst h0;go_enter Tryz.func81,Tryz.ntmps81;go_wp2;go_ret;exact⟨_,rfl,World.ownsRow_nil _ _ _ _,Fr.refl [] w⟩
 ·have h4:(n:Int) > 0:=by omega
  have hold:(Builtin.firstCells i0.size 0 (.slice none 0 0)).run prog w.drew=.ok ([]:List Value).toArray w.drew:=run_firstCells_none w.drew i0.size 0 0 0
  have hrz:∀ty,(Builtin.append_ #[41,3] ty #[.slice none 0 0,.int .i64 (n:Int)]).run prog w=.ok (.slice (some ⟨w.heap.size,0,none⟩) (0+n) (grownCap w (0+n) 0 9)) (w.drew.alloc (.cells (([]:List Value).toArray++Builtin.zeroCells (Value.string ⟨#[]⟩).cells n++Builtin.zeroCells (Value.string ⟨#[]⟩).cells (grownCap w (0+n) 0 9 - (0+n))) 9)):=fun ty=>
   Lib.run_append_grow_zeros w 41 3 ty 9 i0 _ .i64 .i64 Tryz.underlying41 Tryz.underlying3 hi hz0 none 0 0 [] hold n (by omega) (by omega) (by omega) (by omega) (by rw[hz2];omega) (by have:=growslice_fits (need:=0+n) (old:=0) (bytes:=i0.bytes) (by omega) (by rw[hz2];omega);exact this)
  have hG:grownCap w (0+n) 0 9≤maxLen:=grownCap_le_maxLen w _ _ _ (by unfold maxLen;omega);have hGe:0+n≤grownCap w (0+n) 0 9:=grownCap_ge w _ _ _;generalize grownCap w (0+n) 0 9=G at *
  have hO:(w.alloc (.cells (Builtin.zeroCells #[Value.string ⟨#[]⟩] n++Builtin.zeroCells #[Value.string ⟨#[]⟩] (G - n)) 9)).drew.ownsRow w.heap.size 9 1 (.slice (some ⟨w.heap.size,0,none⟩) 0 G) 0 []:=
   World.ownsRow_made (base:=w.heap.size) (e:=9) (size:=1) w (Builtin.zeroCells #[Value.string ⟨#[]⟩] n++Builtin.zeroCells #[Value.string ⟨#[]⟩] (G - n)) G (Nat.le_refl _) hG (by simp[Builtin.zeroCells];omega)
  have HO:=hid hO;have hG2:G≤9223372036854775807:=by unfold maxLen at hG;omega
  clear hO hG h0 hold;go_enter Tryz.func81,Tryz.ntmps81;go_wp2_with (at_builtin;refine Lib.wpList_append_run _ rfl _ _ _ _ rfl _ _ rfl rfl _ _ (hrz _) ?_);go_ret;exact⟨_,rfl,HO.out,((Fr.refl [] w).drew).alloc _⟩
def z3c(a b:List ByteArray)(k:Nat):List ByteArray:=if k=0 then [] else if k=1 then a else a++b
theorem z6p(a b:List ByteArray)(v1 v2:Value)(g c:Nat)(w:World)(B:Nat)(ha:a.length≤256)(hb:b.length≤8796093021952)(hc:2≤c)(hc2:c≤1000)(hB:B≤w.heap.size)(h1:Sl w B 1 v1 a.length (z04 a))(h2:Sl w B 1 v2 b.length (z04 b))
  (g0:w.cell? ⟨g,0,none⟩=some v1) (g1:w.cell? ⟨g,1,none⟩=some v2):
  Calls prog 53 #[.slice (some ⟨g,0,none⟩) 2 c] w (z6u 9 1 (a++b).length (z04 (a++b)) w):=by
 obtain⟨i0,hi,hz0,hz1,hz2⟩:=info_parts z2k;obtain⟨A1,c1,rfl,_⟩:=id h1;obtain⟨A2,c2,rfl,_⟩:=id h2;have H1:=hid h1;have H2:=hid h2;have G0:=hid g0;have G1:=hid g1;have hgl:g < w.heap.size:=World.block_lt_of_cell? w _ g0;clear h1 h2;go_enter Tryz.func53,Tryz.ntmps53;go_wp2;go_loopg [3,11] 2 (fun k s i wr=>∃(m:Nat),k=2 - m∧m≤2∧i=.int .i64 m∧s=.int .i64 ((z3c a b m).length:Nat)∧w=wr)
 case atStart=>exact⟨0,rfl,by omega,rfl,rfl,rfl⟩
 case round=>
  obtain⟨m,rfl,hm,rfl,rfl,rfl⟩:=hrel;rcases(show m=0∨m=1∨m=2 by omega) with rfl|rfl|rfl
  ·rw[show(z3c a b 0).length=0 from rfl];go_wp2;go_roundg (2 - (0+1))
   case measure=>omega
   case rel=>exact⟨1,rfl,by omega,by simp,by simp[z3c],rfl⟩
  ·rw[show(z3c a b 1).length=a.length from rfl];go_wp2;go_roundg (2 - (1+1))
   case measure=>omega
   case rel=>exact⟨2,rfl,by omega,by simp,by simp[z3c],rfl⟩
  obtain⟨N,hN⟩:∃N,N=(z3c a b 2).length:=⟨_,rfl⟩;rw[←hN];have hab:N≤8796093022208:=by rw[hN];simp[z3c];omega
  clear g0 g1 hN;go_wp2_with fail;refine(zbt N _ (by omega)).mono ?_;rintro e w1 ⟨v,rfl,ho,hf⟩;have HO:=hid ho;have HF:=hid hf;have hz:=hf.size;obtain⟨Av,cv,rfl,-⟩:=z02 ho;clear ho hf;go_wp2;go_loopg [6,27] 2 (fun k v i wr=>∃(m:Nat),k=2 - m∧m≤2∧i=.int .i64 m∧wr.ownsRow w.heap.size 9 1 v (z3c a b m).length (z04 (z3c a b m))∧Fr [] w wr)
  case atStart=>exact⟨0,rfl,by omega,rfl,HO.out,HF.out⟩
  case round=>
  obtain⟨m,rfl,hm,rfl,ho,hf⟩:=hrel;have hzr:=hf.size;have HF1:=hid hf;have HO1:=hid ho;obtain⟨Am,cm,rfl,-⟩:=z02 ho;clear ho hf;rcases(show m=0∨m=1∨m=2 by omega) with rfl|rfl|rfl
  ·have x1:wr.cell? ⟨g,0,none⟩=some (.slice A1 a.length c1):=HF1.out.cell G0.out (by simp);go_wp2_with (at_builtin;refine z0b _ rfl _ _ 41 rfl w.heap.size 9 i0 _ 1 16 Tryz.underlying41 hi hz0 hz1 hz2 rfl (by decide) _ _ _ rfl HO1.out B _ a.length (z04 a) rfl (H1.out.fr HF1.out hB (by simp)) (z3b a) ?c1 ?c2 ?c3 ?_)
   case c1=>show 0+a.length≤_;unfold maxLen;omega
   case c2=>show(0+a.length) * 16≤_;omega
   case c3=>omega
   intro v' w2 hown' hgrow hat;have HO2:=hid hown';have HF2:=hid (HF1.out.grown hgrow (fun k hk=>.inr (HO1.out.lt k hk).1));clear hown' hgrow hat x1;go_wp2;go_roundg (2 - (0+1))
   case measure=>omega
   case rel=>exact⟨1,rfl,by omega,by simp,by have:=HO2.out;simpa[z3c,z04] using this,HF2.out⟩
  ·have x1:wr.cell? ⟨g,1,none⟩=some (.slice A2 b.length c2):=HF1.out.cell G1.out (by simp);go_wp2_with (at_builtin;refine z0b _ rfl _ _ 41 rfl w.heap.size 9 i0 _ 1 16 Tryz.underlying41 hi hz0 hz1 hz2 rfl (by decide) _ _ _ rfl HO1.out B _ b.length (z04 b) rfl (H2.out.fr HF1.out hB (by simp)) (z3b b) ?d1 ?d2 ?d3 ?_)
   case d1=>show a.length+b.length≤_;unfold maxLen;omega
   case d2=>show(a.length+b.length) * 16≤_;omega
   case d3=>omega
   intro v' w2 hown' hgrow hat;have HO2:=hid hown';have HF2:=hid (HF1.out.grown hgrow (fun k hk=>.inr (HO1.out.lt k hk).1));clear hown' hgrow hat x1;go_wp2;go_roundg (2 - (1+1))
   case measure=>omega
   case rel=>exact⟨2,rfl,by omega,by simp,by have:=HO2.out;simpa[z3c,z04] using this,HF2.out⟩
  go_wp2;go_ret;exact⟨_,rfl,HO1.out,HF1.out⟩
end Go.Proofs.YtmkhmejempcimaaGreatDoor
