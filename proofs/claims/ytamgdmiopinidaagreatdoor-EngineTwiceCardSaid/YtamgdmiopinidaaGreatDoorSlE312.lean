/- Contracts that the proof of E3 uses. No condition beyond those in each theorem. -/
import Derived.Test.YtamgdmiopinidaaGreatDoorSlE311
set_option linter.unusedVariables false
set_option linter.unusedSimpArgs false
set_option maxHeartbeats 8000000
set_option maxRecDepth 100000
namespace Go.Proofs.YtamgdmiopinidaaGreatDoor
open Lib (hid)
open Tryz (prog)
open Go.RowKit
def zaq(m:Nat)(n:Nat)(_:Bool):Bool:=decide (n=m)
def z6m(_:Nat)(_:Bool):Bool:=true
def z8k(n:Nat)(b:Bool):Bool:=b&&decide (n=1)
theorem zp8(l:List Itm)(A:Option Addr)(c g m:Nat)(n:Nat)(b:Bool)(w:World)(hm:m=l.length)(hl:l.length≤281474976710656)(hg:w.cell? ⟨g,0,none⟩=some (.slice A l.length c)) :
  Calls prog 239 (#[.int .i64 n,.bool b]++#[.pointer (some ⟨g,0,none⟩)]) w fun e w'=>e=.returned (.bool (zaq m n b))∧Fr [] w w':=by
 subst hm
 by_cases h:n=l.length
 ·have E:zaq l.length n b=true:=decide_eq_true h
  have q:((n:Int)==(l.length:Int))=true:=by simp[h]
  rw[E]
  clear h E
  go_enter Tryz.func239,Tryz.ntmps239
  go_wp2
  go_ret
  exact⟨rfl,Fr.refl _ _⟩
 ·have E:zaq l.length n b=false:=decide_eq_false h
  have q:((n:Int)==(l.length:Int))=false:=beq_eq_false_iff_ne.2 (by omega)
  rw[E]
  clear h E
  go_enter Tryz.func239,Tryz.ntmps239
  go_wp2
  go_ret
  exact⟨rfl,Fr.refl _ _⟩
theorem zpf(n:Nat)(b:Bool)(w:World) :
  Calls prog 238 (#[.int .i64 n,.bool b]++#[]) w fun e w'=>e=.returned (.bool (z6m n b))∧Fr [] w w':=by
 go_enter Tryz.func238,Tryz.ntmps238
 go_wp2
 go_ret
 exact⟨rfl,Fr.refl _ _⟩
theorem zok(n:Nat)(b:Bool)(w:World) :
  Calls prog 240 (#[.int .i64 n,.bool b]++#[]) w fun e w'=>e=.returned (.bool (z8k n b))∧Fr [] w w':=by
 cases b with
 | false=>
  rw[show z8k n false=false from rfl]
  go_enter Tryz.func240,Tryz.ntmps240
  go_wp2
  go_ret
  exact⟨rfl,Fr.refl _ _⟩
 | true=>
  by_cases h:n=1
  ·subst h
   rw[show z8k 1 true=true from rfl]
   go_enter Tryz.func240,Tryz.ntmps240
   go_wp2
   go_ret
   exact⟨rfl,Fr.refl _ _⟩
  ·have E:z8k n true=false:=by unfold z8k;rw[decide_eq_false h];rfl
   have q:((n:Int)==1)=false:=beq_eq_false_iff_ne.2 (by omega)
   rw[E]
   clear h E
   go_enter Tryz.func240,Tryz.ntmps240
   go_wp2
   go_ret
   exact⟨rfl,Fr.refl _ _⟩
theorem zjo(l:List Itm)(v:Value)(w:World)(B:Nat)(hs:∀x∈l,x.Small)(hl:l.length≤1048576)(hB:B≤w.heap.size)(h:z3z w B v l) :
  Calls prog 192 #[v] w (zbu (z2b (zaq l.length) l) (z0u l) w):=by
 obtain⟨A,c,rfl⟩:=h.form
 have F1:=hid ((Fr.refl [] w).alloc (.cells #[.slice A l.length c] 82))
 have W1:=hid (Whole.new w 82 [.slice A l.length c])
 have SO:=hid (z8o 239 #[.pointer (some ⟨w.heap.size,0,none⟩)] (z1x Tryz.func239 (by kernel_rfl) rfl) (zaq l.length) l (.slice A l.length c) (w.alloc (.cells #[.slice A l.length c] 82)) B
  (fun W n b hW=>zp8 l A c w.heap.size l.length n b W rfl (by omega) (by
   have:=hW.whole W1.out (by simp) (by simp)
   exact this.cell 0)) hs hl (Nat.le_trans hB F1.out.size) (h.fr F1.out hB (by simp)))
 clear h hs
 go_enter Tryz.func192,Tryz.ntmps192
 go_wp2_with fail
 refine SO.out.mono ?_
 rintro e w1 ⟨u,rfl,ho,f1⟩
 have HO:=hid ho
 have FF:=hid (F1.out.trans f1)
 clear ho f1
 go_wp2
 go_ret2
 exact⟨_,rfl,z1d HO.out (by simp),FF.out⟩
theorem zch(l:List Itm)(v:Value)(w:World)(B:Nat)(hs:∀x∈l,x.Small)(hl:l.length≤1048576)(hB:B≤w.heap.size)(h:z3z w B v l) :
  Calls prog 190 #[v] w (zbu (z2b z6m l) (z0u l) w):=by
 have SO:=hid (z8o 238 #[] (z1x Tryz.func238 (by kernel_rfl) rfl) z6m l v w B (fun W n b hW=>zpf n b W) hs hl hB h)
 obtain⟨A,c,rfl⟩:=h.form
 clear h hs
 go_enter Tryz.func190,Tryz.ntmps190
 go_wp2_with fail
 refine SO.out.mono ?_
 rintro e w1 ⟨u,rfl,ho,f1⟩
 have HO:=hid ho
 have FF:=hid f1
 clear ho f1
 go_wp2
 go_ret2
 exact⟨_,rfl,HO.out,FF.out⟩
theorem zjt(l:List Itm)(v:Value)(w:World)(B:Nat)(hs:∀x∈l,x.Small)(hl:l.length≤1048576)(hB:B≤w.heap.size)(h:z3z w B v l) :
  Calls prog 193 #[v] w (zbu (z2b z8k l) (z0u l) w):=by
 have SO:=hid (z8o 240 #[] (z1x Tryz.func240 (by kernel_rfl) rfl) z8k l v w B (fun W n b hW=>zok n b W) hs hl hB h)
 obtain⟨A,c,rfl⟩:=h.form
 clear h hs
 go_enter Tryz.func193,Tryz.ntmps193
 go_wp2_with fail
 refine SO.out.mono ?_
 rintro e w1 ⟨u,rfl,ho,f1⟩
 have HO:=hid ho
 have FF:=hid f1
 clear ho f1
 go_wp2
 go_ret2
 exact⟨_,rfl,HO.out,FF.out⟩
theorem z4q(n:Nat):∀(rs:List (List Value)) (i j:Nat) (cs:List Value),(∀c∈rs,c.length=n)→rs[i]? = some cs→j < n→rs.flatten[i * n+j]? = cs[j]?
 | [],i,j,cs,_,h,_=>by simp at h
 | r :: rs,0,j,cs,hl,h,hj=>by
  simp at h
  subst h
  rw[Nat.zero_mul,Nat.zero_add,List.flatten_cons,List.getElem?_append_left (by rw[hl r (by simp)];exact hj)]
 | r :: rs,i+1,j,cs,hl,h,hj=>by
  have hr:=hl r (by simp)
  have e:(i+1) * n=i * n+n:=Nat.succ_mul i n
  rw[List.flatten_cons,List.getElem?_append_right (by omega),hr,show(i+1) * n+j - n=i * n+j from by omega]
  exact z4q n rs i j cs (fun c hc=>hl c (by simp[hc])) (by simpa using h) hj
theorem zc4(n:Nat):∀(rs:List (List Value)),(∀c∈rs,c.length=n)→rs.flatten.length=rs.length * n
 | [],_=>by simp
 | r :: rs,hl=>by
  have e:(rs.length+1) * n=rs.length * n+n:=Nat.succ_mul _ n
  rw[List.flatten_cons,List.length_append,hl r (by simp),zc4 n rs (fun c hc=>hl c (by simp[hc])),List.length_cons,e]
  omega
theorem z7z(n:Nat):∀(rs:List (List Value)) (i:Nat),(∀c∈rs,c.length=n)→rs.flatten.take (i * n)=(rs.take i).flatten
 | [],i,_=>by simp
 | r :: rs,0,_=>by simp
 | r :: rs,i+1,hl=>by
  have hr:=hl r (by simp)
  have e:(i+1) * n=n+i * n:=by rw[Nat.succ_mul,Nat.add_comm]
  rw[List.flatten_cons,List.take_succ_cons,List.flatten_cons,e,List.take_append,hr,List.take_of_length_le (by omega),Nat.add_sub_cancel_left,z7z n rs i (fun c hc=>hl c (by simp[hc]))]
theorem za6(n:Nat):∀(rs:List (List Value)) (i:Nat),(∀c∈rs,c.length=n)→rs.flatten.drop (i * n)=(rs.drop i).flatten
 | [],i,_=>by simp
 | r :: rs,0,_=>by simp
 | r :: rs,i+1,hl=>by
  have hr:=hl r (by simp)
  have e:(i+1) * n=n+i * n:=by rw[Nat.succ_mul,Nat.add_comm]
  rw[List.flatten_cons,List.drop_succ_cons,e,List.drop_append,hr,List.drop_of_length_le (by omega),Nat.add_sub_cancel_left,List.nil_append,za6 n rs i (fun c hc=>hl c (by simp[hc]))]
structure Ent where
 key:ByteArray
 item:Itm
 til:Int
def zwk:Ent:=⟨⟨#[]⟩,z2r 0,0⟩
structure Ent.Small(e:Ent):Prop where
 key:e.key.size≤281474976710656
 item:e.item.Small
 til:-9223372036854775808≤e.til∧e.til≤9223372036854775807
def z7d(e:Ent)(A1:Option Addr)(c1:Nat)(A2:Option Addr)(c2:Nat)(A3:Option Addr)(c3:Nat):List Value:=
 [.string e.key,.int .i64 e.item.kind,.string e.item.text,.slice A1 e.item.list.length c1,.slice A2 e.item.pairs.length c2,.slice A3 e.item.scores.length c3,.int .i64 e.til]
def zdr(w:World)(B:Nat)(cs:List Value)(e:Ent):Prop:=
 ∃A1 c1 A2 c2 A3 c3,cs=z7d e A1 c1 A2 c2 A3 c3∧Sl w B 1 (.slice A1 e.item.list.length c1) e.item.list.length (z03 e.item.list)∧Sl w B 2 (.slice A2 e.item.pairs.length c2) e.item.pairs.length (z0e e.item.pairs)∧Sl w B 2 (.slice A3 e.item.scores.length c3) e.item.scores.length (z08 e.item.scores)
def z2v(w:World)(base:Nat)(cs:List Value)(e:Ent):Prop:=
 ∃A1 c1 A2 c2 A3 c3,cs=z7d e A1 c1 A2 c2 A3 c3∧w.ownsRow base 9 1 (.slice A1 e.item.list.length c1) e.item.list.length (z03 e.item.list)∧w.ownsRow base 86 2 (.slice A2 e.item.pairs.length c2) e.item.pairs.length (z0e e.item.pairs)∧w.ownsRow base 91 2 (.slice A3 e.item.scores.length c3) e.item.scores.length (z08 e.item.scores)
theorem zdr.len{w:World}{B:Nat}{cs:List Value}{e:Ent}(h:zdr w B cs e):cs.length=7:=by obtain⟨_,_,_,_,_,_,rfl,_⟩:=h;rfl
theorem z2v.len{w:World}{B:Nat}{cs:List Value}{e:Ent}(h:z2v w B cs e):cs.length=7:=by obtain⟨_,_,_,_,_,_,rfl,_⟩:=h;rfl
theorem z2v.c{w:World}{base:Nat}{cs:List Value}{e:Ent}(h:z2v w base cs e):zdr w w.heap.size cs e:=by
 obtain⟨A1,c1,A2,c2,A3,c3,he,h1,h2,h3⟩:=h
 exact⟨A1,c1,A2,c2,A3,c3,he,z0t h1,z0t h2,z0t h3⟩
theorem zdr.fr{w w':World}{B:Nat}{S:List Nat}{cs:List Value}{e:Ent}(h:zdr w B cs e)(hf:Fr S w w')(hB:B≤w.heap.size)(hS:∀k,k∈S→B≤k):zdr w' B cs e:=by
 obtain⟨A1,c1,A2,c2,A3,c3,he,h1,h2,h3⟩:=h
 exact⟨A1,c1,A2,c2,A3,c3,he,h1.fr hf hB hS,h2.fr hf hB hS,h3.fr hf hB hS⟩
theorem zdr.more{w:World}{B B':Nat}{cs:List Value}{e:Ent}(h:zdr w B cs e)(hB:B≤B'):zdr w B' cs e:=by
 obtain⟨A1,c1,A2,c2,A3,c3,he,h1,h2,h3⟩:=h
 exact⟨A1,c1,A2,c2,A3,c3,he,h1.more hB,h2.more hB,h3.more hB⟩
theorem z2v.fr{w w':World}{base:Nat}{cs:List Value}{e:Ent}(h:z2v w base cs e)(hf:Fr [] w w'):z2v w' base cs e:=by
 obtain⟨A1,c1,A2,c2,A3,c3,he,h1,h2,h3⟩:=h
 exact⟨A1,c1,A2,c2,A3,c3,he,z0n h1 hf (by simp),z0n h2 hf (by simp),z0n h3 hf (by simp)⟩
theorem z2v.base{w:World}{base base':Nat}{cs:List Value}{e:Ent}(h:z2v w base cs e)(hb:base'≤base):z2v w base' cs e:=by
 obtain⟨A1,c1,A2,c2,A3,c3,he,h1,h2,h3⟩:=h
 exact⟨A1,c1,A2,c2,A3,c3,he,z1d h1 hb,z1d h2 hb,z1d h3 hb⟩
theorem z4a{w:World}{base base' e e' size size' n n':Nat}{v v':Value}{xs xs':List Value}(h:w.ownsRow base e size v n xs)(h':w.ownsRow base' e' size' v' n' xs')(hT:e≠e'):∀k,v.ownBlock=some k→k∉z2l v':=fun k hk hm=>by
 rcases zwd h h' hT with h1|h1
 ·rw[h1] at hk;cases hk
 ·refine h1 ?_
  rw[hk]
  unfold z2l at hm
  split at hm
  ·simp at hm;subst hm;rfl
  ·cases hm
theorem z2v.row{w w':World}{base base' T size n:Nat}{v:Value}{xs cs:List Value}{e:Ent}(h:z2v w base cs e)(ho:w.ownsRow base' T size v n xs)(hT:9≠T∧86≠T∧91≠T)(hf:Fr (z2l v) w w'):z2v w' base cs e:=by
 obtain⟨A1,c1,A2,c2,A3,c3,he,h1,h2,h3⟩:=h
 exact⟨A1,c1,A2,c2,A3,c3,he,z0n h1 hf (z4a h1 ho hT.1),z0n h2 hf (z4a h2 ho hT.2.1),z0n h3 hf (z4a h3 ho hT.2.2)⟩
theorem zdr.item{w:World}{B:Nat}{e:Ent}{A1 A2 A3:Option Addr}{c1 c2 c3:Nat}(h:zdr w B (z7d e A1 c1 A2 c2 A3 c3) e) :
  z0q w B (.agg #[.int .i64 e.item.kind,.string e.item.text,.slice A1 e.item.list.length c1,.slice A2 e.item.pairs.length c2,.slice A3 e.item.scores.length c3]) e.item:=by
 obtain⟨B1,d1,B2,d2,B3,d3,he,h1,h2,h3⟩:=h
 simp only[z7d,List.cons.injEq,Value.slice.injEq] at he
 obtain⟨-,-,-,⟨rfl,-,rfl⟩,⟨rfl,-,rfl⟩,⟨rfl,-,rfl⟩,-⟩:=he
 exact⟨_,_,_,_,_,_,rfl,h1,h2,h3⟩
theorem z2v.item{w:World}{base:Nat}{e:Ent}{A1 A2 A3:Option Addr}{c1 c2 c3:Nat}(h:z2v w base (z7d e A1 c1 A2 c2 A3 c3) e) :
  z0l w base (.agg #[.int .i64 e.item.kind,.string e.item.text,.slice A1 e.item.list.length c1,.slice A2 e.item.pairs.length c2,.slice A3 e.item.scores.length c3]) e.item:=by
 obtain⟨B1,d1,B2,d2,B3,d3,he,h1,h2,h3⟩:=h
 simp only[z7d,List.cons.injEq,Value.slice.injEq] at he
 obtain⟨-,-,-,⟨rfl,-,rfl⟩,⟨rfl,-,rfl⟩,⟨rfl,-,rfl⟩,-⟩:=he
 exact⟨_,_,_,rfl,h1,h2,h3⟩
def z0v(w:World)(B:Nat)(v:Value)(l:List Ent):Prop:=
 ∃A c,∃rs:List (List Value),v=.slice A l.length c∧rs.length=l.length∧(∀(i:Nat) (e:Ent),l[i]? = some e→∃cs:List Value,rs[i]? = some cs∧zdr w B cs e)∧Sl w B 7 v l.length rs.flatten
def z1w(w:World)(base:Nat)(v:Value)(l:List Ent):Prop:=
 ∃rs:List (List Value),rs.length=l.length∧(∀(i:Nat) (e:Ent),l[i]? = some e→∃cs:List Value,rs[i]? = some cs∧z2v w base cs e)∧w.ownsRow base 45 7 v l.length rs.flatten
theorem z0v.form{w:World}{B:Nat}{v:Value}{l:List Ent}(h:z0v w B v l):∃A c,v=.slice A l.length c:=by
 obtain⟨A,c,rs,rfl,_⟩:=h
 exact⟨A,c,rfl⟩
theorem z1w.form{w:World}{B:Nat}{v:Value}{l:List Ent}(h:z1w w B v l):∃A c,v=.slice A l.length c:=by
 obtain⟨rs,_,_,ho⟩:=h
 obtain⟨A,c,rfl,-⟩:=z06 ho
 exact⟨A,c,rfl⟩
theorem z1w.v{w:World}{base:Nat}{v:Value}{l:List Ent}(h:z1w w base v l):z0v w w.heap.size v l:=by
 obtain⟨rs,h1,h2,h3⟩:=h
 obtain⟨A,c,rfl,-⟩:=z06 h3
 exact⟨A,c,rs,rfl,h1,fun i e he=>by
  obtain⟨cs,h4,h5⟩:=h2 i e he
  exact⟨cs,h4,h5.c⟩,z0t h3⟩
theorem z0v.fr{w w':World}{B:Nat}{S:List Nat}{v:Value}{l:List Ent}(h:z0v w B v l)(hf:Fr S w w')(hB:B≤w.heap.size)(hS:∀k,k∈S→B≤k):z0v w' B v l:=by
 obtain⟨A,c,rs,rfl,hl,hi,hs⟩:=h
 exact⟨A,c,rs,rfl,hl,fun i x hx=>by
  obtain⟨cs,h1,h2⟩:=hi i x hx
  exact⟨cs,h1,h2.fr hf hB hS⟩,hs.fr hf hB hS⟩
theorem z0v.more{w:World}{B B':Nat}{v:Value}{l:List Ent}(h:z0v w B v l)(hB:B≤B'):z0v w B' v l:=by
 obtain⟨A,c,rs,rfl,hl,hi,hs⟩:=h
 exact⟨A,c,rs,rfl,hl,fun i x hx=>by
  obtain⟨cs,h1,h2⟩:=hi i x hx
  exact⟨cs,h1,h2.more hB⟩,hs.more hB⟩
theorem z1w.fr{w w':World}{base:Nat}{v:Value}{l:List Ent}(h:z1w w base v l)(hf:Fr [] w w'):z1w w' base v l:=by
 obtain⟨rs,h1,h2,h3⟩:=h
 exact⟨rs,h1,fun i e he=>by
  obtain⟨cs,h4,h5⟩:=h2 i e he
  exact⟨cs,h4,h5.fr hf⟩,z0n h3 hf (by simp)⟩
theorem z1w.base{w:World}{base base':Nat}{v:Value}{l:List Ent}(h:z1w w base v l)(hb:base'≤base):z1w w base' v l:=by
 obtain⟨rs,h1,h2,h3⟩:=h
 exact⟨rs,h1,fun i e he=>by
  obtain⟨cs,h4,h5⟩:=h2 i e he
  exact⟨cs,h4,h5.base hb⟩,z1d h3 hb⟩
theorem z0v.nil(w:World)(B:Nat):z0v w B (.slice none 0 0) []:=⟨none,0,[],rfl,rfl,fun i x h=>by simp at h,Sl.nil _ _ _⟩
theorem z1w.nil(w:World)(base:Nat):z1w w base (.slice none 0 0) []:=⟨[],rfl,fun i x h=>by simp at h,World.ownsRow_nil _ _ _ _⟩
theorem zg5{P:List Value→Ent→Prop}{l:List Ent}{rs:List (List Value)}(hl:rs.length=l.length)(hP:∀cs e,P cs e→cs.length=7)(h:∀(i:Nat) (e:Ent),l[i]? = some e→∃cs:List Value,rs[i]? = some cs∧P cs e):∀c∈rs,c.length=7:=fun c hc=>by
 obtain⟨j,hj,rfl⟩:=List.getElem_of_mem hc
 obtain⟨d,hd,h5⟩:=h j _ (List.getElem?_eq_getElem (show j < l.length by omega))
 rw[List.getElem?_eq_getElem hj] at hd
 cases hd
 exact hP _ _ h5
structure At7(w:World)(B b o:Nat)(e:Ent)(A1 A2 A3:Option Addr)(c1 c2 c3:Nat):Prop where
 k0:w.cell? ⟨b,o,none⟩=some (.string e.key)
 k1:w.cell? ⟨b,o+1,none⟩=some (.int .i64 e.item.kind)
 k2:w.cell? ⟨b,o+2,none⟩=some (.string e.item.text)
 k3:w.cell? ⟨b,o+3,none⟩=some (.slice A1 e.item.list.length c1)
 k4:w.cell? ⟨b,o+4,none⟩=some (.slice A2 e.item.pairs.length c2)
 k5:w.cell? ⟨b,o+5,none⟩=some (.slice A3 e.item.scores.length c3)
 k6:w.cell? ⟨b,o+6,none⟩=some (.int .i64 e.til)
 ent:zdr w B (z7d e A1 c1 A2 c2 A3 c3) e
theorem At7.fr{w w':World}{B b o:Nat}{e:Ent}{A1 A2 A3:Option Addr}{c1 c2 c3:Nat}{S:List Nat}(h:At7 w B b o e A1 A2 A3 c1 c2 c3)(hf:Fr S w w')(hb:b < B)(hB:B≤w.heap.size)(hS:∀k,k∈S→B≤k):At7 w' B b o e A1 A2 A3 c1 c2 c3:=by
 have hn:b∉S:=fun hm=>by have:=hS b hm;omega
 exact⟨hf.cell h.k0 hn,hf.cell h.k1 hn,hf.cell h.k2 hn,hf.cell h.k3 hn,hf.cell h.k4 hn,hf.cell h.k5 hn,hf.cell h.k6 hn,h.ent.fr hf hB hS⟩
theorem z0v.at_{w:World}{B:Nat}{A:Option Addr}{c:Nat}{l:List Ent}(h:z0v w B (.slice A l.length c) l)(hn:0 < l.length) :
  ∃b off,A=some ⟨b,off,none⟩∧b < B∧l.length≤c∧c≤maxLen∧∀(i:Nat) (e:Ent),l[i]? = some e→∃A1 A2 A3 c1 c2 c3,At7 w B b (off+i * 7) e A1 A2 A3 c1 c2 c3:=by
 obtain⟨A',c',rs,hv,hl,hi,hs⟩:=h
 cases hv
 obtain⟨b,off,rfl,hb,hc,hm,hcell⟩:=hs.at_ hn
 refine⟨b,off,rfl,hb,hc,hm,fun i e he=>?_⟩
 obtain⟨cs,hcs,hE⟩:=hi i e he
 have all7:=zg5 hl (fun cs e h=>zdr.len h) hi
 obtain⟨A1,c1,A2,c2,A3,c3,rfl,s1,s2,s3⟩:=hE
 have g:∀j u,j < 7→(z7d e A1 c1 A2 c2 A3 c3)[j]? = some u→w.cell? ⟨b,off+(i * 7+j),none⟩=some u:=fun j u hj hu=>
  hcell _ _ (by rw[z4q 7 rs i j _ all7 hcs hj];exact hu)
 exact⟨A1,A2,A3,c1,c2,c3,g 0 _ (by decide) rfl,by rw[Nat.add_assoc];exact g 1 _ (by decide) rfl,by rw[Nat.add_assoc];exact g 2 _ (by decide) rfl,by rw[Nat.add_assoc];exact g 3 _ (by decide) rfl,by rw[Nat.add_assoc];exact g 4 _ (by decide) rfl,by rw[Nat.add_assoc];exact g 5 _ (by decide) rfl,by rw[Nat.add_assoc];exact g 6 _ (by decide) rfl,⟨A1,c1,A2,c2,A3,c3,rfl,s1,s2,s3⟩⟩
def z3a(n:Int):Bool:=decide (0≤n)&&decide (n≤1000000)
def z1r(til now:Int):Bool:=decide (til≠0)&&decide (til≤now)
def z4o:Option ByteArray→ByteArray→Bool
 | none,_=>false
 | some k,s=>!ltS k s
def z3b(p:Option ByteArray)(e:Ent):Int:=
 if 60 < e.key.size then 2 else if z0d e.item≠0 then z0d e.item else if z3a e.til=false then 3 else if z4o p e.key=true then 4 else 0
def zmy:Option ByteArray→List Ent→Int
 | _,[]=>0
 | p,e :: l=>if z3b p e≠0 then z3b p e else zmy (some e.key) l
def z1t(l:List Ent):Int:=if 16 < l.length then 2 else zmy none l
def z7a(l:List Ent)(k:Nat):Option ByteArray:=if k=0 then none else (l[k - 1]?).map (·.key)
theorem zqm{l:List Ent}{k:Nat}{e:Ent}(h:l[k]? = some e):zmy (z7a l k) (l.drop k)=if z3b (z7a l k) e≠0 then z3b (z7a l k) e else zmy (z7a l (k+1)) (l.drop (k+1)):=by
 have hk:=(List.getElem?_eq_some_iff.1 h).1
 have e1:l.drop k=e :: l.drop (k+1):=by
  rw[List.drop_eq_getElem_cons hk]
  congr 1
  rw[List.getElem?_eq_getElem hk] at h
  exact Option.some.inj h
 have e2:z7a l (k+1)=some e.key:=by unfold z7a;rw[if_neg (by omega),Nat.add_sub_cancel,h];rfl
 rw[e1,e2]
 rfl
theorem zly(l:List Ent):z7a l 0=none:=rfl
structure z1m(l:List Ent):Prop where
 le:l.length≤16
 keys:∀e∈l,e.key.size≤60
 items:∀e∈l,z0d e.item=0
 times:∀e∈l,0≤e.til∧e.til≤1000000
 rise:rises (ltK Ent.key) l=true
theorem zlo{p:Option ByteArray}{e:Ent}(h:z3b p e=0):e.key.size≤60∧z0d e.item=0∧(0≤e.til∧e.til≤1000000)∧z4o p e.key=false:=by
 unfold z3b at h
 split at h
 ·cases h
 ·rename_i h1
  split at h
  ·rename_i h2;exact absurd h h2
  ·rename_i h2
   split at h
   ·cases h
   ·rename_i h3
    split at h
    ·cases h
    ·rename_i h4
     refine⟨by omega,by simpa using h2,?_,by simpa using h4⟩
     have:z3a e.til=true:=by simpa using h3
     unfold z3a at this
     simpa using this
theorem zgo:∀ {l:List Ent} {p:Option ByteArray},zmy p l=0→(∀e∈l,e.key.size≤60∧z0d e.item=0∧(0≤e.til∧e.til≤1000000))∧rises ltS (l.map (·.key))=true∧(∀e,l[0]? = some e→z4o p e.key=false)
 | [],p,_=>⟨(fun e he=>by cases he),rfl,(fun e he=>by simp at he)⟩
 | e :: l,p,h=>by
  unfold zmy at h
  by_cases hc:z3b p e=0
  ·rw[if_neg (by simpa using hc)] at h
   obtain⟨h1,h2,h3⟩:=zgo h
   obtain⟨k1,k2,k3,k4⟩:=zlo hc
   refine⟨fun x hx=>?_,?_,fun x hx=>by simp at hx;subst hx;exact k4⟩
   ·rcases List.mem_cons.1 hx with rfl|hx
    ·exact⟨k1,k2,k3⟩
    ·exact h1 x hx
   ·cases l with
    | nil=>rfl
    | cons y l=>
     have:=h3 y rfl
     unfold z4o at this
     rw[List.map_cons,List.map_cons]
     rw[List.map_cons] at h2
     unfold rises
     rw[Bool.and_eq_true]
     exact⟨by simpa using this,h2⟩
  ·rw[if_pos hc] at h
   exact absurd h hc
theorem zta{l:List Ent}(h:z1t l=0):z1m l:=by
 unfold z1t at h
 split at h
 ·cases h
 ·rename_i hl
  obtain⟨h1,h2,_⟩:=zgo h
  refine⟨by omega,fun e he=>(h1 e he).1,fun e he=>(h1 e he).2.1,fun e he=>(h1 e he).2.2,?_⟩
  refine z3i ?_
  have:=z2n (lt:=ltS) (fun a b c h1 h2=>decide_eq_true (z55 (of_decide_eq_true h1) (of_decide_eq_true h2))) h2
  rw[List.pairwise_map] at this
  exact this
end Go.Proofs.YtamgdmiopinidaaGreatDoor
