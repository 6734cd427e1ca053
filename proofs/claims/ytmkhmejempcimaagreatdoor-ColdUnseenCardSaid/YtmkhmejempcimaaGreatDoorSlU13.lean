/- Contracts; no condition but each theorem's own. -/
import Derived.Test.YtmkhmejempcimaaGreatDoorSlU7
import Derived.Test.YtmkhmejempcimaaGreatDoorSlU9
set_option linter.unusedVariables false
set_option linter.unusedSimpArgs false
set_option maxHeartbeats 8000000
set_option maxRecDepth 100000
namespace Go.Proofs.YtmkhmejempcimaaGreatDoor
open Go.Proofs.Tryz (prog)
open Go.RowKit
structure Slt where
 key:ByteArray
 cold:Bool
 item:Itm
 seg:Int
 rcd:Int
 til:Int
structure Sto where
 slots:List Slt
 segs:List (List ByteArray)
structure Slt.Small(e:Slt):Prop where
 key:e.key.size≤281474976710656
 item:e.item.Small
 seg:-9223372036854775808≤e.seg∧e.seg≤9223372036854775807
 rcd:-9223372036854775808≤e.rcd∧e.rcd≤9223372036854775807
 til:-9223372036854775808≤e.til∧e.til≤9223372036854775807
structure Sto.Small(s:Sto):Prop where
 slots:∀e∈s.slots,e.Small
 le:s.slots.length≤281474976710656
 segs:∀l∈s.segs,l.length≤281474976710656∧∀t∈l,t.size≤281474976710656
 sle:s.segs.length≤281474976710656
def z1f(e:Slt)(A1:Option Addr)(c1:Nat)(A2:Option Addr)(c2:Nat)(A3:Option Addr)(c3:Nat):List Value:=
 [.string e.key,.bool e.cold,.int .i64 e.item.kind,.string e.item.text,.slice A1 e.item.list.length c1,.slice A2 e.item.pairs.length c2,.slice A3 e.item.scores.length c3,.int .i64 e.seg,.int .i64 e.rcd,.int .i64 e.til]
def zar(w:World)(B:Nat)(cs:List Value)(e:Slt):Prop:=
 ∃A1 c1 A2 c2 A3 c3,cs=z1f e A1 c1 A2 c2 A3 c3∧Sl w B 1 (.slice A1 e.item.list.length c1) e.item.list.length (z04 e.item.list)∧Sl w B 2 (.slice A2 e.item.pairs.length c2) e.item.pairs.length (z0t e.item.pairs)∧Sl w B 2 (.slice A3 e.item.scores.length c3) e.item.scores.length (z0h e.item.scores)
def z24(w:World)(base:Nat)(cs:List Value)(e:Slt):Prop:=
 ∃A1 c1 A2 c2 A3 c3,cs=z1f e A1 c1 A2 c2 A3 c3∧w.ownsRow base 9 1 (.slice A1 e.item.list.length c1) e.item.list.length (z04 e.item.list)∧w.ownsRow base 108 2 (.slice A2 e.item.pairs.length c2) e.item.pairs.length (z0t e.item.pairs)∧w.ownsRow base 110 2 (.slice A3 e.item.scores.length c3) e.item.scores.length (z0h e.item.scores)
theorem zar.len{w:World}{B:Nat}{cs:List Value}{e:Slt}(h:zar w B cs e):cs.length=10:=by obtain⟨_,_,_,_,_,_,rfl,_⟩:=h;rfl
theorem z24.len{w:World}{B:Nat}{cs:List Value}{e:Slt}(h:z24 w B cs e):cs.length=10:=by obtain⟨_,_,_,_,_,_,rfl,_⟩:=h;rfl
theorem z24.c{w:World}{base:Nat}{cs:List Value}{e:Slt}(h:z24 w base cs e):zar w w.heap.size cs e:=by
 obtain⟨A1,c1,A2,c2,A3,c3,he,h1,h2,h3⟩:=h;exact⟨A1,c1,A2,c2,A3,c3,he,z0o h1,z0o h2,z0o h3⟩
theorem zar.fr{w w':World}{B:Nat}{S:List Nat}{cs:List Value}{e:Slt}(h:zar w B cs e)(hf:Fr S w w')(hB:B≤w.heap.size)(hS:∀k,k∈S→B≤k):zar w' B cs e:=by
 obtain⟨A1,c1,A2,c2,A3,c3,he,h1,h2,h3⟩:=h;exact⟨A1,c1,A2,c2,A3,c3,he,h1.fr hf hB hS,h2.fr hf hB hS,h3.fr hf hB hS⟩
theorem zar.more{w:World}{B B':Nat}{cs:List Value}{e:Slt}(h:zar w B cs e)(hB:B≤B'):zar w B' cs e:=by
 obtain⟨A1,c1,A2,c2,A3,c3,he,h1,h2,h3⟩:=h;exact⟨A1,c1,A2,c2,A3,c3,he,h1.more hB,h2.more hB,h3.more hB⟩
theorem z24.fr{w w':World}{base:Nat}{cs:List Value}{e:Slt}(h:z24 w base cs e)(hf:Fr [] w w'):z24 w' base cs e:=by
 obtain⟨A1,c1,A2,c2,A3,c3,he,h1,h2,h3⟩:=h;exact⟨A1,c1,A2,c2,A3,c3,he,z05 h1 hf (by simp),z05 h2 hf (by simp),z05 h3 hf (by simp)⟩
theorem z24.base{w:World}{base base':Nat}{cs:List Value}{e:Slt}(h:z24 w base cs e)(hb:base'≤base):z24 w base' cs e:=by
 obtain⟨A1,c1,A2,c2,A3,c3,he,h1,h2,h3⟩:=h;exact⟨A1,c1,A2,c2,A3,c3,he,z09 h1 hb,z09 h2 hb,z09 h3 hb⟩
theorem z24.row{w w':World}{base base' T size n:Nat}{v:Value}{xs cs:List Value}{e:Slt}(h:z24 w base cs e)(ho:w.ownsRow base' T size v n xs)(hT:9≠T∧108≠T∧110≠T)(hf:Fr (z1o v) w w'):z24 w' base cs e:=by
 obtain⟨A1,c1,A2,c2,A3,c3,he,h1,h2,h3⟩:=h;exact⟨A1,c1,A2,c2,A3,c3,he,z05 h1 hf (z0i h1 ho hT.1),z05 h2 hf (z0i h2 ho hT.2.1),z05 h3 hf (z0i h3 ho hT.2.2)⟩
theorem zar.item{w:World}{B:Nat}{e:Slt}{A1 A2 A3:Option Addr}{c1 c2 c3:Nat}(h:zar w B (z1f e A1 c1 A2 c2 A3 c3) e):
  z1m w B (.agg #[.int .i64 e.item.kind,.string e.item.text,.slice A1 e.item.list.length c1,.slice A2 e.item.pairs.length c2,.slice A3 e.item.scores.length c3]) e.item:=by
 obtain⟨B1,d1,B2,d2,B3,d3,he,h1,h2,h3⟩:=h;simp only[z1f,List.cons.injEq,Value.slice.injEq] at he;obtain⟨-,-,-,-,⟨rfl,-,rfl⟩,⟨rfl,-,rfl⟩,⟨rfl,-,rfl⟩,-⟩:=he;exact⟨_,_,_,_,_,_,rfl,h1,h2,h3⟩
def z3f(w:World)(B:Nat)(v:Value)(l:List Slt):Prop:=
 ∃A c,∃rs:List (List Value),v=.slice A l.length c∧rs.length=l.length∧(∀(i:Nat) (e:Slt),l[i]? = some e→∃cs:List Value,rs[i]? = some cs∧zar w B cs e)∧Sl w B 10 v l.length rs.flatten
def z3g(w:World)(base:Nat)(v:Value)(l:List Slt):Prop:=
 ∃rs:List (List Value),rs.length=l.length∧(∀(i:Nat) (e:Slt),l[i]? = some e→∃cs:List Value,rs[i]? = some cs∧z24 w base cs e)∧w.ownsRow base 50 10 v l.length rs.flatten
theorem z3f.form{w:World}{B:Nat}{v:Value}{l:List Slt}(h:z3f w B v l):∃A c,v=.slice A l.length c:=by
 obtain⟨A,c,rs,rfl,_⟩:=h;exact⟨A,c,rfl⟩
theorem z3g.form{w:World}{B:Nat}{v:Value}{l:List Slt}(h:z3g w B v l):∃A c,v=.slice A l.length c:=by
 obtain⟨rs,_,_,ho⟩:=h;obtain⟨A,c,rfl,-⟩:=z02 ho;exact⟨A,c,rfl⟩
theorem z3g.v{w:World}{base:Nat}{v:Value}{l:List Slt}(h:z3g w base v l):z3f w w.heap.size v l:=by
 obtain⟨rs,h1,h2,h3⟩:=h;obtain⟨A,c,rfl,-⟩:=z02 h3
 exact⟨A,c,rs,rfl,h1,fun i e he=>by
  obtain⟨cs,h4,h5⟩:=h2 i e he;exact⟨cs,h4,h5.c⟩,z0o h3⟩
theorem z3f.fr{w w':World}{B:Nat}{S:List Nat}{v:Value}{l:List Slt}(h:z3f w B v l)(hf:Fr S w w')(hB:B≤w.heap.size)(hS:∀k,k∈S→B≤k):z3f w' B v l:=by
 obtain⟨A,c,rs,rfl,hl,hi,hs⟩:=h
 exact⟨A,c,rs,rfl,hl,fun i x hx=>by
  obtain⟨cs,h1,h2⟩:=hi i x hx;exact⟨cs,h1,h2.fr hf hB hS⟩,hs.fr hf hB hS⟩
theorem z3f.more{w:World}{B B':Nat}{v:Value}{l:List Slt}(h:z3f w B v l)(hB:B≤B'):z3f w B' v l:=by
 obtain⟨A,c,rs,rfl,hl,hi,hs⟩:=h
 exact⟨A,c,rs,rfl,hl,fun i x hx=>by
  obtain⟨cs,h1,h2⟩:=hi i x hx;exact⟨cs,h1,h2.more hB⟩,hs.more hB⟩
theorem z3g.fr{w w':World}{base:Nat}{v:Value}{l:List Slt}(h:z3g w base v l)(hf:Fr [] w w'):z3g w' base v l:=by
 obtain⟨rs,h1,h2,h3⟩:=h
 exact⟨rs,h1,fun i e he=>by
  obtain⟨cs,h4,h5⟩:=h2 i e he;exact⟨cs,h4,h5.fr hf⟩,z05 h3 hf (by simp)⟩
theorem z3f.nil(w:World)(B:Nat):z3f w B (.slice none 0 0) []:=⟨none,0,[],rfl,rfl,fun i x h=>by simp at h,Sl.nil _ _ _⟩
theorem z3g.nil(w:World)(base:Nat):z3g w base (.slice none 0 0) []:=⟨[],rfl,fun i x h=>by simp at h,World.ownsRow_nil _ _ _ _⟩
theorem zg3{P:List Value→Slt→Prop}{l:List Slt}{rs:List (List Value)}(hl:rs.length=l.length)(hP:∀cs e,P cs e→cs.length=10)(h:∀(i:Nat) (e:Slt),l[i]? = some e→∃cs:List Value,rs[i]? = some cs∧P cs e):∀c∈rs,c.length=10:=fun c hc=>by
 obtain⟨j,hj,rfl⟩:=List.getElem_of_mem hc;obtain⟨d,hd,h5⟩:=h j _ (List.getElem?_eq_getElem (show j < l.length by omega));rw[List.getElem?_eq_getElem hj] at hd;cases hd;exact hP _ _ h5
structure At10(w:World)(B b o:Nat)(e:Slt)(A1 A2 A3:Option Addr)(c1 c2 c3:Nat):Prop where
 k0:w.cell? ⟨b,o,none⟩=some (.string e.key)
 k1:w.cell? ⟨b,o+1,none⟩=some (.bool e.cold)
 k2:w.cell? ⟨b,o+2,none⟩=some (.int .i64 e.item.kind)
 k3:w.cell? ⟨b,o+3,none⟩=some (.string e.item.text)
 k4:w.cell? ⟨b,o+4,none⟩=some (.slice A1 e.item.list.length c1)
 k5:w.cell? ⟨b,o+5,none⟩=some (.slice A2 e.item.pairs.length c2)
 k6:w.cell? ⟨b,o+6,none⟩=some (.slice A3 e.item.scores.length c3)
 k7:w.cell? ⟨b,o+7,none⟩=some (.int .i64 e.seg)
 k8:w.cell? ⟨b,o+8,none⟩=some (.int .i64 e.rcd)
 k9:w.cell? ⟨b,o+9,none⟩=some (.int .i64 e.til)
 ent:zar w B (z1f e A1 c1 A2 c2 A3 c3) e
theorem At10.fr{w w':World}{B b o:Nat}{e:Slt}{A1 A2 A3:Option Addr}{c1 c2 c3:Nat}{S:List Nat}(h:At10 w B b o e A1 A2 A3 c1 c2 c3)(hf:Fr S w w')(hb:b < B)(hB:B≤w.heap.size)(hS:∀k,k∈S→B≤k):At10 w' B b o e A1 A2 A3 c1 c2 c3:=by
 have hn:b∉S:=fun hm=>by have:=hS b hm;omega
 exact⟨hf.cell h.k0 hn,hf.cell h.k1 hn,hf.cell h.k2 hn,hf.cell h.k3 hn,hf.cell h.k4 hn,hf.cell h.k5 hn,hf.cell h.k6 hn,hf.cell h.k7 hn,hf.cell h.k8 hn,hf.cell h.k9 hn,h.ent.fr hf hB hS⟩
theorem z3f.at_{w:World}{B:Nat}{A:Option Addr}{c:Nat}{l:List Slt}(h:z3f w B (.slice A l.length c) l)(hn:0 < l.length):
  ∃b off,A=some ⟨b,off,none⟩∧b < B∧l.length≤c∧c≤maxLen∧∀(i:Nat) (e:Slt),l[i]? = some e→∃A1 A2 A3 c1 c2 c3,At10 w B b (off+i * 10) e A1 A2 A3 c1 c2 c3:=by
 obtain⟨A',c',rs,hv,hl,hi,hs⟩:=h;cases hv;obtain⟨b,off,rfl,hb,hc,hm,hcell⟩:=hs.at_ hn;refine⟨b,off,rfl,hb,hc,hm,fun i e he=>?_⟩;obtain⟨cs,hcs,hE⟩:=hi i e he;have all10:=zg3 hl (fun cs e h=>zar.len h) hi;obtain⟨A1,c1,A2,c2,A3,c3,rfl,s1,s2,s3⟩:=hE
 have g:∀j u,j < 10→(z1f e A1 c1 A2 c2 A3 c3)[j]? = some u→w.cell? ⟨b,off+(i * 10+j),none⟩=some u:=fun j u hj hu=>
  hcell _ _ (by rw[z1w 10 rs i j _ all10 hcs hj];exact hu)
 exact⟨A1,A2,A3,c1,c2,c3,g 0 _ (by decide) rfl,by rw[Nat.add_assoc];exact g 1 _ (by decide) rfl,by rw[Nat.add_assoc];exact g 2 _ (by decide) rfl,by rw[Nat.add_assoc];exact g 3 _ (by decide) rfl,by rw[Nat.add_assoc];exact g 4 _ (by decide) rfl,by rw[Nat.add_assoc];exact g 5 _ (by decide) rfl,by rw[Nat.add_assoc];exact g 6 _ (by decide) rfl,by rw[Nat.add_assoc];exact g 7 _ (by decide) rfl,by rw[Nat.add_assoc];exact g 8 _ (by decide) rfl,by rw[Nat.add_assoc];exact g 9 _ (by decide) rfl,⟨A1,c1,A2,c2,A3,c3,rfl,s1,s2,s3⟩⟩
theorem ten{w:World}{o t:Nat}{a b c d e f g h i j:Value}(hw:Whole w o t [a,b,c,d,e,f,g,h,i,j]):
  w.cell? ⟨o,0,none⟩=some a∧w.cell? ⟨o,1,none⟩=some b∧w.cell? ⟨o,2,none⟩=some c∧w.cell? ⟨o,3,none⟩=some d∧w.cell? ⟨o,4,none⟩=some e∧w.cell? ⟨o,5,none⟩=some f∧w.cell? ⟨o,6,none⟩=some g∧w.cell? ⟨o,7,none⟩=some h∧w.cell? ⟨o,8,none⟩=some i∧w.cell? ⟨o,9,none⟩=some j:=
 ⟨hw.cell 0,hw.cell 1,hw.cell 2,hw.cell 3,hw.cell 4,hw.cell 5,hw.cell 6,hw.cell 7,hw.cell 8,hw.cell 9⟩
theorem tenF{w:World}{o t:Nat}{a b c d e f g h i j:Value}(hw:Whole w o t [a,b,c,d,e,f,g,h,i,j]):
  w.frozen? ⟨o,0,none⟩=false∧w.frozen? ⟨o,1,none⟩=false∧w.frozen? ⟨o,2,none⟩=false∧w.frozen? ⟨o,3,none⟩=false∧w.frozen? ⟨o,4,none⟩=false∧w.frozen? ⟨o,5,none⟩=false∧w.frozen? ⟨o,6,none⟩=false∧w.frozen? ⟨o,7,none⟩=false∧w.frozen? ⟨o,8,none⟩=false∧w.frozen? ⟨o,9,none⟩=false:=
 ⟨hw.frozen 0,hw.frozen 1,hw.frozen 2,hw.frozen 3,hw.frozen 4,hw.frozen 5,hw.frozen 6,hw.frozen 7,hw.frozen 8,hw.frozen 9⟩
def z2h(w:World)(B:Nat)(v:Value)(s:Sto):Prop:=∃a b,v=.agg #[a,b]∧z3f w B a s.slots∧z2p w B b s.segs
theorem z2h.fr{w w':World}{B:Nat}{S:List Nat}{v:Value}{s:Sto}(h:z2h w B v s)(hf:Fr S w w')(hB:B≤w.heap.size)(hS:∀k,k∈S→B≤k):z2h w' B v s:=by
 obtain⟨a,b,e,h1,h2⟩:=h;exact⟨a,b,e,h1.fr hf hB hS,h2.fr hf hB hS⟩
theorem z2h.more{w:World}{B B':Nat}{v:Value}{s:Sto}(h:z2h w B v s)(hB:B≤B'):z2h w B' v s:=by
 obtain⟨a,b,e,h1,h2⟩:=h;exact⟨a,b,e,h1.more hB,h2.more hB⟩
theorem z2h.go{w w':World}{v:Value}{s:Sto}(h:z2h w w.heap.size v s)(hf:Fr [] w w'):z2h w' w'.heap.size v s:=(h.fr hf (Nat.le_refl _) (by simp)).more hf.size
def noS:Sto:=⟨[],[]⟩
theorem zii:(prog.info? 50).map (fun i=>(i.zero,i.size,i.bytes))=some (some (.agg #[.string ⟨#[]⟩,.bool false,.int .i64 0,.string ⟨#[]⟩,.slice none 0 0,.slice none 0 0,.slice none 0 0,.int .i64 0,.int .i64 0,.int .i64 0]),10,144):=by kernel_rfl
def z1b(ss:List (List ByteArray))(a b:Int):Bool:=decide (0≤a)&&decide (a < ss.length)&&decide (0≤b)&&decide (b < (ss.getD a.toNat []).length)
def zad:List ByteArray→Int
 | []=>0
 | s :: l=>if z0u s≠0 then z0u s else zad l
def z5d(ss:List (List ByteArray))(x:Slt):Int:=
 if 60 < x.key.size then 2
 else if x.cold=false∧z08 x.item≠0 then z08 x.item
 else if x.cold=false∧¬(x.seg=0∧x.rcd=0) then 1
 else if x.cold=true∧z0m x.item=false then 1
 else if x.cold=true∧z1b ss x.seg x.rcd=false then 5
 else if z3h x.til=false then 3 else 0
def zgg(ss:List (List ByteArray)):Option ByteArray→List Slt→Int
 | _,[]=>0
 | p,x :: l=>if z5d ss x≠0 then z5d ss x else if z1t p x.key=true then 4 else zgg ss (some x.key) l
def z4m(s:Sto):Bool:=decide (16 < s.slots.length)||decide (8 < s.segs.length)||s.segs.any (fun l=>decide (4 < l.length))
def z07(s:Sto):Int:=if z4m s=true then 2 else if zad s.segs.flatten≠0 then zad s.segs.flatten else zgg s.segs none s.slots
def z5c(l:List Slt)(k:Nat):Option ByteArray:=if k=0 then none else (l[k - 1]?).map (·.key)
theorem zbw{α:Type}{l:List α}{k:Nat}{e:α}(h:l[k]? = some e):l.drop k=e :: l.drop (k+1):=by
 have hk:=(List.getElem?_eq_some_iff.1 h).1;rw[List.drop_eq_getElem_cons hk];congr 1;rw[List.getElem?_eq_getElem hk] at h;exact Option.some.inj h
theorem zj8{ss:List (List ByteArray)}{l:List Slt}{k:Nat}{x:Slt}(h:l[k]? = some x):
  zgg ss (z5c l k) (l.drop k)=if z5d ss x≠0 then z5d ss x else if z1t (z5c l k) x.key=true then 4 else zgg ss (z5c l (k+1)) (l.drop (k+1)):=by
 have e2:z5c l (k+1)=some x.key:=by unfold z5c;rw[if_neg (by omega),Nat.add_sub_cancel,h];rfl
 rw[zbw h,e2];rfl
theorem zgy(l:List Slt):z5c l 0=none:=rfl
theorem zfw{l:List Slt}{j:Nat}{p:Slt}(h:l[j]? = some p):z5c l (j+1)=some p.key:=by
 unfold z5c;rw[if_neg (by omega),Nat.add_sub_cancel,h];rfl
structure zaa(ss:List (List ByteArray))(x:Slt):Prop where
 key:x.key.size≤60
 hot:x.cold=false→z08 x.item=0∧x.seg=0∧x.rcd=0
 cold:x.cold=true→z0m x.item=true∧z1b ss x.seg x.rcd=true
 til:0≤x.til∧x.til≤1000000
structure z2t(s:Sto):Prop where
 le:s.slots.length≤16
 sle:s.segs.length≤8
 rle:∀l∈s.segs,l.length≤4
 recs:∀l∈s.segs,∀t∈l,z0u t=0
 slot:∀x∈s.slots,zaa s.segs x
 rise:rises (ltK Slt.key) s.slots=true
theorem zl9{ss:List (List ByteArray)}{x:Slt}(h:z5d ss x=0):zaa ss x:=by
 unfold z5d at h;split at h
 ·cases h
 ·rename_i h1;split at h
  ·rename_i h2;exact absurd h h2.2
  ·rename_i h2;split at h
   ·cases h
   ·rename_i h3;split at h
    ·cases h
    ·rename_i h4;split at h
     ·cases h
     ·rename_i h5;split at h
      ·cases h
      ·rename_i h6;have ht:z3h x.til=true:=by simpa using h6
       unfold z3h at ht;refine⟨by omega,fun hc=>?_,fun hc=>?_,by simpa using ht⟩
       ·have a:=Decidable.not_not.1 (fun hn=>h2 ⟨hc,hn⟩);have b:=Decidable.not_not.1 (fun hn=>h3 ⟨hc,hn⟩);exact⟨a,b.1,b.2⟩
       ·refine⟨?_,?_⟩
        ·cases hn:z0m x.item with
         | true=>rfl
         | false=>exact absurd ⟨hc,hn⟩ h4
        ·cases hn:z1b ss x.seg x.rcd with
         | true=>rfl
         | false=>exact absurd ⟨hc,hn⟩ h5
theorem zk7{ss:List (List ByteArray)}{x:Slt}(h:zaa ss x):z5d ss x=0:=by
 unfold z5d;have ht:z3h x.til=true:=by unfold z3h;rw[decide_eq_true h.til.1,decide_eq_true h.til.2];rfl
 rw[if_neg (by have:=h.key;omega),if_neg (fun hn=>hn.2 (h.hot hn.1).1),if_neg (fun hn=>hn.2 (h.hot hn.1).2),if_neg (fun hn=>by rw[(h.cold hn.1).1] at hn;exact absurd hn.2 (by decide)),if_neg (fun hn=>by rw[(h.cold hn.1).2] at hn;exact absurd hn.2 (by decide)),if_neg (by rw[ht];decide)]
theorem zbx{ss:List (List ByteArray)}:∀ {l:List Slt} {p:Option ByteArray},zgg ss p l=0→(∀x∈l,zaa ss x)∧rises ltS (l.map (·.key))=true∧(∀x,l[0]? = some x→z1t p x.key=false)
 | [],p,_=>⟨(fun e he=>by cases he),rfl,(fun e he=>by simp at he)⟩
 | e :: l,p,h=>by
  unfold zgg at h;by_cases hc:z5d ss e=0
  ·rw[if_neg (by simpa using hc)] at h;by_cases hb:z1t p e.key=true
   ·rw[if_pos hb] at h;cases h
   ·rw[if_neg hb] at h;obtain⟨h1,h2,h3⟩:=zbx h;refine⟨fun x hx=>?_,?_,fun x hx=>by simp at hx;subst hx;simpa using hb⟩
    ·rcases List.mem_cons.1 hx with rfl|hx
     ·exact zl9 hc
     ·exact h1 x hx
    ·cases l with
     | nil=>rfl
     | cons y l=>
      have:=h3 y rfl;unfold z1t at this;rw[List.map_cons,List.map_cons];rw[List.map_cons] at h2;unfold rises;rw[Bool.and_eq_true];exact⟨by simpa using this,h2⟩
  ·rw[if_pos hc] at h;exact absurd h hc
theorem zi8{ss:List (List ByteArray)}:∀ {l:List Slt} {p:Option ByteArray},(∀x∈l,zaa ss x)→rises ltS (l.map (·.key))=true→(∀x,l[0]? = some x→z1t p x.key=false)→zgg ss p l=0
 | [],p,_,_,_=>rfl
 | e :: l,p,h1,h2,h3=>by
  unfold zgg;rw[if_neg (by simpa using zk7 (h1 e (.head _))),if_neg (by rw[h3 e rfl];decide)];refine zi8 (fun x hx=>h1 x (.tail _ hx)) ?_ ?_
  ·cases l with
   | nil=>rfl
   | cons y l=>
    rw[List.map_cons,List.map_cons] at h2;unfold rises at h2;rw[Bool.and_eq_true] at h2;rw[List.map_cons];exact h2.2
  ·intro x hx;cases l with
   | nil=>simp at hx
   | cons y l=>
    simp at hx;subst hx;rw[List.map_cons,List.map_cons] at h2;unfold rises at h2;rw[Bool.and_eq_true] at h2;show(!ltS e.key y.key)=false;rw[h2.1];rfl
theorem zhw:∀ {l:List ByteArray},zad l=0→∀t∈l,z0u t=0
 | [],_,t,ht=>by cases ht
 | s :: l,h,t,ht=>by
  unfold zad at h;by_cases hc:z0u s=0
  ·rw[if_neg (by simpa using hc)] at h;rcases List.mem_cons.1 ht with rfl|ht
   ·exact hc
   ·exact zhw h t ht
  ·rw[if_pos hc] at h;exact absurd h hc
theorem zj1:∀ {l:List ByteArray},(∀t∈l,z0u t=0)→zad l=0
 | [],_=>rfl
 | s :: l,h=>by
  unfold zad;rw[if_neg (by simpa using h s (.head _))];exact zj1 (fun t ht=>h t (.tail _ ht))
theorem zho(a b c:ByteArray)(h1:ltS a b=true)(h2:ltS b c=true):ltS a c=true:=decide_eq_true (z3u (of_decide_eq_true h1) (of_decide_eq_true h2))
theorem zfg{s:Sto}(h:z07 s=0):z2t s:=by
 unfold z07 at h;split at h
 ·cases h
 ·rename_i hm;have hm:z4m s=false:=by simpa using hm
  unfold z4m at hm;simp only[Bool.or_eq_false_iff,decide_eq_false_iff_not,List.any_eq_false,decide_eq_true_eq] at hm;obtain⟨⟨m1,m2⟩,m3⟩:=hm;split at h
  ·rename_i h2;exact absurd h h2
  ·rename_i h2;have h2:zad s.segs.flatten=0:=Decidable.not_not.1 h2;obtain⟨g1,g2,_⟩:=zbx h;refine⟨by omega,by omega,fun l hl=>by have:=m3 l hl;omega,fun l hl t ht=>zhw h2 t (List.mem_flatten.2 ⟨l,hl,ht⟩),g1,?_⟩;refine z5x ?_;have:=z5z (lt:=ltS) zho g2;rw[List.pairwise_map] at this;exact this
theorem z3a{s:Sto}(h:z2t s):z07 s=0:=by
 unfold z07
 have hm:z4m s=false:=by
  unfold z4m;simp only[Bool.or_eq_false_iff,decide_eq_false_iff_not,List.any_eq_false,decide_eq_true_eq];exact⟨⟨by have:=h.le;omega,by have:=h.sle;omega⟩,fun l hl=>by have:=h.rle l hl;omega⟩
 rw[if_neg (by rw[hm];decide),if_neg (by
  refine not_not_intro (zj1 fun t ht=>?_);obtain⟨l,hl,ht⟩:=List.mem_flatten.1 ht;exact h.recs l hl t ht)]
 refine zi8 h.slot ?_ (fun x hx=>rfl);refine z5x ?_;rw[List.pairwise_map];exact z5z (z4z Slt.key) h.rise
end Go.Proofs.YtmkhmejempcimaaGreatDoor
