/- Contracts; no condition but each theorem's own. -/
import Derived.Test.YtnmoajaelmimnaaGreatDoorSlY9
import Derived.Test.YtnmoajaelmimnaaGreatDoorSlY11
set_option linter.unusedVariables false
set_option linter.unusedSimpArgs false
set_option maxHeartbeats 8000000
set_option maxRecDepth 100000
namespace Go.Proofs.YtnmoajaelmimnaaGreatDoor
open Go.Proofs.Tryz
section
open Go.RowKit
structure Slt where
 key:YY
 cold:Bool
 item:Itm
 seg:Int
 rcd:Int
 til:Int
abbrev ySa(x:Slt)(A:YV)(a:Nat)(B:YV)(b:Nat)(C:YV)(c:Nat):Array Value:=#[.string x.key,.bool x.cold,.int .i64 x.item.kind,.string x.item.text,.slice A x.item.list.length a,.slice B x.item.pairs.length b,.slice C x.item.scores.length c,.int .i64 x.seg,.int .i64 x.rcd,.int .i64 x.til]
abbrev ySl(x:Slt)(A:YV)(a:Nat)(B:YV)(b:Nat)(C:YV)(c:Nat):List Value:=[.string x.key,.bool x.cold,.int .i64 x.item.kind,.string x.item.text,.slice A x.item.list.length a,.slice B x.item.pairs.length b,.slice C x.item.scores.length c,.int .i64 x.seg,.int .i64 x.rcd,.int .i64 x.til]
abbrev ySza:Array Value:=#[.string ⟨#[]⟩,.bool false,.int .i64 0,.string ⟨#[]⟩,.slice none 0 0,.slice none 0 0,.slice none 0 0,.int .i64 0,.int .i64 0,.int .i64 0]
abbrev ySzl:List Value:=[.string ⟨#[]⟩,.bool false,.int .i64 0,.string ⟨#[]⟩,.slice none 0 0,.slice none 0 0,.slice none 0 0,.int .i64 0,.int .i64 0,.int .i64 0]
abbrev ySc(w:World)(p:Nat)(x:Slt)(A:YV)(a:Nat)(B:YV)(b:Nat)(C:YV)(c:Nat):Prop:=w.cell? ⟨p,0,none⟩=some (.string x.key)∧w.cell? ⟨p,1,none⟩=some (.bool x.cold)∧w.cell? ⟨p,2,none⟩=some (.int .i64 x.item.kind)∧w.cell? ⟨p,3,none⟩=some (.string x.item.text)∧w.cell? ⟨p,4,none⟩=some (.slice A x.item.list.length a)∧w.cell? ⟨p,5,none⟩=some (.slice B x.item.pairs.length b)∧w.cell? ⟨p,6,none⟩=some (.slice C x.item.scores.length c)∧w.cell? ⟨p,7,none⟩=some (.int .i64 x.seg)∧w.cell? ⟨p,8,none⟩=some (.int .i64 x.rcd)∧w.cell? ⟨p,9,none⟩=some (.int .i64 x.til)
structure Sto where
 slots:List Slt
 segs:List YX
structure Slt.Small(e:Slt):Prop where
 key:e.key.size≤281474976710656
 item:e.item.Small
 seg:-9223372036854775808≤e.seg∧e.seg≤9223372036854775807
 rcd:-9223372036854775808≤e.rcd∧e.rcd≤9223372036854775807
 til:-9223372036854775808≤e.til∧e.til≤9223372036854775807
structure Sto.Small(s:Sto):Prop where
 slots:∀e∈s.slots,e.Small
 le:s.slots.length≤281474976710656
 segs:∀l∈s.segs,l.length≤281474976710656∧∀t∈l,t.size≤281474976710656
 sle:s.segs.length≤281474976710656
def z3d(e:Slt)(A1:YV)(c1:Nat)(A2:YV)(c2:Nat)(A3:YV)(c3:Nat):List Value:=
 [.string e.key,.bool e.cold,.int .i64 e.item.kind,.string e.item.text,.slice A1 e.item.list.length c1,.slice A2 e.item.pairs.length c2,.slice A3 e.item.scores.length c3,.int .i64 e.seg,.int .i64 e.rcd,.int .i64 e.til]
def zis(w:World)(B:Nat)(cs:List Value)(e:Slt):Prop:=
 ∃A1 c1 A2 c2 A3 c3,cs=z3d e A1 c1 A2 c2 A3 c3∧Sl w B 1 (.slice A1 e.item.list.length c1) e.item.list.length (z03 e.item.list)∧Sl w B 2 (.slice A2 e.item.pairs.length c2) e.item.pairs.length (z0e e.item.pairs)∧Sl w B 2 (.slice A3 e.item.scores.length c3) e.item.scores.length (z06 e.item.scores)
def z4a(w:World)(base:Nat)(cs:List Value)(e:Slt):Prop:=
 ∃A1 c1 A2 c2 A3 c3,cs=z3d e A1 c1 A2 c2 A3 c3∧w.ownsRow base 9 1 (.slice A1 e.item.list.length c1) e.item.list.length (z03 e.item.list)∧w.ownsRow base 97 2 (.slice A2 e.item.pairs.length c2) e.item.pairs.length (z0e e.item.pairs)∧w.ownsRow base 102 2 (.slice A3 e.item.scores.length c3) e.item.scores.length (z06 e.item.scores)
theorem zis.len{w:World}{B:Nat}{cs:List Value}{e:Slt}(h:zis w B cs e):cs.length=10:=by obtain⟨_,_,_,_,_,_,rfl,_⟩:=h;rfl
theorem z4a.len{w:World}{B:Nat}{cs:List Value}{e:Slt}(h:z4a w B cs e):cs.length=10:=by obtain⟨_,_,_,_,_,_,rfl,_⟩:=h;rfl
theorem z4a.c{w:World}{base:Nat}{cs:List Value}{e:Slt}(h:z4a w base cs e):zis w w.heap.size cs e:=by
 obtain⟨a,c1,d,c2,b,j,f,k,g,h3⟩:=h;exact⟨a,c1,d,c2,b,j,f,z0l k,z0l g,z0l h3⟩
theorem zis.fr{w w':World}{B:Nat}{S:List Nat}{cs:List Value}{e:Slt}(h:zis w B cs e)(hf:Fr S w w')(hB:B≤w.heap.size)(hS:∀k,k∈S→B≤k):zis w' B cs e:=by
 obtain⟨a,c1,d,c2,b,j,f,l,g,h3⟩:=h;exact⟨a,c1,d,c2,b,j,f,l.fr hf hB hS,g.fr hf hB hS,h3.fr hf hB hS⟩
theorem zis.more{w:World}{B B':Nat}{cs:List Value}{e:Slt}(h:zis w B cs e)(hB:B≤B'):zis w B' cs e:=by
 obtain⟨a,c1,d,c2,b,j,f,k,g,h3⟩:=h;exact⟨a,c1,d,c2,b,j,f,k.more hB,g.more hB,h3.more hB⟩
theorem z4a.fr{w w':World}{base:Nat}{cs:List Value}{e:Slt}(h:z4a w base cs e)(hf:Fr [] w w'):z4a w' base cs e:=by
 obtain⟨a,c1,d,c2,b,j,f,k,g,h3⟩:=h;exact⟨a,c1,d,c2,b,j,f,z08 k hf (by simp),z08 g hf (by simp),z08 h3 hf (by simp)⟩
theorem z4a.base{w:World}{base base':Nat}{cs:List Value}{e:Slt}(h:z4a w base cs e)(hb:base'≤base):z4a w base' cs e:=by
 obtain⟨a,c1,d,c2,b,j,f,k,g,h3⟩:=h;exact⟨a,c1,d,c2,b,j,f,z0i k hb,z0i g hb,z0i h3 hb⟩
theorem z4a.row{w w':World}{base base' T size n:Nat}{v:Value}{xs cs:List Value}{e:Slt}(h:z4a w base cs e)(ho:w.ownsRow base' T size v n xs)(hT:9≠T∧97≠T∧102≠T)(hf:Fr (z1w v) w w'):z4a w' base cs e:=by
 obtain⟨d,c1,g,c2,f,k,j,b,a,h3⟩:=h;exact⟨d,c1,g,c2,f,k,j,z08 b hf (z0w b ho hT.1),z08 a hf (z0w a ho hT.2.1),z08 h3 hf (z0w h3 ho hT.2.2)⟩
theorem zis.item{w:World}{B:Nat}{e:Slt}{A1 A2 A3:YV}{c1 c2 c3:Nat}(h:zis w B (z3d e A1 c1 A2 c2 A3 c3) e):
  z0p w B (.agg #[.int .i64 e.item.kind,.string e.item.text,.slice A1 e.item.list.length c1,.slice A2 e.item.pairs.length c2,.slice A3 e.item.scores.length c3]) e.item:=by
 obtain⟨l,j,m,f,k,g,a,d,b,h3⟩:=h;simp only[z3d,List.cons.injEq,Value.slice.injEq] at a;obtain⟨-,-,-,-,⟨rfl,-,rfl⟩,⟨rfl,-,rfl⟩,⟨rfl,-,rfl⟩,-⟩:=a;exact⟨_,_,_,_,_,_,rfl,d,b,h3⟩
def z6d(w:World)(B:Nat)(v:Value)(l:List Slt):Prop:=
 ∃A c,∃rs:List (List Value),v=.slice A l.length c∧rs.length=l.length∧(∀(i:Nat) (e:Slt),l[i]? = some e→∃cs:List Value,rs[i]? = some cs∧zis w B cs e)∧Sl w B 10 v l.length rs.flatten
def z6c(w:World)(base:Nat)(v:Value)(l:List Slt):Prop:=
 ∃rs:List (List Value),rs.length=l.length∧(∀(i:Nat) (e:Slt),l[i]? = some e→∃cs:List Value,rs[i]? = some cs∧z4a w base cs e)∧w.ownsRow base 124 10 v l.length rs.flatten
theorem z6d.form{w:World}{B:Nat}{v:Value}{l:List Slt}(h:z6d w B v l):∃A c,v=.slice A l.length c:=by
 obtain⟨A,c,a,rfl,_⟩:=h;exact⟨A,c,rfl⟩
theorem z6c.form{w:World}{B:Nat}{v:Value}{l:List Slt}(h:z6c w B v l):∃A c,v=.slice A l.length c:=by
 obtain⟨b,_,_,a⟩:=h;obtain⟨A,c,rfl,-⟩:=z05 a;exact⟨A,c,rfl⟩
theorem z6c.v{w:World}{base:Nat}{v:Value}{l:List Slt}(h:z6c w base v l):z6d w w.heap.size v l:=by
 obtain⟨a,g,d,h3⟩:=h;obtain⟨A,c,rfl,-⟩:=z05 h3
 exact⟨A,c,a,rfl,g,fun i e b=>by
  obtain⟨f,h4,j⟩:=d i e b;exact⟨f,h4,j.c⟩,z0l h3⟩
theorem z6d.fr{w w':World}{B:Nat}{S:List Nat}{v:Value}{l:List Slt}(h:z6d w B v l)(hf:Fr S w w')(hB:B≤w.heap.size)(hS:∀k,k∈S→B≤k):z6d w' B v l:=by
 obtain⟨A,c,a,rfl,b,hi,hs⟩:=h
 exact⟨A,c,a,rfl,b,fun i x g=>by
  obtain⟨e,f,d⟩:=hi i x g;exact⟨e,f,d.fr hf hB hS⟩,hs.fr hf hB hS⟩
theorem z6d.more{w:World}{B B':Nat}{v:Value}{l:List Slt}(h:z6d w B v l)(hB:B≤B'):z6d w B' v l:=by
 obtain⟨A,c,a,rfl,b,hi,hs⟩:=h
 exact⟨A,c,a,rfl,b,fun i x g=>by
  obtain⟨e,f,d⟩:=hi i x g;exact⟨e,f,d.more hB⟩,hs.more hB⟩
theorem z6c.fr{w w':World}{base:Nat}{v:Value}{l:List Slt}(h:z6c w base v l)(hf:Fr [] w w'):z6c w' base v l:=by
 obtain⟨a,g,d,h3⟩:=h
 exact⟨a,g,fun i e b=>by
  obtain⟨f,h4,j⟩:=d i e b;exact⟨f,h4,j.fr hf⟩,z08 h3 hf (by simp)⟩
theorem z6d.nil(w)(B:Nat):z6d w B (.slice none 0 0) []:=⟨none,0,[],rfl,rfl,fun i x h=>by simp at h,Sl.nil _ _ _⟩
theorem z6c.nil(w)(base:Nat):z6c w base (.slice none 0 0) []:=⟨[],rfl,fun i x h=>by simp at h,World.ownsRow_nil _ _ _ _⟩
theorem zs2{P:List Value→Slt→Prop}{l:List Slt}{rs:List (List Value)}(hl:rs.length=l.length)(hP:∀cs e,P cs e→cs.length=10)(h:∀(i:Nat) (e),l[i]? = some e→∃cs:List Value,rs[i]? = some cs∧P cs e):∀c∈rs,c.length=10:=fun c hc=>by
 obtain⟨j,hj,rfl⟩:=Vy hc;obtain⟨d,hd,h5⟩:=h j _ (Xa (show j < l.length by omega));rw[Xa hj] at hd;cases hd;exact hP _ _ h5
structure At10(w:World)(B b o:Nat)(e:Slt)(A1 A2 A3:YV)(c1 c2 c3:Nat):Prop where
 k0:w.cell? ⟨b,o,none⟩=some (.string e.key)
 k1:w.cell? ⟨b,o+1,none⟩=some (.bool e.cold)
 k2:w.cell? ⟨b,o+2,none⟩=some (.int .i64 e.item.kind)
 k3:w.cell? ⟨b,o+3,none⟩=some (.string e.item.text)
 k4:w.cell? ⟨b,o+4,none⟩=some (.slice A1 e.item.list.length c1)
 k5:w.cell? ⟨b,o+5,none⟩=some (.slice A2 e.item.pairs.length c2)
 k6:w.cell? ⟨b,o+6,none⟩=some (.slice A3 e.item.scores.length c3)
 k7:w.cell? ⟨b,o+7,none⟩=some (.int .i64 e.seg)
 k8:w.cell? ⟨b,o+8,none⟩=some (.int .i64 e.rcd)
 k9:w.cell? ⟨b,o+9,none⟩=some (.int .i64 e.til)
 ent:zis w B (z3d e A1 c1 A2 c2 A3 c3) e
theorem At10.fr{w w':World}{B b o:Nat}{e:Slt}{A1 A2 A3:YV}{c1 c2 c3:Nat}{S:List Nat}(h:At10 w B b o e A1 A2 A3 c1 c2 c3)(hf:Fr S w w')(hb:b < B)(hB:B≤w.heap.size)(hS:∀k,k∈S→B≤k):At10 w' B b o e A1 A2 A3 c1 c2 c3:=by
 have a:b∉S:=fun d=>by have:=hS b d;omega
 exact⟨hf.cell h.k0 a,hf.cell h.k1 a,hf.cell h.k2 a,hf.cell h.k3 a,hf.cell h.k4 a,hf.cell h.k5 a,hf.cell h.k6 a,hf.cell h.k7 a,hf.cell h.k8 a,hf.cell h.k9 a,h.ent.fr hf hB hS⟩
theorem z6d.at_{w:World}{B:Nat}{A:YV}{c:Nat}{l:List Slt}(h:z6d w B (.slice A l.length c) l)(hn:0 < l.length):
  ∃b off,A=some ⟨b,off,none⟩∧b < B∧l.length≤c∧c≤maxLen∧∀(i:Nat) (e:Slt),l[i]? = some e→∃A1 A2 A3 c1 c2 c3,At10 w B b (off+i * 10) e A1 A2 A3 c1 c2 c3:=by
 obtain⟨H,G,p,C,s,hi,hs⟩:=h;cases C;obtain⟨b,off,rfl,k,F,y,d⟩:=hs.at_ hn;refine⟨b,off,rfl,k,F,y,fun i e D=>?_⟩;obtain⟨n,f,r⟩:=hi i e D;have a:=zs2 s (fun n e h=>zis.len h) hi;obtain⟨A1,c1,A2,c2,A3,c3,rfl,x,m,z⟩:=r
 have g:∀j u,j < 10→(z3d e A1 c1 A2 c2 A3 c3)[j]? = some u→w.cell? ⟨b,off+(i * 10+j),none⟩=some u:=fun j u E t=>
  d _ _ (by rw[z3q 10 p i j _ a f E];exact t)
 exact⟨A1,A2,A3,c1,c2,c3,g 0 _ (by decide) rfl,by rw[Yb];exact g 1 _ (by decide) rfl,by rw[Yb];exact g 2 _ (by decide) rfl,by rw[Yb];exact g 3 _ (by decide) rfl,by rw[Yb];exact g 4 _ (by decide) rfl,by rw[Yb];exact g 5 _ (by decide) rfl,by rw[Yb];exact g 6 _ (by decide) rfl,by rw[Yb];exact g 7 _ (by decide) rfl,by rw[Yb];exact g 8 _ (by decide) rfl,by rw[Yb];exact g 9 _ (by decide) rfl,⟨A1,c1,A2,c2,A3,c3,rfl,x,m,z⟩⟩
theorem ten{w:World}{o t:Nat}{a b c d e f g h i j:Value}(hw:Whole w o t [a,b,c,d,e,f,g,h,i,j]):
  w.cell? ⟨o,0,none⟩=some a∧w.cell? ⟨o,1,none⟩=some b∧w.cell? ⟨o,2,none⟩=some c∧w.cell? ⟨o,3,none⟩=some d∧w.cell? ⟨o,4,none⟩=some e∧w.cell? ⟨o,5,none⟩=some f∧w.cell? ⟨o,6,none⟩=some g∧w.cell? ⟨o,7,none⟩=some h∧w.cell? ⟨o,8,none⟩=some i∧w.cell? ⟨o,9,none⟩=some j:=
 ⟨hw.cell 0,hw.cell 1,hw.cell 2,hw.cell 3,hw.cell 4,hw.cell 5,hw.cell 6,hw.cell 7,hw.cell 8,hw.cell 9⟩
theorem tenF{w:World}{o t:Nat}{a b c d e f g h i j:Value}(hw:Whole w o t [a,b,c,d,e,f,g,h,i,j]):
  w.frozen? ⟨o,0,none⟩=false∧w.frozen? ⟨o,1,none⟩=false∧w.frozen? ⟨o,2,none⟩=false∧w.frozen? ⟨o,3,none⟩=false∧w.frozen? ⟨o,4,none⟩=false∧w.frozen? ⟨o,5,none⟩=false∧w.frozen? ⟨o,6,none⟩=false∧w.frozen? ⟨o,7,none⟩=false∧w.frozen? ⟨o,8,none⟩=false∧w.frozen? ⟨o,9,none⟩=false:=
 ⟨hw.frozen 0,hw.frozen 1,hw.frozen 2,hw.frozen 3,hw.frozen 4,hw.frozen 5,hw.frozen 6,hw.frozen 7,hw.frozen 8,hw.frozen 9⟩
def z5p(w:World)(B:Nat)(v:Value)(s:Sto):Prop:=∃a b,v=.agg #[a,b]∧z6d w B a s.slots∧z5g w B b s.segs
theorem z5p.fr{w w':World}{B:Nat}{S:List Nat}{v:Value}{s:Sto}(h:z5p w B v s)(hf:Fr S w w')(hB:B≤w.heap.size)(hS:∀k,k∈S→B≤k):z5p w' B v s:=by
 obtain⟨a,b,e,d,f⟩:=h;exact⟨a,b,e,d.fr hf hB hS,f.fr hf hB hS⟩
theorem z5p.more{w:World}{B B':Nat}{v:Value}{s:Sto}(h:z5p w B v s)(hB:B≤B'):z5p w B' v s:=by
 obtain⟨a,b,e,d,f⟩:=h;exact⟨a,b,e,d.more hB,f.more hB⟩
theorem z5p.go{w w':World}{v:Value}{s:Sto}(h:z5p w w.heap.size v s)(hf:Fr [] w w'):z5p w' w'.heap.size v s:=(h.fr hf (Xb _) (by simp)).more hf.size
def noS:Sto:=⟨[],[]⟩
theorem zwv:(prog.info? 124).map (fun i=>(i.zero,i.size,i.bytes))=some (some (.agg #[.string ⟨#[]⟩,.bool false,.int .i64 0,.string ⟨#[]⟩,.slice none 0 0,.slice none 0 0,.slice none 0 0,.int .i64 0,.int .i64 0,.int .i64 0]),10,144):=by kernel_rfl
def z2w(ss:List YX)(a b:Int):Bool:=decide (0≤a)&&decide (a < ss.length)&&decide (0≤b)&&decide (b < (ss.getD a.toNat []).length)
def zi3:YX→Int
 | []=>0
 | s :: l=>if z1n s≠0 then z1n s else zi3 l
def z9r(ss:List YX)(x:Slt):Int:=
 if 60 < x.key.size then 2
 else if x.cold=false∧z0a x.item≠0 then z0a x.item
 else if x.cold=false∧¬(x.seg=0∧x.rcd=0) then 1
 else if x.cold=true∧z0v x.item=false then 1
 else if x.cold=true∧z2w ss x.seg x.rcd=false then 5
 else if z30 x.til=false then 3 else 0
def zqx(ss:List YX):Option YY→List Slt→Int
 | _,[]=>0
 | p,x :: l=>if z9r ss x≠0 then z9r ss x else if z2v p x.key=true then 4 else zqx ss (some x.key) l
def z8h(s:Sto):Bool:=decide (16 < s.slots.length)||decide (8 < s.segs.length)||s.segs.any (fun l=>decide (4 < l.length))
def z0q(s:Sto):Int:=if z8h s=true then 2 else if zi3 s.segs.flatten≠0 then zi3 s.segs.flatten else zqx s.segs none s.slots
def z9q(l:List Slt)(k:Nat):Option YY:=if k=0 then none else (l[k - 1]?).map (·.key)
theorem zjl{α:Type}{l:List α}{k:Nat}{e:α}(h:l[k]? = some e):l.drop k=e :: l.drop (k+1):=by
 have a:=(Xe.1 h).1;rw[Yu a];congr 1;rw[Xa a] at h;exact Option.some.inj h
theorem zup{ss:List YX}{l:List Slt}{k:Nat}{x:Slt}(h:l[k]? = some x):
  zqx ss (z9q l k) (l.drop k)=if z9r ss x≠0 then z9r ss x else if z2v (z9q l k) x.key=true then 4 else zqx ss (z9q l (k+1)) (l.drop (k+1)):=by
 have a:z9q l (k+1)=some x.key:=by unfold z9q;rw[Xc (by omega),Jq,h];rfl
 rw[zjl h,a];rfl
theorem zrs(l:List Slt):z9q l 0=none:=rfl
theorem zrr{l:List Slt}{j:Nat}{p:Slt}(h:l[j]? = some p):z9q l (j+1)=some p.key:=by
 unfold z9q;rw[Xc (by omega),Jq,h];rfl
structure zh2(ss:List YX)(x:Slt):Prop where
 key:x.key.size≤60
 hot:x.cold=false→z0a x.item=0∧x.seg=0∧x.rcd=0
 cold:x.cold=true→z0v x.item=true∧z2w ss x.seg x.rcd=true
 til:0≤x.til∧x.til≤1000000
structure z6e(s:Sto):Prop where
 le:s.slots.length≤16
 sle:s.segs.length≤8
 rle:∀l∈s.segs,l.length≤4
 recs:∀l∈s.segs,∀t∈l,z1n t=0
 slot:∀x∈s.slots,zh2 s.segs x
 rise:rises (ltK Slt.key) s.slots=true
theorem q0w{ss:List YX}{x:Slt}(h:z9r ss x=0):zh2 ss x:=by
 unfold z9r at h;split at h
 ·cases h
 ·rename_i h1;split at h
  ·rename_i h2;exact absurd h h2.2
  ·rename_i h2;split at h
   ·cases h
   ·rename_i h3;split at h
    ·cases h
    ·rename_i h4;split at h
     ·cases h
     ·rename_i h5;split at h
      ·cases h
      ·rename_i h6;have f:z30 x.til=true:=by simpa using h6
       unfold z30 at f;refine⟨by omega,fun e=>?_,fun e=>?_,by simpa using f⟩
       ·have a:=Decidable.not_not.1 (fun d=>h2 ⟨e,d⟩);have b:=Decidable.not_not.1 (fun d=>h3 ⟨e,d⟩);exact⟨a,b.1,b.2⟩
       ·refine⟨?_,?_⟩
        ·cases d:z0v x.item with
         | true=>rfl
         | false=>exact absurd ⟨e,d⟩ h4
        ·cases d:z2w ss x.seg x.rcd with
         | true=>rfl
         | false=>exact absurd ⟨e,d⟩ h5
theorem q0v{ss:List YX}{x:Slt}(h:zh2 ss x):z9r ss x=0:=by
 unfold z9r;have b:z30 x.til=true:=by unfold z30;rw[Xi h.til.1,Xi h.til.2];rfl
 rw[Xc (by have:=h.key;omega),Xc (fun a=>a.2 (h.hot a.1).1),Xc (fun a=>a.2 (h.hot a.1).2),Xc (fun a=>by rw[(h.cold a.1).1] at a;exact absurd a.2 (by decide)),Xc (fun a=>by rw[(h.cold a.1).2] at a;exact absurd a.2 (by decide)),Xc (by rw[b];decide)]
theorem zk3{ss:List YX}:∀ {l:List Slt} {p:Option YY},zqx ss p l=0→(∀x∈l,zh2 ss x)∧rises ltS (l.map (·.key))=true∧(∀x,l[0]? = some x→z2v p x.key=false)
 | [],p,_=>⟨(fun e he=>by cases he),rfl,(fun e he=>by simp at he)⟩
 | e :: l,p,h=>by
  unfold zqx at h;by_cases hc:z9r ss e=0
  ·rw[Xc (by simpa using hc)] at h;by_cases hb:z2v p e.key=true
   ·rw[Xf hb] at h;cases h
   ·rw[Xc hb] at h;obtain⟨h1,h2,h3⟩:=zk3 h;refine⟨fun x hx=>?_,?_,fun x hx=>by simp at hx;subst hx;simpa using hb⟩
    ·rcases Yh.1 hx with rfl|hx
     ·exact q0w hc
     ·exact h1 x hx
    ·cases l with
     | nil=>rfl
     | cons y l=>
      have:=h3 y rfl;unfold z2v at this;rw[Yv,Yv];rw[Yv] at h2;unfold rises;rw[Yf];exact⟨by simpa using this,h2⟩
  ·rw[Xf hc] at h;exact absurd h hc
theorem zuo{ss:List YX}:∀ {l:List Slt} {p:Option YY},(∀x∈l,zh2 ss x)→rises ltS (l.map (·.key))=true→(∀x,l[0]? = some x→z2v p x.key=false)→zqx ss p l=0
 | [],p,_,_,_=>rfl
 | e :: l,p,h1,h2,h3=>by
  unfold zqx;rw[Xc (by simpa using q0v (h1 e (.head _))),Xc (by rw[h3 e rfl];decide)];refine zuo (fun x hx=>h1 x (.tail _ hx)) ?_ ?_
  ·cases l with
   | nil=>rfl
   | cons y l=>
    rw[Yv,Yv] at h2;unfold rises at h2;rw[Yf] at h2;rw[Yv];exact h2.2
  ·intro x hx;cases l with
   | nil=>simp at hx
   | cons y l=>
    simp at hx;subst hx;rw[Yv,Yv] at h2;unfold rises at h2;rw[Yf] at h2;show(!ltS e.key y.key)=false;rw[h2.1];rfl
theorem zwe:∀ {l:YX},zi3 l=0→∀t∈l,z1n t=0
 | [],_,t,ht=>by cases ht
 | s :: l,h,t,ht=>by
  unfold zi3 at h;by_cases hc:z1n s=0
  ·rw[Xc (by simpa using hc)] at h;rcases Yh.1 ht with rfl|ht
   ·exact hc
   ·exact zwe h t ht
  ·rw[Xf hc] at h;exact absurd h hc
theorem zwd:∀ {l:YX},(∀t∈l,z1n t=0)→zi3 l=0
 | [],_=>rfl
 | s :: l,h=>by
  unfold zi3;rw[Xc (by simpa using h s (.head _))];exact zwd (fun t ht=>h t (.tail _ ht))
theorem zve(a b c)(h1:ltS a b=true)(h2:ltS b c=true):ltS a c=true:=Xi (z4u (Yl h1) (Yl h2))
theorem zsg{s:Sto}(h:z0q s=0):z6e s:=by
 unfold z0q at h;split at h
 ·cases h
 ·rename_i a;have a:z8h s=false:=by simpa using a
  unfold z8h at a;simp only[Vc,decide_eq_false_iff_not,Ue,decide_eq_true_eq] at a;obtain⟨⟨m,k⟩,g⟩:=a;split at h
  ·rename_i b;exact absurd h b
  ·rename_i b;have b:zi3 s.segs.flatten=0:=Decidable.not_not.1 b;obtain⟨f,e,_⟩:=zk3 h;refine⟨by omega,by omega,fun l d=>by have:=g l d;omega,fun l d t j=>zwe b t (Ka.2 ⟨l,d,j⟩),f,?_⟩;refine z34 ?_;have:=z2u (lt:=ltS) zve e;rw[Vf] at this;exact this
theorem z69{s:Sto}(h:z6e s):z0q s=0:=by
 unfold z0q
 have d:z8h s=false:=by
  unfold z8h;simp only[Vc,decide_eq_false_iff_not,Ue,decide_eq_true_eq];exact⟨⟨by have:=h.le;omega,by have:=h.sle;omega⟩,fun l b=>by have:=h.rle l b;omega⟩
 rw[Xc (by rw[d];decide),Xc (by
  refine not_not_intro (zwd fun t a=>?_);obtain⟨l,b,a⟩:=Ka.1 a;exact h.recs l b t a)]
 refine zuo h.slot ?_ (fun x e=>rfl);refine z34 ?_;rw[Vf];exact z2u (z3r Slt.key) h.rise
def q1a(x:Itm)(w wx:World):Prop:=∃S1 s1 S2 s2 S3 s3,
 wx.ownsRow (w.heap.size+2) 9 1 (.slice S1 x.list.length s1) x.list.length (z03 x.list)∧wx.ownsRow (w.heap.size+2) 97 2 (.slice S2 x.pairs.length s2) x.pairs.length (z0e x.pairs)∧wx.ownsRow (w.heap.size+2) 102 2 (.slice S3 x.scores.length s3) x.scores.length (z06 x.scores) ∧
 BO w 1 [.int .i64 x.kind,.string x.text,.slice S1 x.list.length s1,.slice S2 x.pairs.length s2,.slice S3 x.scores.length s3] wx
theorem zw4{x:Itm}{w w3:World}{A1 A2 A3 S1 S2 S3:YV}{c1 c2 c3 s1 s2 s3 b1 b2 b3:Nat}(h:BO w 1 [.int .i64 x.kind,.string x.text,.slice A1 x.list.length c1,.slice A2 x.pairs.length c2,.slice A3 x.scores.length c3] w3)
  (o1:w3.ownsRow b1 9 1 (.slice S1 x.list.length s1) x.list.length (z03 x.list)) (o2:w3.ownsRow b2 97 2 (.slice S2 x.pairs.length s2) x.pairs.length (z0e x.pairs)) (o3:w3.ownsRow b3 102 2 (.slice S3 x.scores.length s3) x.scores.length (z06 x.scores))
  (h1:w.heap.size+2≤b1) (h2:w.heap.size+2≤b2) (h3:w.heap.size+2≤b3):
  q1a x w (((w3.setCell ⟨w.heap.size,2,none⟩ (.slice S1 x.list.length s1)).setCell ⟨w.heap.size,3,none⟩ (.slice S2 x.pairs.length s2)).setCell ⟨w.heap.size,4,none⟩ (.slice S3 x.scores.length s3)):=by
 have a:∀ {e size n:Nat} {v:Value} {xs:List Value} {b:Nat} {u1 u2 u3:Value},w.heap.size+2≤b→w3.ownsRow b e size v n xs→(((w3.setCell ⟨w.heap.size,2,none⟩ u1).setCell ⟨w.heap.size,3,none⟩ u2).setCell ⟨w.heap.size,4,none⟩ u3).ownsRow (w.heap.size+2) e size v n xs:=fun g d=>
  z0i (z0d (z0d (z0d d (by show w.heap.size < _;omega) _) (by show w.heap.size < _;omega) _) (by show w.heap.size < _;omega) _) g
 refine⟨S1,s1,S2,s2,S3,s3,a h1 o1,a h2 o2,a h3 o3,?_,?_,?_⟩
 ·have:=((h.b.set_ 2 (.slice S1 x.list.length s1)).set_ 3 (.slice S2 x.pairs.length s2)).set_ 4 (.slice S3 x.scores.length s3);exact this
 ·exact((h.o.far (by show w.heap.size+1≠w.heap.size;omega) _).far (by show w.heap.size+1≠w.heap.size;omega) _).far (by show w.heap.size+1≠w.heap.size;omega) _
 ·exact((h.f.setCell (p:=⟨w.heap.size,2,none⟩) (.inr (Xb _)) _).setCell (p:=⟨w.heap.size,3,none⟩) (.inr (Xb _)) _).setCell (p:=⟨w.heap.size,4,none⟩) (.inr (Xb _)) _
theorem za1(x:Itm)(v)(w:World)(B:Nat)(hs:x.Small)(l1:x.list.length≤1000000)(l2:x.pairs.length≤1000000)(l3:x.scores.length≤1000000)(hB:B≤w.heap.size)(h:z0p w B v x):
  Calls prog 118 #[v] w (OwnI w.heap.size x w):=by
 obtain⟨J,c1,V,c2,T,O,rfl,M,H,h3⟩:=h;have CS:=hid (fun W (hW:Fr [] w W)=>z4s x.list.length (z03 x.list) J c1 W B l1 (Xd hB hW.size) (M.fr hW hB (by simp)) (z2z _));have Y:=hid (fun W (hW:Fr [] w W)=>zbs x.pairs.length (z0e x.pairs) V c2 W B l2 (Xd hB hW.size) (H.fr hW hB (by simp)) (zb4 _));have Z:=hid (fun W (hW:Fr [] w W)=>zbr x.scores.length (z06 x.scores) T O W B l3 (Xd hB hW.size) (h3.fr hW hB (by simp)) (z5u _));have C:=hid (BO.new w (.int .i64 x.kind) (.string x.text) (.slice J x.list.length c1) (.slice V x.pairs.length c2) (.slice T x.scores.length O));obtain⟨j,g,a,d,k⟩:=five C.o.b;clear M H h3 hs;go_enter func118,ntmps118;go_wp2_with fail;go_cut [] (fun wx=>q1a x w wx)
 case first=>
  go_region_law (first
   | (go_simp;go_at_call 119;refine(CS.o _ (C.o.f.drew)).mono ?_;rintro e w1 ⟨u1,rfl,m,K⟩;have p:=hid (C.o.go (z01 K));have F:=hid m;obtain⟨X,P,rfl,-⟩:=z05 m;clear m K j g a d k;obtain⟨j,g,a,d,k⟩:=five p.o.b)
   | (go_simp;go_at_call 166;refine(Y.o _ p.o.f).mono ?_;rintro e w2 ⟨u2,rfl,l,D⟩;have r:=hid (p.o.go D);have z:=hid (z08 F.o D (by simp));have A:=hid l;obtain⟨N,L,rfl,-⟩:=z05 l;clear l D j g a d k;obtain⟨j,g,a,d,k⟩:=five r.o.b)
   | (go_simp;go_at_call 167;refine(Z.o _ r.o.f).mono ?_;rintro e w3 ⟨u3,rfl,n,s⟩;have y:=hid (r.o.go s);have E:=hid (z08 z.o s (by simp));have G:=hid (z08 A.o s (by simp));have u:=hid n;obtain⟨R,U,rfl,-⟩:=z05 n;clear n s j g a d k;obtain⟨j,g,a,d,k⟩:=five y.o.b;obtain⟨e0,e1,e2,e3,e4⟩:=z11 y.o.b))
  all_goals
   go_wp2;go_meet
   case rel=>exact zw4 y.o E.o G.o u.o (by simp[World.drew]) (by have:=p.o.lt;omega) (by have:=r.o.lt;omega)
 case rest=>
  obtain⟨X,P,N,L,R,U,m,l,n,I⟩:=hcut;have F:=hid m;have A:=hid l;have u:=hid n;have t:=hid I;clear m l n I j g a d k;have S:¬w.heap.size=w.heap.size+1:=by omega
  have Q:¬w.heap.size+1=w.heap.size:=by omega
  obtain⟨j,g,a,d,k⟩:=five t.o.b;obtain⟨a0,a1,a2,a3,a4⟩:=five t.o.o;obtain⟨b0,b1,b2,b3,b4⟩:=z11 t.o.o;go_wp2;refine Xg (v:=.agg (yIa x X P N L R U)) (by simp[results,results118,go_sem,a0,a1,a2,a3,a4]) rfl ?_;exact⟨_,rfl,⟨_,_,_,rfl,z0i (z5r F.o (by omega) _ _ _ _ _) (by omega),z0i (z5r A.o (by omega) _ _ _ _ _) (by omega),z0i (z5r u.o (by omega) _ _ _ _ _) (by omega)⟩,t.o.end5 _ _ _ _ _⟩
def z3e(i:Nat)(b:Bool)(w:World)(e:Ending)(w':World):Prop:=e=.returned (.tuple #[.int .i64 i,.bool b])∧Fr [] w w'
theorem z5j{S:List Nat}{B:Nat}{a b:World}(h:FrB S B a b){p:Addr}{v:Value}(hc:a.cell? p=some v)(hB:p.block < B)(hS:p.block∉S):b.cell? p=some v:=
 (World.cell?_of_block (h.block _ (World.block_lt_of_cell? a p hc) hB hS)).trans hc
theorem zwu{w w':World}{B D size n:Nat}{v:Value}{xs:List Value}(h:Sl w B size v n xs)(hf:FrB [] D w w')(hD:B≤D):Sl w' B size v n xs:=by
 obtain⟨A,c,e,f,l,d,hr⟩:=h;refine⟨A,c,e,f,l,d,fun p=>?_⟩;obtain⟨g,off,m,b,a⟩:=hr p;exact⟨g,off,m,b,fun j u k=>z5j hf (a j u k) (Yx b hD) (by simp)⟩
theorem zr0{α:Type}(p:α→Bool)(l:List α):l.any p=decide (z3c p l ≥ 0):=by
 unfold z3c;cases hf:l.findIdx? p with
 | none=>
  rw[Vh] at hf;show l.any p=decide ((-1:Int) ≥ 0);rw[Ue.2 (fun x d=>by simp[hf x d])];rfl
 | some k=>
  rw[Vd] at hf;obtain⟨a,b,_⟩:=hf;rw[Vs.2 ⟨_,Vj a,b⟩];exact(Xi (show((k:Nat):Int) ≥ 0 by omega)).symm
theorem z7i(l:YX)(s:YY)(A)(c B:Nat)(w:World)(hl:l.length≤281474976710656)(hB:B≤w.heap.size)(h:Sl w B 1 (.slice A l.length c) l.length (z03 l)):
  Calls prog 268 #[.slice A l.length c,.string s] w fun e w'=>e=.returned (.bool (l.any fun y=>decide (y=s)))∧w=w':=by
 have p:=hid h;clear h
 have m:Calls prog 312 #[.slice A l.length c,.string s] w fun e w'=>e=.returned (.int .i64 (z3c (fun y=>decide (y=s)) l))∧w=w':=by
  go_enter func312,ntmps312;go_wp2;go_loopg [5,8] l.length (fun g u i wr=>∃(k:Nat),g=l.length - k∧k≤l.length∧i=.int .i64 k∧(∀(j:Nat) t,j < k→l[j]? = some t→(fun y=>decide (y=s)) t=false)∧w=wr)
  case atStart=>exact⟨0,rfl,Xt _,rfl,fun j t n=>absurd n (Vg _),rfl⟩
  case round=>
   obtain⟨k,rfl,D,rfl,d,rfl⟩:=hrel;by_cases hlt:k < l.length
   ·obtain⟨b,off,rfl,F,G,z,a⟩:=p.o.at_ (by omega);obtain⟨t,f⟩:∃t,l[k]? = some t:=⟨_,Xa hlt⟩;have x:w.cell? ⟨b,off+k,none⟩=some (.string t):=a k _ (z0x l k t f);by_cases hq:t=s
    ·have E:=hid (z3i d f (Xi hq));have q:(s.toList==t.toList)=true:=by have:=eqB s t;rw[Xi hq.symm] at this;exact this
     clear d a f hq;go_wp2;go_ret;rw[E.o];exact⟨rfl,rfl⟩
    ·have q:(s.toList==t.toList)=false:=by have:=eqB s t;rw[Xl (fun e=>hq e.symm)] at this;exact this
     have N:=hid (fun j t' (n:j < k+1) (ht':l[j]? = some t')=>(show(fun y=>decide (y=s)) t'=false by
      rcases Yc j k with h|h
      ·exact d j t' h ht'
      ·have e:j=k:=by omega
       subst e;rw[f] at ht';cases ht';exact Xl hq))
     clear d a f hq;go_wp2;go_roundg (l.length - (k+1))
     case measure=>omega
     case rel=>exact⟨k+1,rfl,by omega,by go_num,N.o,rfl⟩
   ·have E:=hid (z43 (q:=fun y=>decide (y=s)) (l:=l) (fun j t f=>d j t (by have:=(Xe.1 f).1;omega) f));clear d;go_wp2;go_ret;rw[E.o];exact⟨rfl,rfl⟩
 have r:=zr0 (fun y=>decide (y=s)) l;have m:=hid m;generalize z3c (fun y=>decide (y=s)) l=i at *;generalize (l.any fun y=>decide (y=s))=b at *;subst r;go_enter func268,ntmps268;go_wp2_with fail;refine m.o.mono ?_;rintro e C ⟨rfl,rfl⟩;go_wp2;go_ret;exact⟨rfl,rfl⟩
theorem q3j{α:Type}:∀ {c:List α},c.length=7→∃a0 a1 a2 a3 a4 a5 a6,c=[a0,a1,a2,a3,a4,a5,a6]
 | [a0,a1,a2,a3,a4,a5,a6],_=>⟨a0,a1,a2,a3,a4,a5,a6,rfl⟩
theorem zk0(s0 s1 s2 s3 s4 s5 s6):∀(d:List (List Value)) (i:Nat),(∀c∈d,c.length=7)→i < d.length→(d.set i [s0,s1,s2,s3,s4,s5,s6]).flatten=(((((((d.flatten.set (i * 7) s0).set (i * 7+1) s1).set (i * 7+2) s2).set (i * 7+3) s3).set (i * 7+4) s4).set (i * 7+5) s5).set (i * 7+6) s6)
 | [],i,_,h=>absurd h (by simp)
 | c :: d,0,hc,_=>by
  obtain⟨a0,a1,a2,a3,a4,a5,a6,rfl⟩:=q3j (hc c (by simp));rfl
 | c :: d,i+1,hc,h=>by
  obtain⟨a0,a1,a2,a3,a4,a5,a6,rfl⟩:=q3j (hc c (by simp));have e:∀k,(i+1) * 7+k=i * 7+k+7:=fun k=>by omega
  have e0:(i+1) * 7=i * 7+7:=by omega
  rw[Xm,Ua,zk0 s0 s1 s2 s3 s4 s5 s6 d i (fun c h=>hc c (by simp[h])) (by simpa using h),Ua,e0];simp only[show ∀k,i * 7+7+k=i * 7+k+7 from fun k=>by omega];rfl
def zga(c:List Value):Prop:=∃sk sn st A1 n1 d1 A2 n2 d2 A3 n3 d3 su,c=[.string sk,.int .i64 sn,.string st,.slice A1 n1 d1,.slice A2 n2 d2,.slice A3 n3 d3,.int .i64 su]
theorem zga.len{c:List Value}(h:zga c):c.length=7:=by obtain⟨_,_,_,_,_,_,_,_,_,_,_,_,_,rfl⟩:=h;rfl
def q5a(g:Nat)(lb:Array Value)(l:List (List Value))(p:List Value→Bool)(S:List Nat)(w:World):Prop:=
 ∀W (x:List Value),x∈l→Fr S w W→Calls prog g (#[.agg x.toArray]++lb) W fun e w'=>e=.returned (.bool (p x))∧Fr [] W w'
theorem q4r:(∀(g:Nat) (lb:Array Value) (eg:∀args w,(callFunc g args).run prog w=.ok (.enter g args) w) (p:(YY×YY)→Bool) (D:Nat) (l:List (YY×YY)) (A:YV) (c B:Nat) (w) (hp:zq5 g lb p D w) (hl:l.length≤281474976710656) (hB:B≤w.heap.size)
  (hsl:Sl w B 2 (.slice A l.length c) l.length (z0e l)),Calls prog 247 #[.slice A l.length c,.func (Fn.func g) #[] lb] w fun e w'=>e=.returned (.int .i64 (z3c p l))∧Fr [] w w')∧(∀(g:Nat) (lb:Array Value) (eg:∀args w,(callFunc g args).run prog w=.ok (.enter g args) w) (p:(Int×YY)→Bool) (D:Nat) (l:List (Int×YY)) (A:YV) (c B:Nat) (w:World) (hp:zq4 g lb p D w) (hl:l.length≤281474976710656) (hB:B≤w.heap.size)
  (hsl:Sl w B 2 (.slice A l.length c) l.length (z06 l)),Calls prog 248 #[.slice A l.length c,.func (Fn.func g) #[] lb] w fun e w'=>e=.returned (.int .i64 (z3c p l))∧Fr [] w w')∧(∀(g:Nat) (lb:Array Value) (eg:∀args w,(callFunc g args).run prog w=.ok (.enter g args) w) (p:List Value→Bool) (S:List Nat) (l:List (List Value)) (A:YV) (c B:Nat) (w:World) (hsh:∀c∈l,zga c) (hp:q5a g lb l p S w) (hl:l.length≤281474976710656) (hB:B≤w.heap.size)
  (hsl:Sl w B 7 (.slice A l.length c) l.length l.flatten),Calls prog 341 #[.slice A l.length c,.func (Fn.func g) #[] lb] w fun e w'=>e=.returned (.int .i64 (z3c p l))∧Fr [] w w'):=by
 refine⟨?_,?_,?_⟩;have I:=hid trivial
 rotate_left
 have V:=hid trivial
 rotate_left
 have n:=hid trivial
 all_goals
  first
  | (guard_hyp n
     intro g lb eg p S l A c B w hsh hp hl hB hsl)
  | (intro g lb eg p D l A c B w hp hl hB hsl)
  have HS:=hid hsl;have HP:=hid hp
  first
  | (guard_hyp I
     clear hsl hp;go_enter func247,ntmps247)
  | (guard_hyp V
     clear hsl hp;go_enter func248,ntmps248)
  | (have Z:=hid hsh
     have z:=hid (fun c hc=>(hsh c hc).len);clear hsl hp hsh;go_enter func341,ntmps341)
  go_wp2;go_loopg [5,8] l.length (fun g u i wr=>∃(k:Nat),g=l.length - k∧k≤l.length∧i=.int .i64 k∧(∀j t,j < k→l[j]? = some t→p t=false)∧Fr [] w wr)
  case atStart=>exact⟨0,rfl,Xt _,rfl,fun j t hj=>absurd hj (Vg _),Fr.refl _ _⟩
  case round=>
   obtain⟨k,rfl,hk,rfl,f,d⟩:=hrel;by_cases hlt:k < l.length
   ·
    obtain⟨b,off,rfl,hb,hc,hm,a⟩:=HS.o.at_ (by omega);obtain⟨s,hs⟩:∃s,l[k]? = some s:=⟨_,Xa hlt⟩
    first
    | (guard_hyp I
       have r:wr.cell? ⟨b,off+2 * k,none⟩=some (.string s.1):=d.cell (a _ _ (z0f l k s hs).1) (by simp);have x:wr.cell? ⟨b,off+2 * k+1,none⟩=some (.string s.2):=d.cell (a _ _ (z0f l k s hs).2) (by simp);rw[Ya 2 k] at r x;have L:=hid (fun W (hW:Fr [] wr W)=>HP.o W s ((d.toB D).trans (hW.toB D))))
    | (guard_hyp V
       have r:wr.cell? ⟨b,off+2 * k,none⟩=some (.int .i64 s.1):=d.cell (a _ _ (z0b l k s hs).1) (by simp);have x:wr.cell? ⟨b,off+2 * k+1,none⟩=some (.string s.2):=d.cell (a _ _ (z0b l k s hs).2) (by simp);rw[Ya 2 k] at r x;have L:=hid (fun W (hW:Fr [] wr W)=>HP.o W s ((d.toB D).trans (hW.toB D))))
    | (have y:=Xj hs
       obtain⟨K,P,Q,M,U,O,T,X,F,R,J,G,H,rfl⟩:=Z.o s y;have a0:wr.cell? ⟨b,off+k * 7,none⟩=some (.string K):=d.cell (show w.cell? ⟨b,off+k * 7,none⟩=some (.string K) from by exact a (k * 7) _ (z3q 7 l k 0 _ z.o hs (by decide))) (by simp);have r:wr.cell? ⟨b,off+k * 7+1,none⟩=some (.int .i64 P):=d.cell (show w.cell? ⟨b,off+k * 7+1,none⟩=some (.int .i64 P) from by rw[Yb];exact a (k * 7+1) _ (z3q 7 l k 1 _ z.o hs (by decide))) (by simp);have x:wr.cell? ⟨b,off+k * 7+2,none⟩=some (.string Q):=d.cell (show w.cell? ⟨b,off+k * 7+2,none⟩=some (.string Q) from by rw[Yb];exact a (k * 7+2) _ (z3q 7 l k 2 _ z.o hs (by decide))) (by simp);have a4:wr.cell? ⟨b,off+k * 7+3,none⟩=some (.slice M U O):=d.cell (show w.cell? ⟨b,off+k * 7+3,none⟩=some (.slice M U O) from by rw[Yb];exact a (k * 7+3) _ (z3q 7 l k 3 _ z.o hs (by decide))) (by simp);have a2:wr.cell? ⟨b,off+k * 7+4,none⟩=some (.slice T X F):=d.cell (show w.cell? ⟨b,off+k * 7+4,none⟩=some (.slice T X F) from by rw[Yb];exact a (k * 7+4) _ (z3q 7 l k 4 _ z.o hs (by decide))) (by simp);have a1:wr.cell? ⟨b,off+k * 7+5,none⟩=some (.slice R J G):=d.cell (show w.cell? ⟨b,off+k * 7+5,none⟩=some (.slice R J G) from by rw[Yb];exact a (k * 7+5) _ (z3q 7 l k 5 _ z.o hs (by decide))) (by simp);have a3:wr.cell? ⟨b,off+k * 7+6,none⟩=some (.int .i64 H):=d.cell (show w.cell? ⟨b,off+k * 7+6,none⟩=some (.int .i64 H) from by rw[Yb];exact a (k * 7+6) _ (z3q 7 l k 6 _ z.o hs (by decide))) (by simp);have L:=hid (fun W (hW:Fr [] wr W)=>HP.o W [.string K,.int .i64 P,.string Q,.slice M U O,.slice T X F,.slice R J G,.int .i64 H] y (d.trans hW).up))
    have HF:=hid d;have F1:=hid (Fr.refl [] wr)
    first
    | (guard_hyp n
       by_cases hq:p [.string K,.int .i64 P,.string Q,.slice M U O,.slice T X F,.slice R J G,.int .i64 H]=true)
    | (by_cases hq:p s=true)
    ·
     have E:=hid (z3i f hs hq);rw[hq] at L
     first
     | (guard_hyp n
        clear f a hs hq d y)
     | (clear f a hs hq d)
     go_wp2_with fail;refine(L.o _ F1.o).mono ?_;rintro e w1 ⟨rfl,Y⟩;go_wp2;go_ret;rw[E.o];exact⟨rfl,HF.o.trans Y⟩
    ·
     first
     | (guard_hyp n
        have m:p [.string K,.int .i64 P,.string Q,.slice M U O,.slice T X F,.slice R J G,.int .i64 H]=false:=by simpa using hq)
     | (have m:p s=false:=by simpa using hq)
     rw[m] at L
     have N:=hid (fun j t (hj:j < k+1) (C:l[j]? = some t)=>(show p t=false by
      rcases Yc j k with h|h
      ·
       exact f j t h C
      ·
       have e:j=k:=by omega
       subst e;rw[hs] at C;cases C;exact m))
     first
     | (guard_hyp n
        clear f a hs hq m d y)
     | (clear f a hs hq m d)
     go_wp2_with fail;refine(L.o _ F1.o).mono ?_;rintro e w1 ⟨rfl,Y⟩;go_wp2;go_roundg (l.length - (k+1))
     case measure=>omega
     case rel=>exact⟨k+1,rfl,by omega,rfl,N.o,HF.o.trans Y⟩
   ·
    have E:=hid (z43 (q:=p) (l:=l) (fun j t C=>f j t (by have:=(Xe.1 C).1;omega) C));clear f;go_wp2;go_ret;rw[E.o];exact⟨rfl,d⟩
abbrev zp5:=@And.left _ _ q4r
abbrev zp4:=@And.left _ _ (@And.right _ _ q4r)
abbrev zz3:=@And.right _ _ (@And.right _ _ q4r)
def zsi(ys:List (List Value))(base:Nat)(v:Value)(w:World)(e:Ending)(w':World):Prop:=
 ∃v',e=.returned v'∧w'.ownsRow base 70 7 v' ys.length ys.flatten∧Fr (z1w v) w w'∧v'.ownBlock=v.ownBlock
theorem q7l:∀w,(zeroValue 70).run prog w=.ok (.agg #[.string ⟨#[]⟩,.int .i64 0,.string ⟨#[]⟩,.slice none 0 0,.slice none 0 0,.slice none 0 0,.int .i64 0]) w:=fun w=>by kernel_rfl
theorem zuy{p:List Value→Bool}{l d:List (List Value)}{i j:Nat}(h:d.length=l.length)(hd:∀c∈d,c∈l)(s)(hs:s∈l):∀c∈d.set i s,c∈l:=fun c hc=>by
 rcases Us hc with h1|rfl
 ·exact hd c h1
 ·exact hs
def z7m(l:YX)(s:YY):Bool:=l.any fun y=>decide (y=s)
theorem z3f{l:YX}{s:YY}:z7m l s=true↔s∈l:=by
 unfold z7m;rw[Vs];constructor
 ·rintro⟨y,b,a⟩;have:y=s:=by simpa using a
  exact this ▸ b
 ·intro h;exact⟨s,h,by simp⟩
def za2(l m:YX):YX:=l.filter fun y=>!z7m m y
theorem neqB'{s t:YY}(h:s≠t):(s.toList==t.toList)=false:=by
 have:=eqB s t;rw[Xl h] at this;exact this
def z4h(p s:YY):Int:=if z0z p=0∧60 < s.size then 2 else z0z p
def z54(p s:YY):Bool:=decide (z4h p s=0)&&z3w (((z2k p 0).getD []).map (·.2)) s s.size
theorem zhm(p s:YY)(w:World)(hp:p.size≤281474976710656)(hs:s.size≤281474976710656):
  Calls prog 258 #[.string p,.string s] w fun e w'=>e=.returned (.tuple #[.bool (z54 p s),.int .i64 (z4h p s)])∧Fr [] w w':=by
 go_enter func258,ntmps258;go_wp2_with fail;refine(zas p _ hp).mono ?_;intro e y k;rcases k with⟨f,x,l,v,u,g,rfl,d,a,n⟩|⟨f,rfl,n⟩
 ·by_cases h60:60 < s.size
  ·have b:z4h p s=2:=by unfold z4h;rw[Xf ⟨f,h60⟩]
   have j:z54 p s=false:=by unfold z54;rw[b];rfl
   have E:=hid b;have A:=hid j;clear b j f g d a;go_wp2;go_ret2;rw[E.o,A.o];exact⟨rfl,n⟩
  ·have b:z4h p s=0:=by unfold z4h;rw[Xc (fun h=>h60 h.2),f]
   have j:z54 p s=z3w (l.map (·.2)) s s.size:=by unfold z54;rw[b,g];simp
   have E:=hid b;have A:=hid j;have t:l.length≤60:=by have:=zkz g;omega
   clear b j f g;have m:=(show y.ownsRow (w.heap.size+3) 318 2 v (l.map (·.2)).length u by simpa using d);clear d;go_wp2_with fail;refine(zvi (l.map (·.2)) _ _ v u s _ (by omega) (by simpa using t) (Xb _) m a).mono ?_;rintro e B ⟨rfl,r⟩;go_wp2;go_ret2;rw[E.o,A.o];exact⟨rfl,n.trans r⟩
 ·have b:z4h p s=z0z p:=by unfold z4h;rw[Xc (fun h=>f h.1)]
  have j:z54 p s=false:=by unfold z54;rw[b];simp[f]
  have E:=hid b;have A:=hid j;have C:(z0z p==0)=false:=by simpa using f
  have z:(z0z p != 0)=true:=by simpa using f
  clear b j f;go_wp2;go_ret2;rw[E.o,A.o];exact⟨rfl,n⟩
theorem tup2{a b c d:Int}(h1:a=b)(h2:c=d):Ending.returned (.tuple #[.int .i64 a,.int .i64 c])=.returned (.tuple #[.int .i64 b,.int .i64 d]):=by rw[h1,h2]
theorem q6u(a b:Int)(h:0≤a):((if a > b then 0 else a.toNat:Nat):Int)=if a > b then 0 else a:=by split <;> omega
theorem q6v(a b:Int)(h:0≤a):((if a > b then 0 else (b+1).toNat:Nat):Int)=if a > b then 0 else b+1:=by split <;> omega
theorem zim(n:Nat)(f t:Int)(w:World)(hn:n≤281474976710656)(hf:-9223372036854775808≤f∧f≤9223372036854775807)(ht:-9223372036854775808≤t∧t≤9223372036854775807):
  Calls prog 251 #[.int .i64 n,.int .i64 f,.int .i64 t] w fun e w'=>e=.returned (.tuple #[.int .i64 (z6x n f t:Nat),.int .i64 (z6y n f t:Nat)])∧w=w':=by
 have j:=hid (show(z6x n f t:Int)=if (if f < 0 then max 0 (f+n) else f) > min (if t < 0 then t+n else t) ((n:Int) - 1) then 0 else (if f < 0 then max 0 (f+n) else f) from q6u _ _ (by split <;> omega));have a:=hid (show(z6y n f t:Int)=if (if f < 0 then max 0 (f+n) else f) > min (if t < 0 then t+n else t) ((n:Int) - 1) then 0 else min (if t < 0 then t+n else t) ((n:Int) - 1)+1 from q6v _ _ (by split <;> omega));obtain⟨g,b⟩:=hf;obtain⟨d,h⟩:=ht;by_cases h1:f < 0 <;> by_cases h2:t < 0
 all_goals
  go_enter func251,ntmps251;go_wp2
  all_goals
   go_ret2;refine⟨tup2 ?_ ?_,rfl⟩
   ·rw[j.o]
    (repeat' split) <;> omega
   ·rw[a.o]
    (repeat' split) <;> omega
def ziv(ys:List (YY×YY))(base:Nat)(v:Value)(w:World)(e:Ending)(w':World):Prop:=
 ∃v',e=.returned v'∧w'.ownsRow base 97 2 v' ys.length (z0e ys)∧Fr (z1w v) w w'∧v'.ownBlock=v.ownBlock
theorem q7m:∀w,(zeroValue 97).run prog w=.ok (.agg #[.string ⟨#[]⟩,.string ⟨#[]⟩]) w:=fun w=>by kernel_rfl
end
end Go.Proofs.YtnmoajaelmimnaaGreatDoor
