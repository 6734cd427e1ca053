/- Contracts; no condition but each theorem's own. -/
import Derived.Test.YtnmoajaelmimnaaGreatDoorSlY6
set_option linter.unusedVariables false
set_option linter.unusedSimpArgs false
set_option maxHeartbeats 8000000
set_option maxRecDepth 100000
namespace Go.Proofs.YtnmoajaelmimnaaGreatDoor
open Go.Proofs.Tryz (prog)
section
open Go.RowKit
theorem z3q(n:Nat):∀(rs:List (List Value)) (i j:Nat) (cs),(∀c∈rs,c.length=n)→rs[i]? = some cs→j < n→rs.flatten[i * n+j]? = cs[j]?
 | [],i,j,cs,_,h,_=>by simp at h
 | r :: rs,0,j,cs,hl,h,hj=>by
  simp at h;subst h;rw[Jv,Yw,Ua,Xu (by rw[hl r (by simp)];exact hj)]
 | r :: rs,i+1,j,cs,hl,h,hj=>by
  have hr:=hl r (by simp);have e:(i+1) * n=i * n+n:=Vl i n;rw[Ua,Xq (by omega),hr,show(i+1) * n+j - n=i * n+j from by omega];exact z3q n rs i j cs (fun c hc=>hl c (by simp[hc])) (by simpa using h) hj
theorem ze1(n:Nat):∀(rs:List (List Value)),(∀c∈rs,c.length=n)→rs.flatten.length=rs.length * n
 | [],_=>by simp
 | r :: rs,hl=>by
  have e:(rs.length+1) * n=rs.length * n+n:=Vl _ n;rw[Ua,Xk,hl r (by simp),ze1 n rs (fun c hc=>hl c (by simp[hc])),Xy,e];omega
theorem z96(n:Nat):∀(rs:List (List Value)) (i:Nat),(∀c∈rs,c.length=n)→rs.flatten.take (i * n)=(rs.take i).flatten
 | [],i,_=>by simp
 | r :: rs,0,_=>by simp
 | r :: rs,i+1,hl=>by
  have hr:=hl r (by simp);have e:(i+1) * n=n+i * n:=by rw[Vl,Nat.add_comm]
  rw[Ua,Jn,Ua,e,List.take_append,hr,Xw (by omega),Nat.add_sub_cancel_left,z96 n rs i (fun c a=>hl c (by simp[a]))]
theorem zbx(n:Nat):∀(rs:List (List Value)) (i:Nat),(∀c∈rs,c.length=n)→rs.flatten.drop (i * n)=(rs.drop i).flatten
 | [],i,_=>by simp
 | r :: rs,0,_=>by simp
 | r :: rs,i+1,hl=>by
  have hr:=hl r (by simp);have e:(i+1) * n=n+i * n:=by rw[Vl,Nat.add_comm]
  rw[Ua,List.drop_succ_cons,e,List.drop_append,hr,Ui (by omega),Nat.add_sub_cancel_left,Vq,zbx n rs i (fun c a=>hl c (by simp[a]))]
structure Ent where
 key:YY
 item:Itm
 til:Int
abbrev yEa(x:Ent)(A:YV)(a:Nat)(B:YV)(b:Nat)(C:YV)(c:Nat):Array Value:=#[.string x.key,.int .i64 x.item.kind,.string x.item.text,.slice A x.item.list.length a,.slice B x.item.pairs.length b,.slice C x.item.scores.length c,.int .i64 x.til]
abbrev yEl(x:Ent)(A:YV)(a:Nat)(B:YV)(b:Nat)(C:YV)(c:Nat):List Value:=[.string x.key,.int .i64 x.item.kind,.string x.item.text,.slice A x.item.list.length a,.slice B x.item.pairs.length b,.slice C x.item.scores.length c,.int .i64 x.til]
abbrev yEza:Array Value:=#[.string ⟨#[]⟩,.int .i64 0,.string ⟨#[]⟩,.slice none 0 0,.slice none 0 0,.slice none 0 0,.int .i64 0]
abbrev yEzl:List Value:=[.string ⟨#[]⟩,.int .i64 0,.string ⟨#[]⟩,.slice none 0 0,.slice none 0 0,.slice none 0 0,.int .i64 0]
abbrev yEc(w:World)(p:Nat)(x:Ent)(A:YV)(a:Nat)(B:YV)(b:Nat)(C:YV)(c:Nat):Prop:=w.cell? ⟨p,0,none⟩=some (.string x.key)∧w.cell? ⟨p,1,none⟩=some (.int .i64 x.item.kind)∧w.cell? ⟨p,2,none⟩=some (.string x.item.text)∧w.cell? ⟨p,3,none⟩=some (.slice A x.item.list.length a)∧w.cell? ⟨p,4,none⟩=some (.slice B x.item.pairs.length b)∧w.cell? ⟨p,5,none⟩=some (.slice C x.item.scores.length c)∧w.cell? ⟨p,6,none⟩=some (.int .i64 x.til)
def newE:Ent:=⟨⟨#[]⟩,z2q 0,0⟩
structure Ent.Small(e:Ent):Prop where
 key:e.key.size≤281474976710656
 item:e.item.Small
 til:-9223372036854775808≤e.til∧e.til≤9223372036854775807
def z9p(e:Ent)(A1:YV)(c1:Nat)(A2:YV)(c2:Nat)(A3:YV)(c3:Nat):List Value:=
 [.string e.key,.int .i64 e.item.kind,.string e.item.text,.slice A1 e.item.list.length c1,.slice A2 e.item.pairs.length c2,.slice A3 e.item.scores.length c3,.int .i64 e.til]
def zlx(w:World)(B:Nat)(cs:List Value)(e:Ent):Prop:=
 ∃A1 c1 A2 c2 A3 c3,cs=z9p e A1 c1 A2 c2 A3 c3∧Sl w B 1 (.slice A1 e.item.list.length c1) e.item.list.length (z03 e.item.list)∧Sl w B 2 (.slice A2 e.item.pairs.length c2) e.item.pairs.length (z0e e.item.pairs)∧Sl w B 2 (.slice A3 e.item.scores.length c3) e.item.scores.length (z06 e.item.scores)
def z38(w:World)(base:Nat)(cs:List Value)(e:Ent):Prop:=
 ∃A1 c1 A2 c2 A3 c3,cs=z9p e A1 c1 A2 c2 A3 c3∧w.ownsRow base 9 1 (.slice A1 e.item.list.length c1) e.item.list.length (z03 e.item.list)∧w.ownsRow base 97 2 (.slice A2 e.item.pairs.length c2) e.item.pairs.length (z0e e.item.pairs)∧w.ownsRow base 102 2 (.slice A3 e.item.scores.length c3) e.item.scores.length (z06 e.item.scores)
theorem zlx.len{w:World}{B:Nat}{cs:List Value}{e:Ent}(h:zlx w B cs e):cs.length=7:=by obtain⟨_,_,_,_,_,_,rfl,_⟩:=h;rfl
theorem z38.len{w:World}{B:Nat}{cs:List Value}{e:Ent}(h:z38 w B cs e):cs.length=7:=by obtain⟨_,_,_,_,_,_,rfl,_⟩:=h;rfl
theorem z38.c{w:World}{base:Nat}{cs:List Value}{e:Ent}(h:z38 w base cs e):zlx w w.heap.size cs e:=by
 obtain⟨a,c1,d,c2,b,j,f,k,g,h3⟩:=h;exact⟨a,c1,d,c2,b,j,f,z0l k,z0l g,z0l h3⟩
theorem zlx.fr{w w':World}{B:Nat}{S:List Nat}{cs:List Value}{e:Ent}(h:zlx w B cs e)(hf:Fr S w w')(hB:B≤w.heap.size)(hS:∀k,k∈S→B≤k):zlx w' B cs e:=by
 obtain⟨a,c1,d,c2,b,j,f,l,g,h3⟩:=h;exact⟨a,c1,d,c2,b,j,f,l.fr hf hB hS,g.fr hf hB hS,h3.fr hf hB hS⟩
theorem zlx.more{w:World}{B B':Nat}{cs:List Value}{e:Ent}(h:zlx w B cs e)(hB:B≤B'):zlx w B' cs e:=by
 obtain⟨a,c1,d,c2,b,j,f,k,g,h3⟩:=h;exact⟨a,c1,d,c2,b,j,f,k.more hB,g.more hB,h3.more hB⟩
theorem z38.fr{w w':World}{base:Nat}{cs:List Value}{e:Ent}(h:z38 w base cs e)(hf:Fr [] w w'):z38 w' base cs e:=by
 obtain⟨a,c1,d,c2,b,j,f,k,g,h3⟩:=h;exact⟨a,c1,d,c2,b,j,f,z08 k hf (by simp),z08 g hf (by simp),z08 h3 hf (by simp)⟩
theorem z38.base{w:World}{base base':Nat}{cs:List Value}{e:Ent}(h:z38 w base cs e)(hb:base'≤base):z38 w base' cs e:=by
 obtain⟨a,c1,d,c2,b,j,f,k,g,h3⟩:=h;exact⟨a,c1,d,c2,b,j,f,z0i k hb,z0i g hb,z0i h3 hb⟩
theorem z0w{w:World}{base base' e e' size size' n n':Nat}{v v':Value}{xs xs':List Value}(h:w.ownsRow base e size v n xs)(h':w.ownsRow base' e' size' v' n' xs')(hT:e≠e'):∀k,v.ownBlock=some k→k∉z1w v':=fun k hk hm=>by
 rcases z7v h h' hT with h1|h1
 ·rw[h1] at hk;cases hk
 ·refine h1 ?_;rw[hk];unfold z1w at hm;split at hm
  ·simp at hm;subst hm;rfl
  ·cases hm
theorem z38.row{w w':World}{base base' T size n:Nat}{v:Value}{xs cs:List Value}{e:Ent}(h:z38 w base cs e)(ho:w.ownsRow base' T size v n xs)(hT:9≠T∧97≠T∧102≠T)(hf:Fr (z1w v) w w'):z38 w' base cs e:=by
 obtain⟨d,c1,g,c2,f,k,j,b,a,h3⟩:=h;exact⟨d,c1,g,c2,f,k,j,z08 b hf (z0w b ho hT.1),z08 a hf (z0w a ho hT.2.1),z08 h3 hf (z0w h3 ho hT.2.2)⟩
theorem zlx.item{w:World}{B:Nat}{e:Ent}{A1 A2 A3:YV}{c1 c2 c3:Nat}(h:zlx w B (z9p e A1 c1 A2 c2 A3 c3) e):
  z0p w B (.agg #[.int .i64 e.item.kind,.string e.item.text,.slice A1 e.item.list.length c1,.slice A2 e.item.pairs.length c2,.slice A3 e.item.scores.length c3]) e.item:=by
 obtain⟨l,j,m,f,k,g,a,d,b,h3⟩:=h;simp only[z9p,List.cons.injEq,Value.slice.injEq] at a;obtain⟨-,-,-,⟨rfl,-,rfl⟩,⟨rfl,-,rfl⟩,⟨rfl,-,rfl⟩,-⟩:=a;exact⟨_,_,_,_,_,_,rfl,d,b,h3⟩
theorem z38.item{w:World}{base:Nat}{e:Ent}{A1 A2 A3:YV}{c1 c2 c3:Nat}(h:z38 w base (z9p e A1 c1 A2 c2 A3 c3) e):
  z0k w base (.agg #[.int .i64 e.item.kind,.string e.item.text,.slice A1 e.item.list.length c1,.slice A2 e.item.pairs.length c2,.slice A3 e.item.scores.length c3]) e.item:=by
 obtain⟨l,j,m,f,k,g,a,d,b,h3⟩:=h;simp only[z9p,List.cons.injEq,Value.slice.injEq] at a;obtain⟨-,-,-,⟨rfl,-,rfl⟩,⟨rfl,-,rfl⟩,⟨rfl,-,rfl⟩,-⟩:=a;exact⟨_,_,_,rfl,d,b,h3⟩
def z1f(w:World)(B:Nat)(v:Value)(l:List Ent):Prop:=
 ∃A c,∃rs:List (List Value),v=.slice A l.length c∧rs.length=l.length∧(∀(i:Nat) (e:Ent),l[i]? = some e→∃cs:List Value,rs[i]? = some cs∧zlx w B cs e)∧Sl w B 7 v l.length rs.flatten
def z2a(w:World)(base:Nat)(v:Value)(l:List Ent):Prop:=
 ∃rs:List (List Value),rs.length=l.length∧(∀(i:Nat) (e:Ent),l[i]? = some e→∃cs:List Value,rs[i]? = some cs∧z38 w base cs e)∧w.ownsRow base 70 7 v l.length rs.flatten
theorem z1f.form{w:World}{B:Nat}{v:Value}{l:List Ent}(h:z1f w B v l):∃A c,v=.slice A l.length c:=by
 obtain⟨A,c,a,rfl,_⟩:=h;exact⟨A,c,rfl⟩
theorem z2a.form{w:World}{B:Nat}{v:Value}{l:List Ent}(h:z2a w B v l):∃A c,v=.slice A l.length c:=by
 obtain⟨b,_,_,a⟩:=h;obtain⟨A,c,rfl,-⟩:=z05 a;exact⟨A,c,rfl⟩
theorem z2a.v{w:World}{base:Nat}{v:Value}{l:List Ent}(h:z2a w base v l):z1f w w.heap.size v l:=by
 obtain⟨a,g,d,h3⟩:=h;obtain⟨A,c,rfl,-⟩:=z05 h3
 exact⟨A,c,a,rfl,g,fun i e b=>by
  obtain⟨f,h4,j⟩:=d i e b;exact⟨f,h4,j.c⟩,z0l h3⟩
theorem z1f.fr{w w':World}{B:Nat}{S:List Nat}{v:Value}{l:List Ent}(h:z1f w B v l)(hf:Fr S w w')(hB:B≤w.heap.size)(hS:∀k,k∈S→B≤k):z1f w' B v l:=by
 obtain⟨A,c,a,rfl,b,hi,hs⟩:=h
 exact⟨A,c,a,rfl,b,fun i x g=>by
  obtain⟨e,f,d⟩:=hi i x g;exact⟨e,f,d.fr hf hB hS⟩,hs.fr hf hB hS⟩
theorem z1f.more{w:World}{B B':Nat}{v:Value}{l:List Ent}(h:z1f w B v l)(hB:B≤B'):z1f w B' v l:=by
 obtain⟨A,c,a,rfl,b,hi,hs⟩:=h
 exact⟨A,c,a,rfl,b,fun i x g=>by
  obtain⟨e,f,d⟩:=hi i x g;exact⟨e,f,d.more hB⟩,hs.more hB⟩
theorem z2a.fr{w w':World}{base:Nat}{v:Value}{l:List Ent}(h:z2a w base v l)(hf:Fr [] w w'):z2a w' base v l:=by
 obtain⟨a,g,d,h3⟩:=h
 exact⟨a,g,fun i e b=>by
  obtain⟨f,h4,j⟩:=d i e b;exact⟨f,h4,j.fr hf⟩,z08 h3 hf (by simp)⟩
theorem z2a.base{w:World}{base base':Nat}{v:Value}{l:List Ent}(h:z2a w base v l)(hb:base'≤base):z2a w base' v l:=by
 obtain⟨a,g,d,h3⟩:=h
 exact⟨a,g,fun i e b=>by
  obtain⟨f,h4,j⟩:=d i e b;exact⟨f,h4,j.base hb⟩,z0i h3 hb⟩
theorem z1f.nil(w)(B:Nat):z1f w B (.slice none 0 0) []:=⟨none,0,[],rfl,rfl,fun i x h=>by simp at h,Sl.nil _ _ _⟩
theorem z2a.nil(w)(base:Nat):z2a w base (.slice none 0 0) []:=⟨[],rfl,fun i x h=>by simp at h,World.ownsRow_nil _ _ _ _⟩
theorem zjq{P:List Value→Ent→Prop}{l:List Ent}{rs:List (List Value)}(hl:rs.length=l.length)(hP:∀cs e,P cs e→cs.length=7)(h:∀(i:Nat) (e),l[i]? = some e→∃cs:List Value,rs[i]? = some cs∧P cs e):∀c∈rs,c.length=7:=fun c hc=>by
 obtain⟨j,hj,rfl⟩:=Vy hc;obtain⟨d,hd,h5⟩:=h j _ (Xa (show j < l.length by omega));rw[Xa hj] at hd;cases hd;exact hP _ _ h5
structure At7(w:World)(B b o:Nat)(e:Ent)(A1 A2 A3:YV)(c1 c2 c3:Nat):Prop where
 k0:w.cell? ⟨b,o,none⟩=some (.string e.key)
 k1:w.cell? ⟨b,o+1,none⟩=some (.int .i64 e.item.kind)
 k2:w.cell? ⟨b,o+2,none⟩=some (.string e.item.text)
 k3:w.cell? ⟨b,o+3,none⟩=some (.slice A1 e.item.list.length c1)
 k4:w.cell? ⟨b,o+4,none⟩=some (.slice A2 e.item.pairs.length c2)
 k5:w.cell? ⟨b,o+5,none⟩=some (.slice A3 e.item.scores.length c3)
 k6:w.cell? ⟨b,o+6,none⟩=some (.int .i64 e.til)
 ent:zlx w B (z9p e A1 c1 A2 c2 A3 c3) e
theorem At7.fr{w w':World}{B b o:Nat}{e:Ent}{A1 A2 A3:YV}{c1 c2 c3:Nat}{S:List Nat}(h:At7 w B b o e A1 A2 A3 c1 c2 c3)(hf:Fr S w w')(hb:b < B)(hB:B≤w.heap.size)(hS:∀k,k∈S→B≤k):At7 w' B b o e A1 A2 A3 c1 c2 c3:=by
 have a:b∉S:=fun d=>by have:=hS b d;omega
 exact⟨hf.cell h.k0 a,hf.cell h.k1 a,hf.cell h.k2 a,hf.cell h.k3 a,hf.cell h.k4 a,hf.cell h.k5 a,hf.cell h.k6 a,h.ent.fr hf hB hS⟩
theorem z1f.at_{w:World}{B:Nat}{A:YV}{c:Nat}{l:List Ent}(h:z1f w B (.slice A l.length c) l)(hn:0 < l.length):
  ∃b off,A=some ⟨b,off,none⟩∧b < B∧l.length≤c∧c≤maxLen∧∀(i:Nat) (e:Ent),l[i]? = some e→∃A1 A2 A3 c1 c2 c3,At7 w B b (off+i * 7) e A1 A2 A3 c1 c2 c3:=by
 obtain⟨H,G,p,C,s,hi,hs⟩:=h;cases C;obtain⟨b,off,rfl,k,F,y,a⟩:=hs.at_ hn;refine⟨b,off,rfl,k,F,y,fun i e D=>?_⟩;obtain⟨n,f,r⟩:=hi i e D;have d:=zjq s (fun n e h=>zlx.len h) hi;obtain⟨A1,c1,A2,c2,A3,c3,rfl,x,m,z⟩:=r
 have g:∀j u,j < 7→(z9p e A1 c1 A2 c2 A3 c3)[j]? = some u→w.cell? ⟨b,off+(i * 7+j),none⟩=some u:=fun j u E t=>
  a _ _ (by rw[z3q 7 p i j _ d f E];exact t)
 exact⟨A1,A2,A3,c1,c2,c3,g 0 _ (by decide) rfl,by rw[Yb];exact g 1 _ (by decide) rfl,by rw[Yb];exact g 2 _ (by decide) rfl,by rw[Yb];exact g 3 _ (by decide) rfl,by rw[Yb];exact g 4 _ (by decide) rfl,by rw[Yb];exact g 5 _ (by decide) rfl,by rw[Yb];exact g 6 _ (by decide) rfl,⟨A1,c1,A2,c2,A3,c3,rfl,x,m,z⟩⟩
def z30(n:Int):Bool:=decide (0≤n)&&decide (n≤1000000)
def z60(til now:Int):Bool:=decide (til≠0)&&decide (til≤now)
def z2v:Option YY→YY→Bool
 | none,_=>false
 | some k,s=>!ltS k s
def z3o(p:Option YY)(e:Ent):Int:=
 if 60 < e.key.size then 2 else if z0a e.item≠0 then z0a e.item else if z30 e.til=false then 3 else if z2v p e.key=true then 4 else 0
def zse:Option YY→List Ent→Int
 | _,[]=>0
 | p,e :: l=>if z3o p e≠0 then z3o p e else zse (some e.key) l
def z1z(l:List Ent):Int:=if 16 < l.length then 2 else zse none l
def z8x(l:List Ent)(k:Nat):Option YY:=if k=0 then none else (l[k - 1]?).map (·.key)
theorem zun{l:List Ent}{k:Nat}{e:Ent}(h:l[k]? = some e):zse (z8x l k) (l.drop k)=if z3o (z8x l k) e≠0 then z3o (z8x l k) e else zse (z8x l (k+1)) (l.drop (k+1)):=by
 have a:=(Xe.1 h).1
 have d:l.drop k=e :: l.drop (k+1):=by
  rw[Yu a];congr 1;rw[Xa a] at h;exact Option.some.inj h
 have b:z8x l (k+1)=some e.key:=by unfold z8x;rw[Xc (by omega),Jq,h];rfl
 rw[d,b];rfl
theorem zrq(l):z8x l 0=none:=rfl
structure z22(l:List Ent):Prop where
 le:l.length≤16
 keys:∀e∈l,e.key.size≤60
 items:∀e∈l,z0a e.item=0
 times:∀e∈l,0≤e.til∧e.til≤1000000
 rise:rises (ltK Ent.key) l=true
theorem zqs{p:Option YY}{e:Ent}(h:z3o p e=0):e.key.size≤60∧z0a e.item=0∧(0≤e.til∧e.til≤1000000)∧z2v p e.key=false:=by
 unfold z3o at h;split at h
 ·cases h
 ·rename_i h1;split at h
  ·rename_i h2;exact absurd h h2
  ·rename_i h2;split at h
   ·cases h
   ·rename_i h3;split at h
    ·cases h
    ·rename_i h4;refine⟨by omega,by simpa using h2,?_,by simpa using h4⟩;have:z30 e.til=true:=by simpa using h3
     unfold z30 at this;simpa using this
theorem zk2:∀ {l:List Ent} {p:Option YY},zse p l=0→(∀e∈l,e.key.size≤60∧z0a e.item=0∧(0≤e.til∧e.til≤1000000))∧rises ltS (l.map (·.key))=true∧(∀e,l[0]? = some e→z2v p e.key=false)
 | [],p,_=>⟨(fun e he=>by cases he),rfl,(fun e he=>by simp at he)⟩
 | e :: l,p,h=>by
  unfold zse at h;by_cases hc:z3o p e=0
  ·rw[Xc (by simpa using hc)] at h;obtain⟨h1,h2,h3⟩:=zk2 h;obtain⟨k1,k2,k3,k4⟩:=zqs hc;refine⟨fun x hx=>?_,?_,fun x hx=>by simp at hx;subst hx;exact k4⟩
   ·rcases Yh.1 hx with rfl|hx
    ·exact⟨k1,k2,k3⟩
    ·exact h1 x hx
   ·cases l with
    | nil=>rfl
    | cons y l=>
     have:=h3 y rfl;unfold z2v at this;rw[Yv,Yv];rw[Yv] at h2;unfold rises;rw[Yf];exact⟨by simpa using this,h2⟩
  ·rw[Xf hc] at h;exact absurd h hc
theorem q4j{l:List Ent}(h:z1z l=0):z22 l:=by
 unfold z1z at h;split at h
 ·cases h
 ·rename_i hl;obtain⟨d,g,_⟩:=zk2 h;refine⟨by omega,fun e f=>(d e f).1,fun e f=>(d e f).2.1,fun e f=>(d e f).2.2,?_⟩;refine z34 ?_;have:=z2u (lt:=ltS) (fun a b c d g=>Xi (z4u (Yl d) (Yl g))) g;rw[Vf] at this;exact this
structure BX(w:World)(cs:List Value)(wr:World):Prop where
 b:Whole wr w.heap.size 68 cs
 f:Fr [] w wr
theorem BX.new(w)(a b c d e):BX w [a,b,c,d,e] (w.alloc (.cells #[a,b,c,d,e] 68)):=⟨Whole.new w _ _,(Fr.refl [] w).alloc _⟩
theorem BX.go{w wr w1:World}{cs:List Value}(h:BX w cs wr)(k:Fr [] wr w1):BX w cs w1:=⟨h.b.fr k (by simp),h.f.trans k⟩
structure BO(w:World)(n:Nat)(cs:List Value)(wr:World):Prop where
 b:Whole wr w.heap.size 68 cs
 o:Whole wr (w.heap.size+n) 68 [.int .i64 0,.string ⟨#[]⟩,.slice none 0 0,.slice none 0 0,.slice none 0 0]
 f:Fr [] w wr
theorem BO.new(w)(a b c d e):BO w 1 [a,b,c,d,e] ((w.alloc (.cells #[a,b,c,d,e] 68)).alloc (.cells #[.int .i64 0,.string ⟨#[]⟩,.slice none 0 0,.slice none 0 0,.slice none 0 0] 68)):=
 ⟨(Whole.new w _ _).alloc _,by
  have:=Whole.new (w.alloc (.cells #[a,b,c,d,e] 68)) 68 yIzl;simpa using this,((Fr.refl [] w).alloc _).alloc _⟩
theorem BO.new2(w)(a b c d e s):BO w 2 [a,b,c,d,e] (((w.alloc (.cells #[a,b,c,d,e] 68)).alloc (.cells #[s] 9)).alloc (.cells #[.int .i64 0,.string ⟨#[]⟩,.slice none 0 0,.slice none 0 0,.slice none 0 0] 68)):=
 ⟨((Whole.new w _ _).alloc _).alloc _,by
  have:=Whole.new ((w.alloc (.cells #[a,b,c,d,e] 68)).alloc (.cells #[s] 9)) 68 yIzl;simpa using this,(((Fr.refl [] w).alloc _).alloc _).alloc _⟩
theorem BO.newL(w)(a b c d e s):BO w 2 [a,b,c,d,e] (((w.alloc (.cells #[a,b,c,d,e] 68)).alloc (.cells #[s] 24)).alloc (.cells #[.int .i64 0,.string ⟨#[]⟩,.slice none 0 0,.slice none 0 0,.slice none 0 0] 68)):=
 ⟨((Whole.new w _ _).alloc _).alloc _,by
  have:=Whole.new ((w.alloc (.cells #[a,b,c,d,e] 68)).alloc (.cells #[s] 24)) 68 yIzl;simpa using this,(((Fr.refl [] w).alloc _).alloc _).alloc _⟩
theorem BO.go{w wr w1:World}{n:Nat}{cs:List Value}(h:BO w n cs wr)(k:Fr [] wr w1):BO w n cs w1:=⟨h.b.fr k (by simp),h.o.fr k (by simp),h.f.trans k⟩
theorem BO.step{w wr w1:World}{n:Nat}{cs:List Value}{S:List Nat}(h:BO w n cs wr)(k:Fr S wr w1)(hS:∀g,g∈S→w.heap.size+n < g):BO w n cs w1:=
 ⟨h.b.fr k (fun hm=>by have:=hS _ hm;omega),h.o.fr k (fun hm=>by have:=hS _ hm;omega),h.f.step k (fun g hg=>.inr (by have:=hS g hg;omega))⟩
theorem BO.alloc{w wr:World}{n:Nat}{cs:List Value}(h:BO w n cs wr)(o:Obj):BO w n cs (wr.alloc o):=h.go ((Fr.refl [] wr).alloc o)
theorem BO.end5{w wr:World}{n:Nat}{cs:List Value}(h:BO w n cs wr)(a b c d e):Fr [] w (set5 wr (w.heap.size+n) a b c d e):=z6s h.f (by omega) _ _ _ _ _
theorem BO.lt{w wr:World}{n:Nat}{cs:List Value}(h:BO w n cs wr):w.heap.size+n < wr.heap.size:=h.o.lt
theorem z0k.form{w:World}{base:Nat}{v:Value}{x:Itm}(h:z0k w base v x):∃A1 c1 A2 c2 A3 c3,v=.agg #[.int .i64 x.kind,.string x.text,.slice A1 x.list.length c1,.slice A2 x.pairs.length c2,.slice A3 x.scores.length c3]:=by
 obtain⟨g,f,e,rfl,d,b,a⟩:=h;obtain⟨A1,c1,rfl⟩:=z68 (z0l d);obtain⟨A2,c2,rfl⟩:=z68 (z0l b);obtain⟨A3,c3,rfl⟩:=z68 (z0l a);exact⟨A1,c1,A2,c2,A3,c3,rfl⟩
theorem z0p.form{w:World}{B:Nat}{v:Value}{x:Itm}(h:z0p w B v x):∃A1 c1 A2 c2 A3 c3,v=.agg #[.int .i64 x.kind,.string x.text,.slice A1 x.list.length c1,.slice A2 x.pairs.length c2,.slice A3 x.scores.length c3]:=by
 obtain⟨A1,c1,A2,c2,A3,c3,rfl,_⟩:=h;exact⟨A1,c1,A2,c2,A3,c3,rfl⟩
theorem z0d{w:World}{base e size n:Nat}{v:Value}{xs:List Value}(h:w.ownsRow base e size v n xs){p:Addr}(hp:p.block < base)(u):(w.setCell p u).ownsRow base e size v n xs:=
 z0r u h (fun he=>by have:=(h.lt _ he).1;omega)
theorem z5r{w:World}{base e size n o:Nat}{v:Value}{xs:List Value}(h:w.ownsRow base e size v n xs)(ho:o < base)(a b c d f):(set5 w o a b c d f).ownsRow base e size v n xs:=
 z0d (p:=⟨o,4,none⟩) (z0d (p:=⟨o,3,none⟩) (z0d (p:=⟨o,2,none⟩) (z0d (p:=⟨o,1,none⟩) (z0d (p:=⟨o,0,none⟩) h ho _) ho _) ho _) ho _) ho _
theorem z1v{w:World}{base o:Nat}{v:Value}{x:Itm}(h:z0k w base v x)(ho:o < base)(a b c d e):z0k (set5 w o a b c d e) base v x:=by
 obtain⟨m,l,k,rfl,j,g,f⟩:=h;exact⟨_,_,_,rfl,z5r j ho _ _ _ _ _,z5r g ho _ _ _ _ _,z5r f ho _ _ _ _ _⟩
theorem z0k.go{w w':World}{base:Nat}{v:Value}{x:Itm}(h:z0k w base v x)(hf:Fr [] w w'):z0k w' base v x:=by
 obtain⟨g,f,e,rfl,d,b,a⟩:=h;exact⟨_,_,_,rfl,z08 d hf (by simp),z08 b hf (by simp),z08 a hf (by simp)⟩
theorem z0k.less{w:World}{base base':Nat}{v:Value}{x:Itm}(h:z0k w base v x)(hb:base'≤base):z0k w base' v x:=by
 obtain⟨g,f,e,rfl,d,b,a⟩:=h;exact⟨_,_,_,rfl,z0i d hb,z0i b hb,z0i a hb⟩
section
variable {w0 wr w1:World} {bl:List (Nat×List Value)} {its:List (Value×Itm)} {rs:List (Nat×Value×Nat×List Value)}
theorem zsa{w:World}{g:Nat}{a b c d e a' b' c' d' e':Value}(h:Whole w g 68 [a,b,c,d,e]):Whole (set5 w g a' b' c' d' e') g 68 [a',b',c',d',e']:=
 ((((h.set_ 0 a').set_ 1 b').set_ 2 c').set_ 3 d').set_ 4 e'
end
def z57(k code:Int)(y:Itm)(w:World)(e:Ending)(w':World):Prop:=∃u,e=.returned (.tuple #[u,.int .i64 k,.int .i64 code])∧z0k w' w.heap.size u y∧Fr [] w w'
def OwnI(base:Nat)(x:Itm)(w:World)(e:Ending)(w':World):Prop:=∃u,e=.returned u∧z0k w' base u x∧Fr [] w w'
def q1b(s:YY)(code:Int)(w:World)(e:Ending)(w':World):Prop:=e=.returned (.tuple #[.string s,.int .i64 code])∧Fr [] w w'
end
structure AsOk(k:Int)(x:Itm):Prop where
 kind:x.kind=0∨x.kind=k
 le24:many x≤24
 text:x.text.size≤60
 texts:∀s∈x.list,s.size≤60
 fields:∀p∈x.pairs,p.1.size≤60∧p.2.size≤60
 members:∀p∈x.scores,z0o p.1=true∧p.2.size≤60
 bare:z6q x=true
 none:x.kind=0→many x=0
 some:x.kind≠0→z0a x=0
theorem z1m{k:Int}{x:Itm}(h:z02 k x=0):AsOk k x:=by
 unfold z02 at h;by_cases b:z0v x=true
 ·unfold z0v at b;rw[Yf] at b;obtain⟨m,l⟩:=b;have a:x.kind=0:=by simpa using m
  have g:=l;unfold z6q at g;rw[a] at g;simp at g;obtain⟨⟨⟨j,f⟩,d⟩,e⟩:=g;have f:x.list=[]:=by simpa using f
  have d:x.pairs=[]:=by simpa using d
  have e:x.scores=[]:=by simpa using e
  have j:x.text.size=0:=by
   first|exact j|(rw[j];rfl)
  exact⟨.inl a,by unfold many;rw[f,d,e];simp,by omega,by rw[f];simp,by rw[d];simp,by rw[e];simp,l,fun _=>by unfold many;rw[f,d,e];simp,fun b=>absurd a b⟩
 ·rw[Xc b] at h;by_cases hc:z0a x=0
  ·rw[Xf hc] at h;have r:=z2t hc;by_cases a:x.kind=k
   ·exact⟨.inr a,r.many,r.text,r.texts,r.fields,r.members,r.bare,fun n=>by have:=r.kind;omega,fun _=>hc⟩
   ·rw[Xc a] at h;cases h
  ·rw[Xc hc] at h;exact absurd h hc
def z6x(n:Nat)(f t:Int):Nat:=
 let f':=if f < 0 then max 0 (f+n) else f
 let t':=min (if t < 0 then t+n else t) ((n:Int) - 1)
 if f' > t' then 0 else f'.toNat
def z6y(n:Nat)(f t:Int):Nat:=
 let f':=if f < 0 then max 0 (f+n) else f
 let t':=min (if t < 0 then t+n else t) ((n:Int) - 1)
 if f' > t' then 0 else (t'+1).toNat
theorem z6z(n:Nat)(f t:Int):z6x n f t≤z6y n f t∧z6y n f t≤n:=by
 unfold z6x z6y;simp only;by_cases h:(if f < 0 then max 0 (f+n) else f) > min (if t < 0 then t+n else t) ((n:Int) - 1)
 ·rw[Xf h,Xf h];omega
 ·rw[Xc h,Xc h];have:0≤(if f < 0 then max 0 (f+(n:Int)) else f):=by split <;> omega
  omega
def z28{α:Type}(l:List α)(f t:Int):List α:=(l.take (z6y l.length f t)).drop (z6x l.length f t)
def z18(x:Itm)(l:YX):Int:=if z02 2 x≠0 then z02 2 x else if z1a l≠0 then z1a l else if 24 < x.list.length+l.length then 2 else 0
def z8m(x:Itm)(left:Bool)(l:YX):YX:=if left then l.reverse++x.list else x.list++l
def z1q(x:Itm):Int:=if z02 2 x≠0 then z02 2 x else if x.kind=0 then 5 else 0
def zxh(x:Itm)(left:Bool):YX:=if left then x.list.drop 1 else x.list.take (x.list.length - 1)
def q6l(x:Itm)(left:Bool):YY:=x.list.getD (if left then 0 else x.list.length - 1) ⟨#[]⟩
def zry(x:Itm)(s:YY):YX:=x.list.filter fun y=>!decide (y=s)
def ofL(l:YX):Itm:=if l.length=0 then z2q 0 else zho l
def zc5(x:Itm)(left:Bool)(l:YX):Itm:=if z18 x l=0 then ofL (z8m x left l) else z2q 0
def zg1(x:Itm)(left:Bool)(l:YX):Int:=if z18 x l=0 then (z8m x left l).length else 0
def zg0(x:Itm)(left:Bool):Itm:=if z1q x=0 then ofL (zxh x left) else z2q 0
def zxi(x:Itm)(left:Bool):YY:=if z1q x=0 then q6l x left else ⟨#[]⟩
def zxj(x:Itm)(s:YY):Itm:=if z02 2 x=0 then ofL (zry x s) else z2q 0
def q51(x:Itm)(s:YY):Int:=if z02 2 x=0 then (x.list.length:Int) - (zry x s).length else 0
theorem z7d{l:YX}(h:z1a l=0):∀s∈l,s.size≤60:=by
 unfold z1a at h;by_cases h0:l.length=0
 ·rw[Xf h0] at h;cases h
 ·rw[Xc h0] at h;by_cases h1:l.any z5a=true
  ·rw[Xf h1] at h;cases h
  ·intro s hs;rw[Bool.not_eq_true,Ue] at h1;have:=h1 s hs;unfold z5a at this;simpa using this
theorem zi1{x:Itm}{left:Bool}{l:YX}{s:YY}(h:s∈z8m x left l):s∈x.list∨s∈l:=by
 unfold z8m at h;cases left
 ·simpa using h
 ·simpa[or_comm] using h
theorem z4v(x)(left:Bool)(l):(z8m x left l).length=x.list.length+l.length:=by
 unfold z8m;cases left
 ·simp
 ·simp;omega
theorem z2p{α:Type}(l:List α)(f t:Int):(z28 l f t).length=z6y l.length f t - z6x l.length f t:=by
 unfold z28;have:=z6z l.length f t;rw[Xr,Xp];omega
theorem z81{α:Type}{l:List α}{f t:Int}{s:α}(h:s∈z28 l f t):s∈l:=Ud (Yp h)
section
open Go.RowKit
attribute [local go_sem] z1g
theorem Tryz.info4:(prog.info? 4).map (fun i=>(i.zero,i.size,i.bytes))=some (some (.bool false),1,1):=by kernel_rfl
theorem zds{w:World}{L B:Nat}:∀ {ps:List Part} {xs:List Value} {k:Nat} {P:Part},cellsOf w L B ps xs→ps[k]? = some P→∃a f,xs[k * 2]? = some a∧xs[k * 2+1]? = some f∧z5v w L B P a f
 | [],_,k,P,_,hk=>by simp at hk
 | Q :: ps,xs,0,P,h,hk=>by
  obtain⟨a,f,r,rfl,h1,h2⟩:=h;simp at hk;subst hk;exact⟨a,f,rfl,rfl,h1⟩
 | Q :: ps,xs,k+1,P,h,hk=>by
  obtain⟨a,f,r,rfl,h1,h2⟩:=h;simp at hk;obtain⟨a',f',e1,e2,h3⟩:=zds h2 hk;refine⟨a',f',?_,?_,h3⟩
  ·rw[show(k+1) * 2=k * 2+1+1 by omega];simpa using e1
  ·rw[show(k+1) * 2+1=k * 2+1+1+1 by omega];simpa using e2
structure MOut(w wr:World)(g m:Nat)(f:Nat→Bool):Prop where
 row:wr.rowIs g 4 m (fun i=>.bool (f i))
 lo:w.heap.size≤g
 fr:Fr [] w wr
structure MIn(w wi:World)(g g1 m i:Nat)(F N:Nat→Bool)(a f:Value):Prop where
 row:wi.rowIs g 4 m (fun j=>.bool (F j))
 nx:wi.rowIs (g1+1) 4 m (fun j=>.bool (if j < i then N j else false))
 bx:Whole wi g1 318 [a,f]
 fr:Fr [] w wi
 sz:g1+1 < wi.heap.size
theorem MIn.put{w wi:World}{g g1 m i:Nat}{F N:Nat→Bool}{a f:Value}(h:MIn w wi g g1 m i F N a f)(hg:g < g1)(hw:w.heap.size≤g1)(b:Bool)(hb:b=N i):
  MIn w (wi.setCell ⟨g1+1,i,none⟩ (.bool b)) g g1 m (i+1) F N a f:=
 ⟨h.row.setOther (by simp;omega) _,(h.nx.set i _).congr (fun j _=>by
  by_cases hj:j=i
  ·subst hj;simp[hb]
  ·rw[Xc hj];by_cases h1:j < i
   ·rw[Xf h1,Xf (by omega)]
   ·rw[Xc h1,Xc (by omega)]),h.bx.far (by simp) _,h.fr.setCell (.inr (by simp;omega)) _,by simpa[World.setCell] using h.sz⟩
theorem MIn.skip{w wi:World}{g g1 m:Nat}{F N:Nat→Bool}{a f:Value}(h:MIn w wi g g1 m 0 F N a f)(h0:N 0=false):MIn w wi g g1 m 1 F N a f:=
 ⟨h.row,h.nx.congr (fun j _=>by
  by_cases hj:j=0
  ·subst hj;simp[h0]
  ·rw[Xc (by omega),Xc (by omega)]),h.bx,h.fr,h.sz⟩
theorem MIn.like{w wi wj:World}{g g1 m i:Nat}{F N:Nat→Bool}{a f:Value}(h:MIn w wi g g1 m i F N a f)(e:wj.heap=wi.heap)(e2:wj.os=wi.os)(e3:wj.tape=wi.tape)(e4:wj.output=wi.output):MIn w wj g g1 m i F N a f:=by
 cases wi;cases wj;simp only at e e2 e3 e4;subst e;subst e2;subst e3;subst e4;exact⟨h.row,h.nx,h.bx,⟨h.fr.os,h.fr.tape,h.fr.output,h.fr.size,h.fr.block⟩,h.sz⟩
theorem zvi(ps:List Part)(base B:Nat)(v:Value)(xs:List Value)(s:YY)(w:World)(hs:s.size≤60)(hps:ps.length≤60)(hB:B≤w.heap.size)
  (hown:w.ownsRow base 318 2 v ps.length xs) (hcells:cellsOf w base B ps xs):
  Calls prog 308 #[v,.string s] w fun e w'=>e=.returned (.bool (z3w ps s s.size))∧Fr [] w w':=by
 have a7:=run_make_row' (P:=prog) 186 4 (.bool false) 1 Tryz.underlying186 Tryz.info4 rfl .i64 .i64 (s.size+1) (by omega) (by omega);have ec:((s.size+1:Nat):Int)=(s.size:Int)+1:=by omega
 rw[ec] at a7;clear ec;obtain⟨A,c,hv⟩:=zcp hown;subst hv;have y:=hid hown;have HC:=hid hcells;clear hown hcells
 have N:MOut w ((w.alloc (.cells (madeCells #[.bool false] (s.size+1)) 4)).setCell ⟨w.heap.size,0,none⟩ (.bool true)) w.heap.size (s.size+1) (z3w (ps.take 0) s):=
  ⟨((World.rowIs_made w (.bool false) (s.size+1) 4).set 0 (.bool true)).congr (fun i _=>by
   by_cases h:i=0 <;> simp[z3w,h]),Xb _,((Fr.refl _ w).alloc _).setCell (.inr (by simp)) _⟩
 rw[World.setCell_alloc_at _ _ _ _ _ rfl] at N;have a3:=hid N;clear N;have r0:=(World.rowIs_made w (.bool false) (s.size+1) 4).cell (i:=0) (by omega);have z0:=(World.rowIs_made w (.bool false) (s.size+1) 4).frozen 0;go_enter Tryz.func308,Tryz.ntmps308;go_wp2;clear r0 z0;go_loopg [5,7,8,9,18] ps.length (fun gk s5 _ _ _ a6 wr=>∃k g:Nat,gk=ps.length - k∧k≤ps.length∧a6=.int .i64 k∧s5=.slice (some ⟨g,0,none⟩) (s.size+1) (s.size+1)∧MOut w wr g (s.size+1) (z3w (ps.take k) s))
 case atStart=>exact⟨0,_,rfl,Xt _,rfl,rfl,a3.o⟩
 case round=>
  clear a3;obtain⟨k,g,rfl,hk,rfl,rfl,hM⟩:=hrel;have D:=hid hM;have a5:=hM.fr.size;clear hM;by_cases hlt:k < ps.length
  ·obtain⟨P,J⟩:∃P,ps[k]? = some P:=⟨ps[k],Xa hlt⟩;obtain⟨a,f,a0,a2,O⟩:=zds HC.o J
   obtain⟨G,hA,E⟩:∃G,A=some ⟨G,0,none⟩∧G < w.heap.size:=by
    rcases y.o.2 with⟨e,h0⟩|⟨G,cap,cur,e,_,hG,_⟩
    ·omega
    ·cases e;exact⟨G,rfl,(Uv.1 hG).1⟩
   subst hA
   have q0:wr.cell? ⟨G,k * 2,none⟩=some a:=by
    rw[(D.o.fr.cell? (p:=⟨G,k * 2,none⟩) E (by simp)),y.o.cellAt (k * 2) (by omega),a0]
   have q1:wr.cell? ⟨G,k * 2+1,none⟩=some f:=by
    rw[(D.o.fr.cell? (p:=⟨G,k * 2+1,none⟩) E (by simp)),y.o.cellAt (k * 2+1) (by omega),a2]
   have M:=O.one;have ak:∀(W:World) (R:Addr) (m:Mode),(store R a m).run prog W=stored prog W R a m:=fun W R m=>run_store _ _ _ _ _ M.1;have al:∀(W:World) (R:Addr) (m:Mode),(store R f m).run prog W=stored prog W R f m:=fun W R m=>run_store _ _ _ _ _ M.2;have z:=hid O;have HP:=hid J;clear O J a0 a2 M;obtain⟨F,hF⟩:∃F,F=z3w (ps.take k) s:=⟨_,rfl⟩;have HF:=hid hF;rw[←hF] at D;clear hF;have d:g < wr.heap.size:=D.o.row.lt
   have Y:MIn w ((wr.alloc (.cells #[a,f] 318)).alloc (.cells (madeCells #[.bool false] (s.size+1)) 4)) g wr.heap.size (s.size+1) 0 F (z3y P F s) a f:=
    ⟨(D.o.row.alloc _).alloc _,by simpa using World.rowIs_made (wr.alloc (.cells #[a,f] 318)) (.bool false) (s.size+1) 4,(Whole.new wr 318 [a,f]).alloc _,(D.o.fr.alloc _).alloc _,by simp⟩
   have S:=hid Y;clear Y;go_wp2;clear q0 q1;obtain⟨g1,X⟩:∃g1,g1=wr.heap.size:=⟨_,rfl⟩;rw[←X] at S d a5 ⊢;go_loopg [9,28] (s.size+1) (fun gk _ aa wr=>∃i:Nat,gk=s.size+1 - i∧i≤s.size+1∧aa=.int .i64 i∧MIn w wr g g1 (s.size+1) i F (z3y P F s) a f)
   case atStart=>exact⟨0,rfl,Xt _,rfl,S.o⟩
   case round=>
    clear S X;obtain⟨i,rfl,hi,rfl,hI⟩:=hrel;have l:=hid hI;have af:=hI.sz;obtain⟨ai,aj,_,_⟩:=hI.bx.two;clear hI;by_cases hil:i < s.size+1
    ·have cI:=l.o.row.cell hil;have nI:=l.o.nx.cell hil;have fI:=l.o.nx.frozen i;cases J:P with
     | star=>
      subst J;obtain⟨rfl,rfl⟩:=z.o;cases hFi:F i with
      | true=>
       simp only[hFi] at cI;have C:=hid hFi;clear hFi;go_wp2;go_roundg (s.size+1 - (i+1))
       case measure=>omega
       case rel=>exact⟨i+1,rfl,by omega,by go_num,l.o.put d (by omega) true (by cases i <;> simp[z3y,C.o])⟩
      | false=>
       simp only[hFi] at cI;have C:=hid hFi;clear hFi;cases i with
       | zero=>
        go_wp2;go_roundg (s.size+1 - 1)
        case measure=>omega
        case rel=>exact⟨1,rfl,by omega,rfl,l.o.put d (by omega) false (by simp[z3y,C.o])⟩
       | succ j=>
        have nJ:=l.o.nx.cell (i:=j) (by omega);simp only[Je,if_true] at nJ;have L:decide ((0:Int) < (j:Int)+1)=true:=Xi (by omega);go_wp2;go_roundg (s.size+1 - (j+1+1))
        case measure=>omega
        case rel=>exact⟨j+1+1,rfl,by omega,by go_num,l.o.put d (by omega) _ (by simp[z3y,C.o])⟩
     | any=>
      subst J;obtain⟨rfl,rfl⟩:=z.o;have t:z3y .any F s 0=false:=rfl;have K:∀j,z3y .any F s (j+1)=(F j&&true):=fun _=>rfl;have u:=hid t;have H:=hid K;clear t K;cases i with
      | zero=>
       go_wp2;go_roundg (s.size+1 - 1)
       case measure=>omega
       case rel=>exact⟨1,rfl,by omega,rfl,l.o.skip u.o⟩
      | succ j=>
       have I:=l.o.row.cell (i:=j) (by omega);have bj:=z0t s j;have L:(j:Int) < s.size:=by omega
       have U:IntKind.i64.wrap (j:Int)=(j:Int):=IntWalk.i64_in _ (by omega);have a1:(j:Int) < (s.size:Int)+1:=by omega
       cases hFj:F j with
       | false=>
        simp only[hFj] at I;have r:=hid hFj;clear hFj;go_wp2
        go_region
        go_wp2;go_roundg (s.size+1 - (j+1+1))
        case measure=>omega
        case rel=>exact⟨j+1+1,rfl,by omega,by go_num,(l.o.put d (by omega) false (by rw[H.o,r.o];rfl)).like rfl rfl rfl rfl⟩
       | true=>
        simp only[hFj] at I;have r:=hid hFj;clear hFj;go_wp2
        go_region_with (refine(zxt _ _).mono ?_;rintro e w2 ⟨rfl,rfl⟩)
        all_goals
         go_wp2;go_roundg (s.size+1 - (j+1+1))
         case measure=>omega
         case rel=>exact⟨j+1+1,rfl,by omega,by go_num,(l.o.put d (by omega) (true) (by rw[H.o,r.o];rfl)).like rfl rfl rfl rfl⟩
     | lit x=>
      subst J;obtain⟨rfl,b,ae,a8,rfl,Q⟩:=z.o;have t:z3y (.lit x) F s 0=false:=rfl;have K:∀j,z3y (.lit x) F s (j+1)=(F j&&decide (z04 s j=x)):=fun _=>rfl;have u:=hid t;have H:=hid K;clear t K;cases i with
      | zero=>
       go_wp2;go_roundg (s.size+1 - 1)
       case measure=>omega
       case rel=>exact⟨1,rfl,by omega,rfl,l.o.skip u.o⟩
      | succ j=>
       have I:=l.o.row.cell (i:=j) (by omega);have bj:=z0t s j;have L:(j:Int) < s.size:=by omega
       have U:IntKind.i64.wrap (j:Int)=(j:Int):=IntWalk.i64_in _ (by omega);have a1:(j:Int) < (s.size:Int)+1:=by omega
       cases hFj:F j with
       | false=>
        simp only[hFj] at I;have r:=hid hFj;clear hFj;go_wp2
        go_region
        go_wp2;go_roundg (s.size+1 - (j+1+1))
        case measure=>omega
        case rel=>exact⟨j+1+1,rfl,by omega,by go_num,(l.o.put d (by omega) false (by rw[H.o,r.o];rfl)).like rfl rfl rfl rfl⟩
       | true=>
        simp only[hFj] at I;have r:=hid hFj;clear hFj;have V:∀W:World,W.cell? ⟨b,0,none⟩=some (.int .u8 x)→Calls prog 368 #[.int .u8 (z04 s j:Int),.pointer (some ⟨b,0,none⟩)] W fun e w'=>e=.returned (.bool (decide (z04 s j=x)))∧W=w':=fun W hW=>zzp _ x b W hW;have HX:=hid V;clear V;have xc:wr.cell? ⟨b,0,none⟩=some (.int .u8 x):=(l.o.fr.cell? (p:=⟨b,0,none⟩) (by show b < w.heap.size;omega) (by simp)).trans (Q.cell 0);go_wp2
        go_region_with (refine(HX.o _ (by simpa using xc)).mono ?_;rintro e w2 ⟨rfl,rfl⟩)
        all_goals
         go_wp2;go_roundg (s.size+1 - (j+1+1))
         case measure=>omega
         case rel=>exact⟨j+1+1,rfl,by omega,by go_num,(l.o.put d (by omega) (decide (z04 s j=x)) (by rw[H.o,r.o];rfl)).like rfl rfl rfl rfl⟩
     | cls neg rs=>
      subst J;obtain⟨rfl,b,T,ae,a8,ah,am,rfl,Q,a4⟩:=z.o;have t:z3y (.cls neg rs) F s 0=false:=rfl;have K:∀j,z3y (.cls neg rs) F s (j+1)=(F j&&(z33 rs (z04 s j) != neg)):=fun _=>rfl;have u:=hid t;have H:=hid K;clear t K;cases i with
      | zero=>
       go_wp2;go_roundg (s.size+1 - 1)
       case measure=>omega
       case rel=>exact⟨1,rfl,by omega,rfl,l.o.skip u.o⟩
      | succ j=>
       have I:=l.o.row.cell (i:=j) (by omega);have bj:=z0t s j;have L:(j:Int) < s.size:=by omega
       have U:IntKind.i64.wrap (j:Int)=(j:Int):=IntWalk.i64_in _ (by omega);have a1:(j:Int) < (s.size:Int)+1:=by omega
       cases hFj:F j with
       | false=>
        simp only[hFj] at I;have r:=hid hFj;clear hFj;go_wp2
        go_region
        go_wp2;go_roundg (s.size+1 - (j+1+1))
        case measure=>omega
        case rel=>exact⟨j+1+1,rfl,by omega,by go_num,(l.o.put d (by omega) false (by rw[H.o,r.o];rfl)).like rfl rfl rfl rfl⟩
       | true=>
        simp only[hFj] at I;have r:=hid hFj;clear hFj;have V:∀W:World,W.cell? ⟨b,z04 s j,none⟩=some (.bool (z33 rs (z04 s j)))→W.cell? ⟨T,0,none⟩=some (.bool neg)→Calls prog 367 #[.int .u8 (z04 s j:Int),.pointer (some ⟨b,0,none⟩),.pointer (some ⟨T,0,none⟩)] W fun e w'=>e=.returned (.bool (z33 rs (z04 s j) != neg))∧∃n,w'=W.drewN n:=fun W hW a9=>zyd _ b T _ neg W bj hW a9;have HX:=hid V;clear V;have xc:wr.cell? ⟨b,z04 s j,none⟩=some (.bool (z33 rs (z04 s j))):=(l.o.fr.cell? (p:=⟨b,z04 s j,none⟩) (by show b < w.heap.size;omega) (by simp)).trans (Q.cell bj);have ac:wr.cell? ⟨T,0,none⟩=some (.bool neg):=(l.o.fr.cell? (p:=⟨T,0,none⟩) (by show T < w.heap.size;omega) (by simp)).trans (a4.cell 0);go_wp2
        go_region_with (refine(HX.o _ (by simpa using xc) (by simpa using ac)).mono ?_;rintro e w2 ⟨rfl,n2,rfl⟩)
        all_goals
         go_wp2;go_roundg (s.size+1 - (j+1+1))
         case measure=>omega
         case rel=>exact⟨j+1+1,rfl,by omega,by go_num,(l.o.put d (by omega) ((z33 rs (z04 s j) != neg)) (by rw[H.o,r.o];rfl)).like rfl rfl rfl rfl⟩
    ·have ag:i=s.size+1:=by omega
     go_wp2;go_roundg (ps.length - (k+1))
     case measure=>omega
     case rel=>
      refine⟨k+1,g1+1,rfl,by omega,by go_num,rfl,?_,by omega,l.o.fr⟩;rw[zht HP.o,←HF.o];exact l.o.nx.congr (fun j hj=>by rw[Xf (by omega)])
  ·have Z:k=ps.length:=by omega
   have cL:=D.o.row.cell (i:=s.size) (by omega);have ab:=hid Z;clear Z;go_wp2;go_ret;have:=ab.o;subst this;rw[Ym];exact⟨rfl,D.o.fr⟩
theorem zei{l:YX}(hl:l.length≤1000000)(ht:∀s∈l,s.size≤281474976710656):(zho l).Small:=
 ⟨by show -9223372036854775808≤(2:Int)∧(2:Int)≤9223372036854775807;omega,by show(⟨#[]⟩:YY).size≤_;decide,by show l.length≤_;omega,by show 0≤_;omega,by show 0≤_;omega,ht,(fun p hp=>by cases hp),(fun p hp=>by cases hp)⟩
def tA:YY:=⟨#[97]⟩
def tB:YY:=⟨#[98]⟩
def tC:YY:=⟨#[99]⟩
def tD:YY:=⟨#[100]⟩
def zpr:Itm:=zho [tA,tB,tA]
theorem q4f(w):Calls prog 111 #[] w (zxp zpr w):=by
 go_enter Tryz.func111,Tryz.ntmps111;go_wp2;refine Xg (v:=.agg #[.int .i64 2,.string ⟨#[]⟩,.slice (some ⟨w.heap.size+1,0,none⟩) 3 3,.slice none 0 0,.slice none 0 0]) (by simp[results,Tryz.results111,go_sem]) rfl ?_;have a:=heap_alloc_new (w.alloc (.cells #[.int .i64 2,.string ⟨#[]⟩,.slice (some ⟨w.heap.size+1,0,none⟩) 3 3,.slice none 0 0,.slice none 0 0] 68)) (.cells #[.string ⟨#[97]⟩,.string ⟨#[98]⟩,.string ⟨#[97]⟩] 9);have b:(w.alloc (.cells #[.int .i64 2,.string ⟨#[]⟩,.slice (some ⟨w.heap.size+1,0,none⟩) 3 3,.slice none 0 0,.slice none 0 0] 68)).heap.size=w.heap.size+1:=by simp
 rw[b] at a;exact⟨_,rfl,⟨_,_,_,rfl,⟨rfl,.inr ⟨w.heap.size+1,3,_,rfl,by omega,a,Xb _,by decide,rfl,rfl⟩⟩,⟨rfl,.inl ⟨rfl,rfl⟩⟩,⟨rfl,.inl ⟨rfl,rfl⟩⟩⟩,((Fr.refl [] w).alloc _).alloc _⟩
end
end Go.Proofs.YtnmoajaelmimnaaGreatDoor
